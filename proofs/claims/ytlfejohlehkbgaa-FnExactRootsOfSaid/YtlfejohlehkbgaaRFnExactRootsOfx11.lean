-- Written by a program of this session out of the loaded functions' print; helper lemmas as print.sh lays them.
import Derived.Test.YtlfejohlehkbgaaUp2
import Derived.Test.YtlfejohlehkbgaaUp
import Derived.Test.YtlfejohlehkbgaaRel
import Derived.Test.YtlfejohlehkbgaaRFnExactRootsOfx0
import Derived.Test.YtlfejohlehkbgaaRFnExactRootsOfx6
import Derived.Test.YtlfejohlehkbgaaRFnExactRootsOfx7
import Derived.Test.YtlfejohlehkbgaaRFnExactRootsOfx8
import Derived.Test.YtlfejohlehkbgaaRFnExactRootsOfx9
import Derived.Test.YtlfejohlehkbgaaRFnExactRootsOfx10
namespace Go.Proofs.Ytlfejohlehkbgaa.PFnExactRootsOf
open Go.RowKit Go.Proofs.YtlfejohlehkbgaaW.PrintWords Go.Proofs.YtlfejohlehkbgaaW.PrintLast Go.Proofs.YtlfejohlehkbgaaW.PrintMore
attribute [local go_sem] max2_int min2_int max_two min_two max_three min_three max_four min_four go_fstore go_fneg go_fadd go_fsub go_fmul go_fquo go_fmax go_fmin go_fconv go_bits go_frombits  -- for this text's walks alone
set_option linter.unusedVariables false
set_option linter.unusedSimpArgs false

/-! ### impl_RootStep: function 9 -/
section
open Go.Proofs.Ytlfejohlehkbgaa.Flo (Rt Rp Rq Rd Sp Vt mRe mIm dRe dIm den denBad al toldS opS)
mutual
def impl_RootStep.j0 : Nat → List Nat → List (S42) → Bool → Option ((List (S42)) × Bool)
 | 0, _, _, _ => none
 | k + 1, x0, x1, x23 => if x23 = true then (some (([] : List (S42)), false)) else (impl_RootStep.l0 k x0 x1 x1 (x1.length : Int) 0)
def impl_RootStep.l0 : Nat → List Nat → List (S42) → List (S42) → Int → Int → Option ((List (S42)) × Bool)
 | 0, _, _, _, _, _ => none
 | k + 1, x0, x1, x24, x25, x26 => if x26 < x25 then (if 0 ≤ x26 then (if x26 < (x24.length : Int) then ((impl_goodPoint.f ((rd_T42 x24 x26).f0) ((rd_T42 x24 x26).f1)).bind fun t270 => (if t270 = true then (impl_RootStep.l0 k x0 x1 x24 x25 (wrap64 (x26 + 1))) else (some (([] : List (S42)), false)))) else (none)) else (none)) else (if ([] : List (S42)).length + x1.length < 8796093022208 then ((some (([] : List (S42)) ++ x1 : List (S42))).bind fun y272 => (impl_RootStep.l1 k x0 y272 (y272.length : Int) 0 false)) else (none))
def impl_RootStep.l1 : Nat → List Nat → List (S42) → Int → Int → Bool → Option ((List (S42)) × Bool)
 | 0, _, _, _, _, _ => none
 | k + 1, x0, x9, x37, x38, x272000 => if x38 < x37 then (if 0 ≤ x38 then (if x38 < (x9.length : Int) then ((Flo.hornS k x0 (wrap64 ((x0.length : Int) - 1)) (al ((rd_T42 x9 x38).f0)) (al ((rd_T42 x9 x38).f1)) (some 0) (some 0)).bind fun bt276 => (impl_RootStep.l2 k x0 x9 x38 x37 x38 (x9.length : Int) 0 x272000 bt276.1 bt276.2)) else (none)) else (none)) else (some (x9, true))
def impl_RootStep.l2 : Nat → List Nat → List (S42) → Int → Int → Int → Int → Int → Bool → Option Nat → Option Nat → Option ((List (S42)) × Bool)
 | 0, _, _, _, _, _, _, _, _, _, _ => none
 | k + 1, x0, x9, x10, x37, x38, x48, x49, x272000, x280000, x280001 => if x49 < x48 then (if x49 = x10 then (impl_RootStep.l2 k x0 x9 x10 x37 x38 x48 (wrap64 (x49 + 1)) x272000 x280000 x280001) else (if 0 ≤ x10 then (if x10 < (x9.length : Int) then (if 0 ≤ x49 then (if x49 < (x9.length : Int) then ((some (dRe x280000 x280001 (opS .sub (al ((rd_T42 x9 x10).f0)) (al ((rd_T42 x9 x49).f0))) (opS .sub (al ((rd_T42 x9 x10).f1)) (al ((rd_T42 x9 x49).f1))), dIm x280000 x280001 (opS .sub (al ((rd_T42 x9 x10).f0)) (al ((rd_T42 x9 x49).f0))) (opS .sub (al ((rd_T42 x9 x10).f1)) (al ((rd_T42 x9 x49).f1))))).bind fun bt290 => (impl_RootStep.l2 k x0 x9 x10 x37 x38 x48 (wrap64 (x49 + 1)) x272000 bt290.1 bt290.2)) else (none)) else (none)) else (none)) else (none))) else (if 0 ≤ x10 then (if x10 < (x9.length : Int) then ((some ((toldS (opS .sub (al ((rd_T42 x9 x10).f0)) x280000) (opS .sub (al ((rd_T42 x9 x10).f1)) x280001)).1, (toldS (opS .sub (al ((rd_T42 x9 x10).f0)) x280000) (opS .sub (al ((rd_T42 x9 x10).f1)) x280001)).2.1, !(toldS (opS .sub (al ((rd_T42 x9 x10).f0)) x280000) (opS .sub (al ((rd_T42 x9 x10).f1)) x280001)).2.2)).bind fun bt281 => (if bt281.2.2 = true then (some (([] : List (S42)), false)) else (impl_RootStep.l1 k x0 (x9.set (x10 : Int).toNat (⟨bt281.1, bt281.2.1⟩ : S42)) x37 (wrap64 (x38 + 1)) bt281.2.2))) else (none)) else (none))
end
def impl_RootStep.f (k : Nat) (l0 : List Nat) (l1 : List (S42)) : Option ((List (S42)) × Bool) := (impl_rootable.f k l0).bind fun t267 => (if t267 = true then (impl_RootStep.j0 k l0 l1 ((l1.length : Int) != (wrap64 ((l0.length : Int) - 1)))) else (impl_RootStep.j0 k l0 l1 true))
theorem impl_RootStep.mono_l : ∀ k, (∀ y0 y1 y2, LeO (impl_RootStep.j0 k y0 y1 y2) (impl_RootStep.j0 (k + 1) y0 y1 y2)) ∧ (∀ y0 y1 y2 y3 y4, LeO (impl_RootStep.l0 k y0 y1 y2 y3 y4) (impl_RootStep.l0 (k + 1) y0 y1 y2 y3 y4)) ∧ (∀ y0 y1 y2 y3 y4, LeO (impl_RootStep.l1 k y0 y1 y2 y3 y4) (impl_RootStep.l1 (k + 1) y0 y1 y2 y3 y4)) ∧ (∀ y0 y1 y2 y3 y4 y5 y6 y7 y8 y9, LeO (impl_RootStep.l2 k y0 y1 y2 y3 y4 y5 y6 y7 y8 y9) (impl_RootStep.l2 (k + 1) y0 y1 y2 y3 y4 y5 y6 y7 y8 y9))
 | 0 => ⟨fun _ _ _ r h => by simp [impl_RootStep.j0] at h, fun _ _ _ _ _ r h => by simp [impl_RootStep.l0] at h, fun _ _ _ _ _ r h => by simp [impl_RootStep.l1] at h, fun _ _ _ _ _ _ _ _ _ _ r h => by simp [impl_RootStep.l2] at h⟩
 | k + 1 => by
  obtain ⟨ih0, ih1, ih2, ih3⟩ := impl_RootStep.mono_l k
  refine ⟨?_, ?_, ?_, ?_⟩
  ·intro y0 y1 y2
   unfold impl_RootStep.j0
   repeat' first
   | (with_reducible exact ih0 _ _ _)
   | (with_reducible exact ih1 _ _ _ _ _)
   | (with_reducible exact ih2 _ _ _ _ _)
   | (with_reducible exact ih3 _ _ _ _ _ _ _ _ _ _)
   | (with_reducible exact fun r h => Flo.hornS_mono _ _ _ _ _ _ _ r h)
   | (with_reducible exact impl_rootable.mono _ _)
   | (with_reducible exact LeO.refl _)
   | (with_reducible exact LeO.none _)
   | (with_reducible refine LeO.ite ?_ ?_)
   | (with_reducible refine LeO.bind ?_ (fun _ => ?_))
   | exact ih0 _ _ _
   | exact ih1 _ _ _ _ _
   | exact ih2 _ _ _ _ _
   | exact ih3 _ _ _ _ _ _ _ _ _ _
   | exact fun r h => Flo.hornS_mono _ _ _ _ _ _ _ r h
   | exact impl_rootable.mono _ _
   | exact LeO.none _
   | refine LeO.ite ?_ ?_
   | refine LeO.bind ?_ (fun _ => ?_)
  ·intro y0 y1 y2 y3 y4
   unfold impl_RootStep.l0
   repeat' first
   | (with_reducible exact ih0 _ _ _)
   | (with_reducible exact ih1 _ _ _ _ _)
   | (with_reducible exact ih2 _ _ _ _ _)
   | (with_reducible exact ih3 _ _ _ _ _ _ _ _ _ _)
   | (with_reducible exact fun r h => Flo.hornS_mono _ _ _ _ _ _ _ r h)
   | (with_reducible exact impl_rootable.mono _ _)
   | (with_reducible exact LeO.refl _)
   | (with_reducible exact LeO.none _)
   | (with_reducible refine LeO.ite ?_ ?_)
   | (with_reducible refine LeO.bind ?_ (fun _ => ?_))
   | exact ih0 _ _ _
   | exact ih1 _ _ _ _ _
   | exact ih2 _ _ _ _ _
   | exact ih3 _ _ _ _ _ _ _ _ _ _
   | exact fun r h => Flo.hornS_mono _ _ _ _ _ _ _ r h
   | exact impl_rootable.mono _ _
   | exact LeO.none _
   | refine LeO.ite ?_ ?_
   | refine LeO.bind ?_ (fun _ => ?_)
  ·intro y0 y1 y2 y3 y4
   unfold impl_RootStep.l1
   repeat' first
   | (with_reducible exact ih0 _ _ _)
   | (with_reducible exact ih1 _ _ _ _ _)
   | (with_reducible exact ih2 _ _ _ _ _)
   | (with_reducible exact ih3 _ _ _ _ _ _ _ _ _ _)
   | (with_reducible exact fun r h => Flo.hornS_mono _ _ _ _ _ _ _ r h)
   | (with_reducible exact impl_rootable.mono _ _)
   | (with_reducible exact LeO.refl _)
   | (with_reducible exact LeO.none _)
   | (with_reducible refine LeO.ite ?_ ?_)
   | (with_reducible refine LeO.bind ?_ (fun _ => ?_))
   | exact ih0 _ _ _
   | exact ih1 _ _ _ _ _
   | exact ih2 _ _ _ _ _
   | exact ih3 _ _ _ _ _ _ _ _ _ _
   | exact fun r h => Flo.hornS_mono _ _ _ _ _ _ _ r h
   | exact impl_rootable.mono _ _
   | exact LeO.none _
   | refine LeO.ite ?_ ?_
   | refine LeO.bind ?_ (fun _ => ?_)
  ·intro y0 y1 y2 y3 y4 y5 y6 y7 y8 y9
   unfold impl_RootStep.l2
   repeat' first
   | (with_reducible exact ih0 _ _ _)
   | (with_reducible exact ih1 _ _ _ _ _)
   | (with_reducible exact ih2 _ _ _ _ _)
   | (with_reducible exact ih3 _ _ _ _ _ _ _ _ _ _)
   | (with_reducible exact fun r h => Flo.hornS_mono _ _ _ _ _ _ _ r h)
   | (with_reducible exact impl_rootable.mono _ _)
   | (with_reducible exact LeO.refl _)
   | (with_reducible exact LeO.none _)
   | (with_reducible refine LeO.ite ?_ ?_)
   | (with_reducible refine LeO.bind ?_ (fun _ => ?_))
   | exact ih0 _ _ _
   | exact ih1 _ _ _ _ _
   | exact ih2 _ _ _ _ _
   | exact ih3 _ _ _ _ _ _ _ _ _ _
   | exact fun r h => Flo.hornS_mono _ _ _ _ _ _ _ r h
   | exact impl_rootable.mono _ _
   | exact LeO.none _
   | refine LeO.ite ?_ ?_
   | refine LeO.bind ?_ (fun _ => ?_)
theorem impl_RootStep.mono : ∀ a0 a1 k, LeO (impl_RootStep.f k a0 a1) (impl_RootStep.f (k + 1) a0 a1) := by
 intro a0 a1 k
 obtain ⟨ih0, ih1, ih2, ih3⟩ := impl_RootStep.mono_l k
 unfold impl_RootStep.f
 repeat' first
   | (with_reducible exact ih0 _ _ _)
   | (with_reducible exact ih1 _ _ _ _ _)
   | (with_reducible exact ih2 _ _ _ _ _)
   | (with_reducible exact ih3 _ _ _ _ _ _ _ _ _ _)
   | (with_reducible exact fun r h => Flo.hornS_mono _ _ _ _ _ _ _ r h)
   | (with_reducible exact impl_rootable.mono _ _)
   | (with_reducible exact LeO.refl _)
   | (with_reducible exact LeO.none _)
   | (with_reducible refine LeO.ite ?_ ?_)
   | (with_reducible refine LeO.bind ?_ (fun _ => ?_))
   | exact ih0 _ _ _
   | exact ih1 _ _ _ _ _
   | exact ih2 _ _ _ _ _
   | exact ih3 _ _ _ _ _ _ _ _ _ _
   | exact fun r h => Flo.hornS_mono _ _ _ _ _ _ _ r h
   | exact impl_rootable.mono _ _
   | exact LeO.none _
   | refine LeO.ite ?_ ?_
   | refine LeO.bind ?_ (fun _ => ?_)
def impl_RootStep.T19 : Bool × List (List Nat × List Nat) := (true, [([], []), ([], []), ([], []), ([1, 2], [1, 2]), ([3], [3]), ([], []), ([], []), ([5, 6], [5, 6]), ([7], [7]), ([4, 8], [4, 8]), ([0, 9, 9], [0, 9]), ([10, 10, 0, 1, 2, 3, 4, 5, 6, 7, 8, 9, 10], [10])])
def impl_RootStep.B19 : List Nat := [0, 0, 0, 6, 14, 0, 0, 96, 224, 510, 1023, 2047]
theorem impl_RootStep.tab19 : rtab .any (opsOf Try.f9 19) = impl_RootStep.T19 := by kernel_rfl
theorem impl_RootStep.bits19 : waitsOk impl_RootStep.T19.2 impl_RootStep.B19 = true := by kernel_rfl
def impl_RootStep.T21 : Bool × List (List Nat × List Nat) := (true, [([], []), ([], []), ([], []), ([], []), ([2, 3], [2, 3]), ([4], [4]), ([], []), ([5, 6], [5, 6]), ([0, 1, 0, 1, 2, 3, 4, 5, 6, 7], [0, 1]), ([8, 7, 7, 0, 1, 2, 3, 4, 5, 6, 7], [7, 8])])
def impl_RootStep.B21 : List Nat := [0, 0, 0, 0, 12, 28, 0, 124, 255, 511]
theorem impl_RootStep.tab21 : rtab .any (opsOf Try.f9 21) = impl_RootStep.T21 := by kernel_rfl
theorem impl_RootStep.bits21 : waitsOk impl_RootStep.T21.2 impl_RootStep.B21 = true := by kernel_rfl
set_option maxHeartbeats 8000000 in
set_option maxRecDepth 100000 in
theorem impl_RootStep.calls (k : Nat) (A0 : Option Addr) (c0 : Nat) (l0 : List Nat) (A1 : Option Addr) (c1 : Nat) (l1 : List (S42)) (r1 : List (S42)) (r2 : Bool) (w : World) (hr0 : Kd.C Kd.flt w A0 l0.length l0) (hc0 : l0.length ≤ c0) (hr1 : Kd.C k42 w A1 l1.length l1) (hc1 : l1.length ≤ c1) (h : impl_RootStep.f k l0 l1 = some (r1, r2)) :
  Calls Try.prog 9 #[.slice A0 l0.length c0, .slice A1 l1.length c1] w fun e w' => ∃ v0_ : Value, e = .returned (.tuple #[v0_, .bool r2]) ∧ Kd.R k42 42 w' w.heap.size (fun _ => True) v0_ r1 ∧ Below w.heap.size w w' := by
 have hu42 := Try.underlying42
 have hu47 := Try.underlying47
 have HR0 := Aside0.mk hr0
 have HC0 := Aside0.mk hc0
 clear hr0 hc0
 have HR1 := Aside0.mk hr1
 have HC1 := Aside0.mk hc1
 clear hr1 hc1
 have HB := a_ (Below.refl w.heap.size w)
 have H : ((impl_rootable.f k l0).bind fun t267 => (if t267 = true then (impl_RootStep.j0 k l0 l1 ((l1.length : Int) != (wrap64 ((l0.length : Int) - 1)))) else (impl_RootStep.j0 k l0 l1 true))) = some (r1, r2) := h
 clear h
 have HC3 := Aside0.mk H
 clear H
 go_enter Try.func9, Try.ntmps9
 go_upto_region 1 with (fail)
 go_cut [23] (fun v23 wc => ∃ (kq : Nat) (x23_2 : Bool), v23 = .bool x23_2 ∧ Aside0 (impl_RootStep.j0 kq l0 l1 x23_2 = some (r1, r2)) ∧ Aside0 (kq ≤ k) ∧ Aside0 (Below w.heap.size w wc))
 case first =>
  have H := HC3.out
  clear HC3
  replace H := Option.bind_eq_some_iff.mp H
  obtain ⟨t267, A40, H⟩ := H
  replace H : (if t267 = true then (impl_RootStep.j0 k l0 l1 ((l1.length : Int) != (wrap64 ((l0.length : Int) - 1)))) else (impl_RootStep.j0 k l0 l1 true)) = some (r1, r2) := H
  have A4 := Aside0.mk A40
  clear A40
  by_cases c5 : t267 = true
  ·subst c5
   have H1 : (impl_RootStep.j0 k l0 l1 ((l1.length : Int) != (wrap64 ((l0.length : Int) - 1)))) = some (r1, r2) := by rw [if_pos rfl] at H; exact H
   clear H
   have H := H1
   clear H1
   have H' := Aside0.mk H
   clear H
   go_wp2_with (first | ((with_reducible refine gate_callee (f := 21) rfl ?_); refine goesL_ (some 14) rfl rfl Try.func21 (by kernel_rfl) rfl #[.slice A0 l0.length c0] rfl (by (try simp only [lA, lB, lC]); first | done | rfl | (simp only [lD, lE]; rfl)) ?_; (with_reducible refine (impl_rootable.calls k _ _ l0 true _ ?side1 ?side2 A4.out).mono ?_); (case side1 => exact Kd.C_below HR0.out (un HB.out)); (case side2 => exact HC0.out); rintro e w' ⟨rfl, ⟨nd, rfl⟩⟩; refine ⟨_, rfl, ?_⟩))
   go_meet
   case rel => exact ⟨_, (((l1.length : Int) != (wrap64 ((l0.length : Int) - 1)))), (by first | rfl | (simp; done) | (simp [*]; done)), H', ⟨by first | omega | exact Nat.le_refl _⟩, ⟨un HB.out⟩⟩
  ·replace c5 := Bool.eq_false_iff.mpr c5
   subst c5
   have H1 : (impl_RootStep.j0 k l0 l1 true) = some (r1, r2) := by rw [if_neg (show ¬ (false = true) by decide)] at H; exact H
   clear H
   have H := H1
   clear H1
   have H' := Aside0.mk H
   clear H
   go_wp2_with (first | ((with_reducible refine gate_callee (f := 21) rfl ?_); refine goesL_ (some 14) rfl rfl Try.func21 (by kernel_rfl) rfl #[.slice A0 l0.length c0] rfl (by (try simp only [lA, lB, lC]); first | done | rfl | (simp only [lD, lE]; rfl)) ?_; (with_reducible refine (impl_rootable.calls k _ _ l0 false _ ?side1 ?side2 A4.out).mono ?_); (case side1 => exact Kd.C_below HR0.out (un HB.out)); (case side2 => exact HC0.out); rintro e w' ⟨rfl, ⟨nd, rfl⟩⟩; refine ⟨_, rfl, ?_⟩))
   go_meet
   case rel => exact ⟨_, (true), (by first | rfl | (simp; done) | (simp [*]; done)), H', ⟨by first | omega | exact Nat.le_refl _⟩, ⟨un HB.out⟩⟩
 case rest =>
  clear HC3
  try clear c1; try clear c2; try clear p2; try clear c5
  obtain ⟨kq, x23_2, rfl, HA, HJ2, HB⟩ := hcut
  cases kq with
  | zero => exact absurd HA.out (by simp [impl_RootStep.j0])
  | succ kj2 =>
   have H := HA.out
   clear HA
   simp only [impl_RootStep.j0] at H
   by_cases c6 : x23_2 = true
   ·subst c6
    have H1 : (some (([] : List (S42)), false)) = some (r1, r2) := by rw [if_pos rfl] at H; exact H
    clear H
    have H := H1
    clear H1
    simp only [Option.some.injEq, Prod.mk.injEq] at H
    obtain ⟨rfl, rfl⟩ := H
    go_wp2
    go_ret2
    exact ⟨_, by first | rfl | (simp [errW_none, errW_some] <;> rfl) | (simp [*, errW_none, errW_some] <;> rfl), by first | exact Kd.R_nil _ _ _ _ _ | exact Kd.N_nil _ _ _ _ _ | exact Kd.V_nil _ _ _ _ _ | exact Kd.Q_nil _ _ _ _ _ | exact Kd.S_nil _ _ _ _ _, un HB.out⟩
   ·replace c6 := Bool.eq_false_iff.mpr c6
    subst c6
    have H1 : (impl_RootStep.l0 kj2 l0 l1 l1 (l1.length : Int) 0) = some (r1, r2) := by rw [if_neg (show ¬ (false = true) by decide)] at H; exact H
    clear H
    have H := H1
    clear H1
    have H' := Aside0.mk H
    clear H
    go_wp2
    go_loopg [26] kj2 (fun kq v26 w' => ∃ (x26_2 : Int), v26 = .int .i64 x26_2 ∧ Aside0 (impl_RootStep.l0 kq l0 l1 l1 (l1.length : Int) x26_2 = some (r1, r2)) ∧ Aside0 (kq ≤ kj2) ∧ Aside0 (Below w.heap.size w w'))
    case atStart => exact ⟨(0), (by first | rfl | (simp; done) | (simp [*]; done)), H', ⟨Nat.le_refl _⟩, ⟨un HB.out⟩⟩
    case round =>
     clear H'
     try clear c1; try clear c2; try clear p2; try clear c5; try clear c6; try clear p6; try clear p2
     obtain ⟨x26_2, rfl, HA, HK2, HB⟩ := hrel
     cases gk with
     | zero => exact absurd HA.out (by simp [impl_RootStep.l0])
     | succ k2 =>
      have H := HA.out
      clear HA
      simp only [impl_RootStep.l0] at H
      by_cases c7 : x26_2 < (l1.length : Int)
      ·rw [if_pos c7] at H
       have c7b0 : decide (x26_2 < (l1.length : Int)) = true := decide_eq_true c7
       clear c7
       by_cases c8 : 0 ≤ x26_2
       ·rw [if_pos c8] at H
        have c8b0 : decide (0 ≤ x26_2) = true := decide_eq_true c8
        clear c8
        by_cases c9 : x26_2 < (l1.length : Int)
        ·rw [if_pos c9] at H
         have c9b0 : decide (x26_2 < (l1.length : Int)) = true := decide_eq_true c9
         clear c9
         replace H := Option.bind_eq_some_iff.mp H
         obtain ⟨t270, A100, H⟩ := H
         replace H : (if t270 = true then (impl_RootStep.l0 k2 l0 l1 l1 (l1.length : Int) (wrap64 (x26_2 + 1))) else (some (([] : List (S42)), false))) = some (r1, r2) := H
         have A10 := Aside0.mk A100
         clear A100
         by_cases c11 : t270 = true
         ·subst c11
          have H1 : (impl_RootStep.l0 k2 l0 l1 l1 (l1.length : Int) (wrap64 (x26_2 + 1))) = some (r1, r2) := by rw [if_pos rfl] at H; exact H
          clear H
          have H := H1
          clear H1
          have H' := Aside0.mk H
          clear H
          have p268 : 0 ≤ (x26_2 : Int) := of_decide_eq_true (by first | (with_reducible assumption) | assumption)
          have q268 : x26_2 < (l1.length : Int) := of_decide_eq_true (by first | (with_reducible assumption) | assumption)
          obtain ⟨ad268, e268, hx268_0, hx268_1⟩ := at_T42 HR1.out x26_2 p268 q268
          cases e268
          replace hx268_0 := (HB.out.cell (World.block_lt_of_cell? w _ hx268_0)).trans hx268_0
          replace hx268_1 := (HB.out.cell (World.block_lt_of_cell? w _ hx268_1)).trans hx268_1
          replace p268 := eq_true p268
          replace q268 := eq_true q268
          go_wp2_with (first | ((with_reducible refine gate_dst (N := 7) rfl ?_); (try (refine gate_guard (by rfl) ?_; dsimp only)); refine box_event ?hg (N := 7) ?hd (cs := #[.float .f64 (0 : Nat), .float .f64 (0 : Nat)]) (t := 42) ?hr ?_; (case hd => rfl); (case hg => rfl); (case hr => first | (go_simp; done) | (go_simp; rfl)); intro gb269 hg w12 hbox hb; have BK269 := a_ (hbox); have GW269 := a_ (bsg hg HB.out); have GE269 := a_ (bsg hg HB.out); replace HB := a_ (below_step (un HB.out) hb); clear hb hbox hg; have hcz13_0 : _ = some (Value.float .f64 (0 : Nat)) := (blk_cell BK269.out 0).trans rfl; have hcz13_1 : _ = some (Value.float .f64 (0 : Nat)) := (blk_cell BK269.out 1).trans rfl; have hfz13_0 := blk_frozen BK269.out 0; have hfz13_1 := blk_frozen BK269.out 1) | ((with_reducible refine gate_callee (f := 22) rfl ?_); refine goesL_ (some 31) rfl rfl Try.func22 (by kernel_rfl) rfl #[.agg #[.float .f64 ((rd_T42 l1 x26_2).f0), .float .f64 ((rd_T42 l1 x26_2).f1)]] rfl (by (try simp only [lA, lB, lC]); first | done | rfl | (simp only [lD, lE]; rfl)) ?_; (with_reducible refine (impl_goodPoint.calls ((rd_T42 l1 x26_2).f0) ((rd_T42 l1 x26_2).f1) true _ A10.out).mono ?_); rintro e w14 ⟨rfl, hb⟩; refine ⟨_, rfl, ?_⟩; replace BK269 := a_ (blk_below (g := gb269) (o := .cells #[.float .f64 ((rd_T42 l1 x26_2).f0), .float .f64 ((rd_T42 l1 x26_2).f1)] 42 (0, 0)) (by refine pk ?_; refine blk_put (cs := #[.float .f64 ((rd_T42 l1 x26_2).f0), .float .f64 (0 : Nat)]) ?_ 1 _ rfl; refine pk ?_; refine blk_put (cs := #[.float .f64 (0 : Nat), .float .f64 (0 : Nat)]) ?_ 0 _ rfl; refine pk ?_; exact BK269.out) hb); replace HB := a_ (below_step (by repeat (with_reducible first | exact HB.out | refine bz ?_ (by assumption) | apply bA | apply bN | apply bD)) hb); clear hb))
          go_roundg k2
          case measure => have := HJ2.out; have := HK2.out; omega
          case rel => exact ⟨(wrap64 (x26_2 + 1)), (by first | rfl | (simp; done) | (simp [*]; done)), H', ⟨by have := HJ2.out; have := HK2.out; omega⟩, ⟨by repeat (with_reducible first | exact HB.out | refine bz ?_ (by assumption) | apply bA | apply bN | apply bD)⟩⟩
         ·replace c11 := Bool.eq_false_iff.mpr c11
          subst c11
          have H1 : (some (([] : List (S42)), false)) = some (r1, r2) := by rw [if_neg (show ¬ (false = true) by decide)] at H; exact H
          clear H
          have H := H1
          clear H1
          simp only [Option.some.injEq, Prod.mk.injEq] at H
          obtain ⟨rfl, rfl⟩ := H
          have p268 : 0 ≤ (x26_2 : Int) := of_decide_eq_true (by first | (with_reducible assumption) | assumption)
          have q268 : x26_2 < (l1.length : Int) := of_decide_eq_true (by first | (with_reducible assumption) | assumption)
          obtain ⟨ad268, e268, hx268_0, hx268_1⟩ := at_T42 HR1.out x26_2 p268 q268
          cases e268
          replace hx268_0 := (HB.out.cell (World.block_lt_of_cell? w _ hx268_0)).trans hx268_0
          replace hx268_1 := (HB.out.cell (World.block_lt_of_cell? w _ hx268_1)).trans hx268_1
          replace p268 := eq_true p268
          replace q268 := eq_true q268
          go_wp2_with (first | ((with_reducible refine gate_dst (N := 7) rfl ?_); (try (refine gate_guard (by rfl) ?_; dsimp only)); refine box_event ?hg (N := 7) ?hd (cs := #[.float .f64 (0 : Nat), .float .f64 (0 : Nat)]) (t := 42) ?hr ?_; (case hd => rfl); (case hg => rfl); (case hr => first | (go_simp; done) | (go_simp; rfl)); intro gb269 hg w15 hbox hb; have BK269 := a_ (hbox); have GW269 := a_ (bsg hg HB.out); have GE269 := a_ (bsg hg HB.out); replace HB := a_ (below_step (un HB.out) hb); clear hb hbox hg; have hcz16_0 : _ = some (Value.float .f64 (0 : Nat)) := (blk_cell BK269.out 0).trans rfl; have hcz16_1 : _ = some (Value.float .f64 (0 : Nat)) := (blk_cell BK269.out 1).trans rfl; have hfz16_0 := blk_frozen BK269.out 0; have hfz16_1 := blk_frozen BK269.out 1) | ((with_reducible refine gate_callee (f := 22) rfl ?_); refine goesL_ (some 31) rfl rfl Try.func22 (by kernel_rfl) rfl #[.agg #[.float .f64 ((rd_T42 l1 x26_2).f0), .float .f64 ((rd_T42 l1 x26_2).f1)]] rfl (by (try simp only [lA, lB, lC]); first | done | rfl | (simp only [lD, lE]; rfl)) ?_; (with_reducible refine (impl_goodPoint.calls ((rd_T42 l1 x26_2).f0) ((rd_T42 l1 x26_2).f1) false _ A10.out).mono ?_); rintro e w17 ⟨rfl, hb⟩; refine ⟨_, rfl, ?_⟩; replace BK269 := a_ (blk_below (g := gb269) (o := .cells #[.float .f64 ((rd_T42 l1 x26_2).f0), .float .f64 ((rd_T42 l1 x26_2).f1)] 42 (0, 0)) (by refine pk ?_; refine blk_put (cs := #[.float .f64 ((rd_T42 l1 x26_2).f0), .float .f64 (0 : Nat)]) ?_ 1 _ rfl; refine pk ?_; refine blk_put (cs := #[.float .f64 (0 : Nat), .float .f64 (0 : Nat)]) ?_ 0 _ rfl; refine pk ?_; exact BK269.out) hb); replace HB := a_ (below_step (by repeat (with_reducible first | exact HB.out | refine bz ?_ (by assumption) | apply bA | apply bN | apply bD)) hb); clear hb))
          go_ret2
          exact ⟨_, by first | rfl | (simp [errW_none, errW_some] <;> rfl) | (simp [*, errW_none, errW_some] <;> rfl), by first | exact Kd.R_nil _ _ _ _ _ | exact Kd.N_nil _ _ _ _ _ | exact Kd.V_nil _ _ _ _ _ | exact Kd.Q_nil _ _ _ _ _ | exact Kd.S_nil _ _ _ _ _, by repeat (with_reducible first | exact HB.out | refine bz ?_ (by assumption) | apply bA | apply bN | apply bD)⟩
        ·rw [if_neg c9] at H
         exact absurd H (by simp)
       ·rw [if_neg c8] at H
        exact absurd H (by simp)
      ·rw [if_neg c7] at H
       have c7b0 : decide (x26_2 < (l1.length : Int)) = false := decide_eq_false c7
       clear c7
       by_cases c18 : ([] : List (S42)).length + l1.length < 8796093022208
       ·rw [if_pos c18] at H
        have LMc18 := Aside0.mk c18
        clear c18
        obtain ⟨y272, hy272⟩ : ∃ y_ : List (S42), y_ = (([] : List (S42)) ++ l1) := ⟨_, rfl⟩
        replace H : (impl_RootStep.l1 k2 l0 y272 (y272.length : Int) 0 false) = some (r1, r2) := by first | (rw [hy272]; with_reducible exact H) | (have H2_ := (Option.bind_some _ _).symm.trans H; rw [hy272]; with_reducible exact H2_) | (have H2_ := (Option.bind_some _ _).symm.trans H; with_reducible exact H2_) | with_reducible exact H | (rw [hy272]; exact H) | exact H
        have Ny272 := Aside0.mk hy272
        clear hy272
        have H' := Aside0.mk H
        clear H
        go_wp2_with (first | ((with_reducible refine gate_dst (N := 8) rfl ?_); (try (refine gate_guard (by rfl) ?_; dsimp only)); refine box_event ?hg (N := 8) ?hd (cs := #[.bool false]) (t := 47) ?hr ?_; (case hd => rfl); (case hg => rfl); (case hr => first | (go_simp; done) | (go_simp; rfl)); intro gb271 hg w19 hbox hb; have GW271 := a_ (bsg hg HB.out); have GE271 := a_ (bsg hg HB.out); have HI271 := a_ (show IsS47 w w19 gb271 false from ⟨hbox, (by rw [hg]; exact (below_size (un HB.out)) : w.heap.size ≤ gb271)⟩); replace HB := a_ (below_step (un HB.out) hb); clear hb hbox hg) | ((with_reducible refine gate_builtin (b := .append) (xs := #[.const (.slice none 0 0), .tmp 34]) rfl ?_); (try (refine gate_guard (by rfl) ?_; dsimp only)); at_builtin; refine Kd.R_append_rows k42 (w0 := w) w.heap.size rfl (.const (.slice none 0 0)) (.tmp 34) 25 42 (.agg #[(.float .f64 0), (.float .f64 0)]) 16 rfl Try.underlying25 info42 rfl (by decide) (by omega) (.slice none 0 0) ([] : List (S42)) l1 _ _ _ (fun _ => True) (fun _ => False) rfl rfl ?aO ?aR (fun _ _ h => h) (fun _ h => h.elim) ?aF ?aB ?aS ?aL ?_; (case aR => exact Kd.C_below HR1.out (un HB.out)); (case aB => exact (by repeat (first | (with_reducible first | exact HB.out | apply below_alloc | apply pw_below_drewN | apply below_drew1 | refine below_set ?_ (IsS47.ge HI271.out)) | exact HB.out))); (case aF => exact (fun _ _ => trivial)); (case aO => exact (Kd.R_nil _ _ _ _ (fun _ => True))); (case aS => exact (below_size (by repeat (first | (with_reducible first | exact HB.out | apply below_alloc | apply pw_below_drewN | apply below_drew1 | refine below_set ?_ (IsS47.ge HI271.out)) | exact HB.out)))); (case aL => have := LMc18.out; omega); intro v273 w20 ho hb hg hat; rw [← Ny272.out] at ho; replace HI271 := a_ (IsS47.grown (show IsS47 w _ gb271 false from by repeat (first | (with_reducible first | exact HI271.out | apply IsS47.alloc | apply IsS47.drewN | apply IsS47.drew | apply IsS47.set_0) | exact HI271.out)) hg (by simp [Value.ownBlock])); replace HB := a_ (hb); have HO274 := a_ (ho); clear ho hb hg hat; obtain ⟨Ao21, co21, eo21⟩ := Kd.R_slice HO274.out; subst eo21))
        go_loopg [38] k2 (fun kq v38 w' => ∃ (x9_3 : List (S42)) (x38_3 : Int), v38 = .int .i64 x38_3 ∧ Aside0 (impl_RootStep.l1 kq l0 x9_3 (y272.length : Int) x38_3 false = some (r1, r2)) ∧ Aside0 (kq ≤ k2) ∧ Aside0 (Kd.R k42 42 w' w.heap.size (fun _ => True) (.slice Ao21 y272.length co21) x9_3) ∧ Aside0 (IsS47 w w' gb271 false) ∧ Aside0 (Below w.heap.size w w'))
        case atStart => exact ⟨(y272), (0), (by first | rfl | (simp; done) | (simp [*]; done)), H', ⟨Nat.le_refl _⟩, ⟨rk (HO274.out)⟩, ⟨by repeat (first | (with_reducible first | exact HI271.out | apply IsS47.alloc | apply IsS47.drewN | apply IsS47.drew | apply IsS47.set_0) | exact HI271.out)⟩, ⟨by repeat (first | (with_reducible first | exact HB.out | apply below_alloc | apply pw_below_drewN | apply below_drew1 | refine below_set ?_ (IsS47.ge HI271.out)) | exact HB.out)⟩⟩
        case round =>
         clear H'
         try clear c1; try clear c2; try clear p2; try clear q2; try clear hx2; try clear c5; try clear c6; try clear p6; try clear c7; try clear c7b0; try clear c8; try clear c8b0; try clear c9; try clear c9b0; try clear c11; try clear c18; try clear c21; try clear hcz13_0; try clear hcz13_1; try clear hcz16_0; try clear hcz16_1; try clear hfz13_0; try clear hfz13_1; try clear hfz16_0; try clear hfz16_1; try clear hx268_0; try clear hx268_1; try clear p2; try clear p268; try clear p6; try clear q268
         obtain ⟨x9_3, x38_3, rfl, HA, HK3, HO_9, HI271, HB⟩ := hrel
         have hl9_3 := (Kd.R_reads' HO_9.out).1
         rw [hl9_3] at HO_9
         (try simp only [hl9_3])
         cases gk with
         | zero => exact absurd HA.out (by simp [impl_RootStep.l1])
         | succ k3 =>
          have H := HA.out
          clear HA
          simp only [impl_RootStep.l1] at H
          by_cases c22 : x38_3 < (y272.length : Int)
          ·rw [if_pos c22] at H
           have c22b0 : decide (x38_3 < (y272.length : Int)) = true := decide_eq_true c22
           clear c22
           by_cases c23 : 0 ≤ x38_3
           ·rw [if_pos c23] at H
            have c23b0 : decide (0 ≤ x38_3) = true := decide_eq_true c23
            clear c23
            by_cases c24 : x38_3 < (x9_3.length : Int)
            ·rw [if_pos c24] at H
             have c24b0 : decide (x38_3 < (x9_3.length : Int)) = true := decide_eq_true c24
             clear c24
             replace H := Option.bind_eq_some_iff.mp H
             obtain ⟨⟨Z0, Z1⟩, A250, H⟩ := H
             replace H : (impl_RootStep.l2 k3 l0 x9_3 x38_3 (y272.length : Int) x38_3 (x9_3.length : Int) 0 false Z0 Z1) = some (r1, r2) := H
             have A25 := Aside0.mk A250
             clear A250
             have H' := Aside0.mk H
             clear H
             have p275 : 0 ≤ (x38_3 : Int) := of_decide_eq_true (by first | (with_reducible assumption) | assumption)
             have q275 : x38_3 < (x9_3.length : Int) := of_decide_eq_true (by first | (with_reducible assumption) | assumption)
             obtain ⟨ad275, e275, hx275_0, hx275_1⟩ := at_T42 (Kd.R_reads' HO_9.out).2.2 x38_3 p275 q275
             cases e275
             replace p275 := eq_true p275
             replace q275 := eq_true q275
             go_wp2_with (first | ((with_reducible refine gate_callee (f := 23) rfl ?_); refine goesL_ (some 46) rfl rfl Try.func23 (by kernel_rfl) rfl #[.pointer (some ⟨gb271, 0, none⟩), .slice A0 l0.length c0, .agg #[.float .f64 ((rd_T42 x9_3 x38_3).f0), .float .f64 ((rd_T42 x9_3 x38_3).f1)]] rfl (by (try simp only [lA, lB, lC]); first | done | rfl | (simp only [lD, lE]; rfl)) ?_; (with_reducible refine (impl_reals_at.rel k3 gb271 false _ _ l0 ((rd_T42 x9_3 x38_3).f0) ((rd_T42 x9_3 x38_3).f1) Z0 Z1 w _ ?side1 ?side2 ?side3 ?side4 ?side5 A25.out).mono ?_); (case side1 => repeat (first | (with_reducible first | exact HI271.out | apply IsS47.alloc | apply IsS47.drewN | apply IsS47.drew | apply IsS47.set_0) | exact HI271.out)); (case side2 => repeat (first | (with_reducible first | exact HB.out | apply below_alloc | apply pw_below_drewN | apply below_drew1 | refine below_set ?_ (IsS47.ge HI271.out)) | exact HB.out)); (case side3 => exact Kd.C_below HR0.out (un HB.out)); (case side4 => exact HC0.out); (case side5 => exact Kd.far_C (0 : Nat) HR0.out (IsS47.ge HI271.out)); rintro e w26 ⟨t276, t277, t278, S0_, rfl, hi, hb, hk⟩; refine ⟨_, rfl, ?_⟩; replace HO_9 := a_ (Kd.R_mono (Kd.R_keep (IsS47.apart (show IsS47 w _ gb271 false from by repeat (first | (with_reducible first | exact HI271.out | apply IsS47.alloc | apply IsS47.drewN | apply IsS47.drew | apply IsS47.set_0) | exact HI271.out)) (rk HO_9.out) (by decide)) hk (fun _ h => h.2)) (fun _ h => h.1)); replace HB := a_ (hb); replace HI271 := a_ (hi); clear hb hk hi) | ((with_reducible refine gate_dst (N := 11) rfl ?_); (try (refine gate_guard (by rfl) ?_; dsimp only)); refine box_event ?hg (N := 11) ?hd (cs := #[.float .f64 (0 : Nat), .float .f64 (0 : Nat)]) (t := 42) ?hr ?_; (case hd => rfl); (case hg => rfl); (case hr => first | (go_simp; done) | (go_simp; rfl)); intro gb279 hg w27 hbox hb; replace HO_9 := a_ (Kd.R_below (Kd.R_elderB (rk HO_9.out) gb279 (Nat.le_of_eq hg.symm)) hb); have BK279 := a_ (hbox); have GW279 := a_ (by rw [hg]; exact (below_size (by repeat (first | (with_reducible first | exact HB.out | apply below_alloc | apply pw_below_drewN | apply below_drew1 | refine below_set ?_ (IsS47.ge HI271.out)) | exact HB.out))) : w.heap.size ≤ gb279); have GE279 := a_ (by rw [hg]; exact (below_size (by repeat (first | (with_reducible first | exact HB.out | apply below_alloc | apply pw_below_drewN | apply below_drew1 | refine below_set ?_ (IsS47.ge HI271.out)) | exact HB.out))) : w.heap.size ≤ gb279); replace HB := a_ (below_step (by repeat (first | (with_reducible first | exact HB.out | apply below_alloc | apply pw_below_drewN | apply below_drew1 | refine below_set ?_ (IsS47.ge HI271.out)) | exact HB.out)) hb); have NB271_279 := a_ (by rw [hg]; exact Nat.ne_of_lt (IsS47.lt (show IsS47 w _ gb271 t278 from by repeat (first | (with_reducible first | exact HI271.out | apply IsS47.alloc | apply IsS47.drewN | apply IsS47.drew | apply IsS47.set_0) | exact HI271.out))) : gb271 ≠ gb279); have NB279_271 := a_ (by rw [hg]; exact Nat.ne_of_gt (IsS47.lt (show IsS47 w _ gb271 t278 from by repeat (first | (with_reducible first | exact HI271.out | apply IsS47.alloc | apply IsS47.drewN | apply IsS47.drew | apply IsS47.set_0) | exact HI271.out))) : gb279 ≠ gb271); replace HI271 := a_ (IsS47.below (by repeat (first | (with_reducible first | exact HI271.out | apply IsS47.alloc | apply IsS47.drewN | apply IsS47.drew | apply IsS47.set_0) | exact HI271.out)) hb); clear hb hbox hg; have hnb28 := NB279_271.out; have hnc28 := NB271_279.out; have hcz29_0 : _ = some (Value.float .f64 (0 : Nat)) := (blk_cell BK279.out 0).trans rfl; have hcz29_1 : _ = some (Value.float .f64 (0 : Nat)) := (blk_cell BK279.out 1).trans rfl; have hfz29_0 := blk_frozen BK279.out 0; have hfz29_1 := blk_frozen BK279.out 1))
             go_loopg [49] k3 (fun kq v49 w' => ∃ (x49_4 : Int) (Z0 : Option Nat) (Z1 : Option Nat) (x280000_4 : Nat) (x280001_4 : Nat) (bd : Bool), v49 = .int .i64 x49_4 ∧ Aside0 (impl_RootStep.l2 kq l0 x9_3 x38_3 (y272.length : Int) x38_3 (x9_3.length : Int) x49_4 false Z0 Z1 = some (r1, r2)) ∧ Aside0 (kq ≤ k3) ∧ Aside0 (Rq Z0 Z1 false x280000_4 x280001_4 bd) ∧ Aside0 (Kd.R k42 42 w' w.heap.size (fun k_ => k_ ≠ gb279) (.slice (some ad275) x9_3.length co21) x9_3) ∧ Aside0 (w'.heap[gb279]? = some (.cells #[.float .f64 x280000_4, .float .f64 x280001_4] 42 (0, 0))) ∧ Aside0 (IsS47 w w' gb271 bd) ∧ Aside0 (Below w.heap.size w w'))
             case atStart => exact ⟨(0), (Z0), (Z1), (t276), (t277), (t278), (by first | rfl | (simp; done) | (simp [*]; done)), H', ⟨Nat.le_refl _⟩, ⟨Flo.Rp.rq S0_⟩, ⟨by (try simp only [hl9_3]); refine rk ?_; exact Kd.R_mono (Kd.R_far (p := ⟨gb279, 1, none⟩) (Kd.R_far (p := ⟨gb279, 0, none⟩) (Kd.R_mono HO_9.out (fun k_ hk => (⟨hk, hk.2⟩ : _ ∧ k_ ≠ gb279))) (fun _ hk => hk.2) (.float .f64 t276)) (fun _ hk => hk.2) (.float .f64 t277)) (fun _ hk => hk.1.2)⟩, ⟨by (try simp only [hl9_3]); refine pk ?_; refine blk_put (cs := #[.float .f64 t276, .float .f64 (0 : Nat)]) ?_ 1 _ rfl; refine pk ?_; refine blk_put (cs := #[.float .f64 (0 : Nat), .float .f64 (0 : Nat)]) ?_ 0 _ rfl; refine pk ?_; exact BK279.out⟩, ⟨by repeat (first | (with_reducible first | exact HI271.out | apply IsS47.alloc | apply IsS47.drewN | apply IsS47.drew | apply IsS47.set_0 | refine IsS47.far ?_ NB271_279.out _) | exact HI271.out)⟩, ⟨by repeat (first | (with_reducible first | exact HB.out | apply below_alloc | apply pw_below_drewN | apply below_drew1 | refine below_set ?_ (IsS47.ge HI271.out) | refine below_set ?_ GE279.out) | exact HB.out)⟩⟩
             case round =>
              clear H'
              try clear c1; try clear c2; try clear p2; try clear q2; try clear hx2; try clear c5; try clear c6; try clear p6; try clear c7; try clear c7b0; try clear c8; try clear c8b0; try clear c9; try clear c9b0; try clear c11; try clear c18; try clear c21; try clear c22; try clear c22b0; try clear c23; try clear c23b0; try clear c24; try clear c24b0; try clear p26; try clear q26; try clear hx26; try clear p27; try clear q27; try clear hx27; try clear c28; try clear hcz13_0; try clear hcz13_1; try clear hcz16_0; try clear hcz16_1; try clear hcz29_0; try clear hcz29_1; try clear hfz13_0; try clear hfz13_1; try clear hfz16_0; try clear hfz16_1; try clear hfz29_0; try clear hfz29_1; try clear hx268_0; try clear hx268_1; try clear hx275_0; try clear hx275_1; try clear p2; try clear p268; try clear p275; try clear p6; try clear q2; try clear q268; try clear q275
              obtain ⟨x49_4, Z0, Z1, x280000_4, x280001_4, bd, rfl, HA, HK4, HS, HO_9, BK279, HI271, HB⟩ := hrel
              cases gk with
              | zero => exact absurd HA.out (by simp [impl_RootStep.l2])
              | succ k4 =>
               have H := HA.out
               clear HA
               simp only [impl_RootStep.l2] at H
               by_cases c30 : x49_4 < (x9_3.length : Int)
               ·rw [if_pos c30] at H
                have c30b0 : decide (x49_4 < (x9_3.length : Int)) = true := decide_eq_true c30
                clear c30
                by_cases c31 : x49_4 = x38_3
                ·rw [if_pos c31] at H
                 have c31b0 : (x49_4 == x38_3) = true := beq_iff_eq.mpr c31
                 have c31b1 : (x49_4 != x38_3) = false := bne_eq_false_iff_eq.mpr c31
                 clear c31
                 have H' := Aside0.mk H
                 clear H
                 go_wp2
                 go_roundg k4
                 case measure => have := HJ2.out; have := HK2.out; have := HK3.out; have := HK4.out; omega
                 case rel => exact ⟨(wrap64 (x49_4 + 1)), (Z0), (Z1), (x280000_4), (x280001_4), (bd), (by first | rfl | (simp; done) | (simp [*]; done)), H', ⟨by have := HJ2.out; have := HK2.out; have := HK3.out; have := HK4.out; omega⟩, HS, ⟨by (try simp only [hl9_3]); refine rk ?_; exact HO_9.out⟩, ⟨by (try simp only [hl9_3]); refine pk ?_; exact BK279.out⟩, ⟨by repeat (first | (with_reducible first | exact HI271.out | apply IsS47.alloc | apply IsS47.drewN | apply IsS47.drew | apply IsS47.set_0 | refine IsS47.far ?_ NB271_279.out _) | exact HI271.out)⟩, ⟨by repeat (first | (with_reducible first | exact HB.out | apply below_alloc | apply pw_below_drewN | apply below_drew1 | refine below_set ?_ (IsS47.ge HI271.out) | refine below_set ?_ GE279.out) | exact HB.out)⟩⟩
                ·rw [if_neg c31] at H
                 have c31b0 : (x49_4 == x38_3) = false := beq_eq_false_iff_ne.mpr c31
                 have c31b1 : (x49_4 != x38_3) = true := bne_iff_ne.mpr c31
                 by_cases c32 : 0 ≤ x38_3
                 ·rw [if_pos c32] at H
                  have c32b0 : decide (0 ≤ x38_3) = true := decide_eq_true c32
                  clear c32
                  by_cases c33 : x38_3 < (x9_3.length : Int)
                  ·rw [if_pos c33] at H
                   have c33b0 : decide (x38_3 < (x9_3.length : Int)) = true := decide_eq_true c33
                   clear c33
                   by_cases c34 : 0 ≤ x49_4
                   ·rw [if_pos c34] at H
                    have c34b0 : decide (0 ≤ x49_4) = true := decide_eq_true c34
                    clear c34
                    by_cases c35 : x49_4 < (x9_3.length : Int)
                    ·rw [if_pos c35] at H
                     have c35b0 : decide (x49_4 < (x9_3.length : Int)) = true := decide_eq_true c35
                     clear c35
                     replace H := Option.bind_eq_some_iff.mp H
                     obtain ⟨⟨T0, T1⟩, A370, H⟩ := H
                     replace H : (impl_RootStep.l2 k4 l0 x9_3 x38_3 (y272.length : Int) x38_3 (x9_3.length : Int) (wrap64 (x49_4 + 1)) false T0 T1) = some (r1, r2) := H
                     have A37 := Aside0.mk A370
                     clear A370
                     have H' := Aside0.mk H
                     clear H
                     try go_wp2
                     replace HO_9 := a_ (Kd.R_drew HO_9.out)
                     replace BK279 := a_ (blk_drew BK279.out)
                     replace HI271 := a_ (IsS47.drew HI271.out)
                     replace HB := a_ (below_drew1 HB.out)
                     have p285 : 0 ≤ (x38_3 : Int) := of_decide_eq_true (by first | (with_reducible assumption) | assumption)
                     have q285 : x38_3 < (x9_3.length : Int) := of_decide_eq_true (by first | (with_reducible assumption) | assumption)
                     obtain ⟨ad285, e285, hx285_0, hx285_1⟩ := at_T42 (Kd.R_reads' HO_9.out).2.2 x38_3 p285 q285
                     obtain rfl : ad275 = ad285 := (by injection e285)
                     replace p285 := eq_true p285
                     replace q285 := eq_true q285
                     have p286 : 0 ≤ (x49_4 : Int) := of_decide_eq_true (by first | (with_reducible assumption) | assumption)
                     have q286 : x49_4 < (x9_3.length : Int) := of_decide_eq_true (by first | (with_reducible assumption) | assumption)
                     obtain ⟨ad286, e286, hx286_0, hx286_1⟩ := at_T42 (Kd.R_reads' HO_9.out).2.2 x49_4 p286 q286
                     obtain rfl : ad275 = ad286 := (by injection e286)
                     replace p286 := eq_true p286
                     replace q286 := eq_true q286
                     refine start_ (n := 12) (S := fun w' => w'.cell? ⟨gb279, 0, none⟩ = some (.float .f64 x280000_4) ∧ w'.cell? ⟨gb279, 1, none⟩ = some (.float .f64 x280001_4) ∧ w'.cell? (ad275.add ((x38_3).toNat * 2)) = some (.float .f64 ((rd_T42 x9_3 x38_3).f0)) ∧ w'.cell? ⟨(ad275.add ((x38_3).toNat * 2)).block, (ad275.add ((x38_3).toNat * 2)).off + 1, none⟩ = some (.float .f64 ((rd_T42 x9_3 x38_3).f1)) ∧ w'.cell? (ad275.add ((x49_4).toNat * 2)) = some (.float .f64 ((rd_T42 x9_3 x49_4).f0)) ∧ w'.cell? ⟨(ad275.add ((x49_4).toNat * 2)).block, (ad275.add ((x49_4).toNat * 2)).off + 1, none⟩ = some (.float .f64 ((rd_T42 x9_3 x49_4).f1))) (ds := [11]) #[false, false, false, false, false, false, false, false, false, false, false, false] (by kernel_rfl) rfl rfl ⟨(blk_cell BK279.out 0).trans rfl, (blk_cell BK279.out 1).trans rfl, hx285_0, hx285_1, hx286_0, hx286_1⟩ (fun hHeld => ?_); refine with_tabW impl_RootStep.tab19 impl_RootStep.bits19 (fun HT_ HW_ => ?_)
                     generalize wr.drew = w38 at HO_9 BK279 HI271 HB hx285_0 hx285_1 hx286_0 hx286_1 hHeld ⊢
                     refine pure_ (i := 1) (N := some 56) (v := ?_) (a' := ?_) #[false, true, false, false, false, false, false, false, false, false, false, false] rfl rfl (any_of HT_.out (by kernel_rfl)) (fun _ _ _ h => h) (Or.inl ⟨by rfl, ?_⟩) ?_ ?_
                     rotate_left
                     ·intro w'
                      go_simp
                      with_reducible rfl
                     rotate_left
                     ·simp only [Act.put, sB, sC, sD, i64_w, i32_w]
                      rfl
                     refine pure_ (i := 2) (N := some 57) (v := ?_) (a' := ?_) #[false, true, true, false, false, false, false, false, false, false, false, false] rfl rfl (any_of HT_.out (by kernel_rfl)) (fun _ _ _ h => h) (Or.inl ⟨by rfl, ?_⟩) ?_ ?_
                     rotate_left
                     ·intro w'
                      go_simp
                      with_reducible rfl
                     rotate_left
                     ·simp only [Act.put, sB, sC, sD, i64_w, i32_w]
                      rfl
                     refine pure_ (i := 3) (N := some 58) (v := ?_) (a' := ?_) #[false, true, true, true, false, false, false, false, false, false, false, false] rfl rfl (any_of HT_.out (by kernel_rfl)) (fun _ _ _ h => h) (Or.inl ⟨by rfl, ?_⟩) ?_ ?_
                     rotate_left
                     ·intro w'
                      go_simp
                      with_reducible rfl
                     rotate_left
                     ·simp only [Act.put, sB, sC, sD, i64_w, i32_w]
                      rfl
                     refine pure_ (i := 5) (N := some 60) (v := ?_) (a' := ?_) #[false, true, true, true, false, true, false, false, false, false, false, false] rfl rfl (any_of HT_.out (by kernel_rfl)) (fun _ _ _ h => h) (Or.inl ⟨by rfl, ?_⟩) ?_ ?_
                     rotate_left
                     ·intro w'
                      go_simp
                      with_reducible rfl
                     rotate_left
                     ·simp only [Act.put, sB, sC, sD, i64_w, i32_w]
                      rfl
                     refine pure_ (i := 6) (N := some 61) (v := ?_) (a' := ?_) #[false, true, true, true, false, true, true, false, false, false, false, false] rfl rfl (any_of HT_.out (by kernel_rfl)) (fun _ _ _ h => h) (Or.inl ⟨by rfl, ?_⟩) ?_ ?_
                     rotate_left
                     ·intro w'
                      go_simp
                      with_reducible rfl
                     rotate_left
                     ·simp only [Act.put, sB, sC, sD, i64_w, i32_w]
                      rfl
                     refine pure_ (i := 7) (N := some 62) (v := ?_) (a' := ?_) #[false, true, true, true, false, true, true, true, false, false, false, false] rfl rfl (any_of HT_.out (by kernel_rfl)) (fun _ _ _ h => h) (Or.inl ⟨by rfl, ?_⟩) ?_ ?_
                     rotate_left
                     ·intro w'
                      go_simp
                      with_reducible rfl
                     rotate_left
                     ·simp only [Act.put, sB, sC, sD, i64_w, i32_w]
                      rfl
                     refine take_ (i := 0) (N := some 55) (v := ?_) (a' := ?_) #[true, true, true, true, false, true, true, true, false, false, false, false] rfl rfl (take_ofW HT_.out HW_.out (by kernel_rfl)) (fun _ _ _ h => h) (Or.inl ⟨by rfl, ?_⟩) hHeld ?_ ?_
                     rotate_left
                     ·rintro w' ⟨s0, s1, s2, s3, s4, s5⟩
                      go_simp
                      with_reducible rfl
                     rotate_left
                     ·simp only [Act.put, sB, sC, sD, i64_w, i32_w]
                      rfl
                     refine take_ (i := 4) (N := some 59) (v := ?_) (a' := ?_) #[true, true, true, true, true, true, true, true, false, false, false, false] rfl rfl (take_ofW HT_.out HW_.out (by kernel_rfl)) (fun _ _ _ h => h) (Or.inl ⟨by rfl, ?_⟩) hHeld ?_ ?_
                     rotate_left
                     ·rintro w' ⟨s0, s1, s2, s3, s4, s5⟩
                      go_simp
                      with_reducible rfl
                     rotate_left
                     ·simp only [Act.put, sB, sC, sD, i64_w, i32_w]
                      rfl
                     refine take_ (i := 8) (N := some 63) (v := ?_) (a' := ?_) #[true, true, true, true, true, true, true, true, true, false, false, false] rfl rfl (take_ofW HT_.out HW_.out (by kernel_rfl)) (fun _ _ _ h => h) (Or.inl ⟨by rfl, ?_⟩) hHeld ?_ ?_
                     rotate_left
                     ·rintro w' ⟨s0, s1, s2, s3, s4, s5⟩
                      go_simp
                      with_reducible rfl
                     rotate_left
                     ·simp only [Act.put, sB, sC, sD, i64_w, i32_w]
                      rfl
                     refine one_ (i := 9) (N := some 64) #[true, true, true, true, true, true, true, true, true, true, false, false] rfl rfl (one_of HT_.out (by kernel_rfl)) (by decide) (fun K hK => ?_)
                     refine goes_ Try.func25 (by kernel_rfl) rfl #[.pointer (some ⟨gb271, 0, none⟩), .agg #[.float .f64 ((rd_T42 x9_3 x38_3).f0), .float .f64 ((rd_T42 x9_3 x38_3).f1)], .agg #[.float .f64 ((rd_T42 x9_3 x49_4).f0), .float .f64 ((rd_T42 x9_3 x49_4).f1)]] (by rfl) rfl rfl (by (try simp only [lA, lB, lC]); first | done | rfl | (simp only [lD, lE]; rfl)) ?_
                     with_reducible refine (impl_reals_less.rel gb271 bd ((rd_T42 x9_3 x38_3).f0) ((rd_T42 x9_3 x38_3).f1) ((rd_T42 x9_3 x49_4).f0) ((rd_T42 x9_3 x49_4).f1) w _ ?side1 ?side2).mono ?_
                     (case side1 => repeat (first | (with_reducible first | exact HI271.out | apply IsS47.alloc | apply IsS47.drewN | apply IsS47.drew | apply IsS47.set_0 | refine IsS47.far ?_ NB271_279.out _) | exact HI271.out))
                     (case side2 => repeat (first | (with_reducible first | exact HB.out | apply below_alloc | apply pw_below_drewN | apply below_drew1 | refine below_set ?_ (IsS47.ge HI271.out) | refine below_set ?_ GE279.out) | exact HB.out))
                     rintro e w39 ⟨t287, t288, t289, AL_, rfl, hi, hb, hk⟩
                     have HS2_ := keep_cell hk (hHeld.2.2.1) (by first | (rw [add_block]; exact Kd.own_blk (IsS47.own_ne HI271.out HO_9.out (by decide))) | (show (Addr.add _ _).block ≠ _; rw [add_block]; exact Kd.own_blk (IsS47.own_ne HI271.out HO_9.out (by decide))) | exact Kd.own_blk (IsS47.own_ne HI271.out HO_9.out (by decide)))
                     have HS3_ := keep_cell hk (hHeld.2.2.2.1) (by first | (rw [add_block]; exact Kd.own_blk (IsS47.own_ne HI271.out HO_9.out (by decide))) | (show (Addr.add _ _).block ≠ _; rw [add_block]; exact Kd.own_blk (IsS47.own_ne HI271.out HO_9.out (by decide))) | exact Kd.own_blk (IsS47.own_ne HI271.out HO_9.out (by decide)))
                     have HS4_ := keep_cell hk (hHeld.2.2.2.2.1) (by first | (rw [add_block]; exact Kd.own_blk (IsS47.own_ne HI271.out HO_9.out (by decide))) | (show (Addr.add _ _).block ≠ _; rw [add_block]; exact Kd.own_blk (IsS47.own_ne HI271.out HO_9.out (by decide))) | exact Kd.own_blk (IsS47.own_ne HI271.out HO_9.out (by decide)))
                     have HS5_ := keep_cell hk (hHeld.2.2.2.2.2) (by first | (rw [add_block]; exact Kd.own_blk (IsS47.own_ne HI271.out HO_9.out (by decide))) | (show (Addr.add _ _).block ≠ _; rw [add_block]; exact Kd.own_blk (IsS47.own_ne HI271.out HO_9.out (by decide))) | exact Kd.own_blk (IsS47.own_ne HI271.out HO_9.out (by decide)))
                     refine ⟨_, rfl, ?_⟩
                     replace HO_9 := a_ (Kd.R_mono (Kd.R_keep (IsS47.apart (show IsS47 w _ gb271 bd from by repeat (first | (with_reducible first | exact HI271.out | apply IsS47.alloc | apply IsS47.drewN | apply IsS47.drew | apply IsS47.set_0 | refine IsS47.far ?_ NB271_279.out _) | exact HI271.out)) (rk HO_9.out) (by decide)) hk (fun _ h => h.2)) (fun _ h => h.1))
                     replace BK279 := a_ (KeepBut.blk hk (g' := gb279) (o := .cells #[.float .f64 x280000_4, .float .f64 x280001_4] 42 (0, 0)) (pk BK279.out) NB279_271.out (by simp))
                     replace HB := a_ (hb)
                     replace HI271 := a_ (hi)
                     (try clear hb)
                     (try clear hb2)
                     (try clear hk)
                     (try clear hi)
                     refine hK.out _ _ ⟨(blk_cell BK279.out 0).trans rfl, (blk_cell BK279.out 1).trans rfl, HS2_, HS3_, HS4_, HS5_⟩ (fun hHeld => ?_)
                     clear hK K
                     refine norm_ (a' := ?_) ?_ ?_
                     rotate_left
                     ·show Act.put _ (some 64) _ = _
                      simp only [Act.put, sB, sC, sD, i64_w, i32_w]
                      rfl
                     refine one_ (i := 10) (N := some 65) #[true, true, true, true, true, true, true, true, true, true, true, false] rfl rfl (one_of HT_.out (by kernel_rfl)) (by decide) (fun K hK => ?_)
                     refine goes_ Try.func24 (by kernel_rfl) rfl #[.pointer (some ⟨gb271, 0, none⟩), .agg #[.float .f64 x280000_4, .float .f64 x280001_4], .agg #[.float .f64 t287, .float .f64 t288]] (by rfl) rfl rfl (by (try simp only [lA, lB, lC]); first | done | rfl | (simp only [lD, lE]; rfl)) ?_
                     with_reducible refine (impl_reals_over.rel gb271 t289 x280000_4 x280001_4 t287 t288 w _ ?side1 ?side2).mono ?_
                     (case side1 => repeat (first | (with_reducible first | exact HI271.out | apply IsS47.alloc | apply IsS47.drewN | apply IsS47.drew | apply IsS47.set_0 | refine IsS47.far ?_ NB271_279.out _) | exact HI271.out))
                     (case side2 => repeat (first | (with_reducible first | exact HB.out | apply below_alloc | apply pw_below_drewN | apply below_drew1 | refine below_set ?_ (IsS47.ge HI271.out) | refine below_set ?_ GE279.out) | exact HB.out))
                     rintro e w40 ⟨t290, t291, t292, AO_, rfl, hi, hb, hk⟩
                     have HS2_ := keep_cell hk (hHeld.2.2.1) (by first | (rw [add_block]; exact Kd.own_blk (IsS47.own_ne HI271.out HO_9.out (by decide))) | (show (Addr.add _ _).block ≠ _; rw [add_block]; exact Kd.own_blk (IsS47.own_ne HI271.out HO_9.out (by decide))) | exact Kd.own_blk (IsS47.own_ne HI271.out HO_9.out (by decide)))
                     have HS3_ := keep_cell hk (hHeld.2.2.2.1) (by first | (rw [add_block]; exact Kd.own_blk (IsS47.own_ne HI271.out HO_9.out (by decide))) | (show (Addr.add _ _).block ≠ _; rw [add_block]; exact Kd.own_blk (IsS47.own_ne HI271.out HO_9.out (by decide))) | exact Kd.own_blk (IsS47.own_ne HI271.out HO_9.out (by decide)))
                     have HS4_ := keep_cell hk (hHeld.2.2.2.2.1) (by first | (rw [add_block]; exact Kd.own_blk (IsS47.own_ne HI271.out HO_9.out (by decide))) | (show (Addr.add _ _).block ≠ _; rw [add_block]; exact Kd.own_blk (IsS47.own_ne HI271.out HO_9.out (by decide))) | exact Kd.own_blk (IsS47.own_ne HI271.out HO_9.out (by decide)))
                     have HS5_ := keep_cell hk (hHeld.2.2.2.2.2) (by first | (rw [add_block]; exact Kd.own_blk (IsS47.own_ne HI271.out HO_9.out (by decide))) | (show (Addr.add _ _).block ≠ _; rw [add_block]; exact Kd.own_blk (IsS47.own_ne HI271.out HO_9.out (by decide))) | exact Kd.own_blk (IsS47.own_ne HI271.out HO_9.out (by decide)))
                     refine ⟨_, rfl, ?_⟩
                     replace HO_9 := a_ (Kd.R_mono (Kd.R_keep (IsS47.apart (show IsS47 w _ gb271 t289 from by repeat (first | (with_reducible first | exact HI271.out | apply IsS47.alloc | apply IsS47.drewN | apply IsS47.drew | apply IsS47.set_0 | refine IsS47.far ?_ NB271_279.out _) | exact HI271.out)) (rk HO_9.out) (by decide)) hk (fun _ h => h.2)) (fun _ h => h.1))
                     replace BK279 := a_ (KeepBut.blk hk (g' := gb279) (o := .cells #[.float .f64 x280000_4, .float .f64 x280001_4] 42 (0, 0)) (pk BK279.out) NB279_271.out (by simp))
                     replace HB := a_ (hb)
                     replace HI271 := a_ (hi)
                     (try clear hb)
                     (try clear hb2)
                     (try clear hk)
                     (try clear hi)
                     refine hK.out _ _ ⟨(blk_cell BK279.out 0).trans rfl, (blk_cell BK279.out 1).trans rfl, HS2_, HS3_, HS4_, HS5_⟩ (fun hHeld => ?_)
                     clear hK K
                     refine norm_ (a' := ?_) ?_ ?_
                     rotate_left
                     ·show Act.put _ (some 65) _ = _
                      simp only [Act.put, sB, sC, sD, i64_w, i32_w]
                      rfl
                     refine last_ (i := 11) (N := none) #[true, true, true, true, true, true, true, true, true, true, true, true] rfl rfl (one_of HT_.out (by kernel_rfl)) (by decide) (fun K hK => ?_)
                     have hs41 : w40.cell? ⟨gb279, 0, none⟩ = some (.float .f64 x280000_4) := (blk_cell BK279.out 0).trans rfl
                     have hfs41 := blk_frozen BK279.out 0
                     have hs42 : w40.cell? ⟨gb279, 1, none⟩ = some (.float .f64 x280001_4) := (blk_cell BK279.out 1).trans rfl
                     have hfs42 := blk_frozen BK279.out 1
                     refine skip_ (w1 := ?_) ?_ ?_ ?_ ?_
                     rotate_left
                     ·rfl
                     ·rfl
                     ·go_simp
                      rfl
                     refine hK.out _ _ ?_
                     clear hK K
                     refine done_ (done_of HT_.out (by kernel_rfl)) ?_
                     try go_wp2
                     go_roundg k4
                     case measure => have := HJ2.out; have := HK2.out; have := HK3.out; have := HK4.out; omega
                     case rel => exact ⟨(wrap64 (x49_4 + 1)), (T0), (T1), (t290), (t291), (t292), (by first | rfl | (simp; done) | (simp [*]; done)), H', ⟨by have := HJ2.out; have := HK2.out; have := HK3.out; have := HK4.out; omega⟩, ⟨Flo.rq_step HS.out AL_ AO_ A37.out⟩, ⟨by (try simp only [hl9_3]); refine rk ?_; exact Kd.R_mono (Kd.R_far (p := ⟨gb279, 1, none⟩) (Kd.R_far (p := ⟨gb279, 0, none⟩) (Kd.R_mono HO_9.out (fun k_ hk => (⟨hk, hk⟩ : _ ∧ k_ ≠ gb279))) (fun _ hk => hk.2) (.float .f64 t290)) (fun _ hk => hk.2) (.float .f64 t291)) (fun _ hk => hk.1)⟩, ⟨by (try simp only [hl9_3]); refine pk ?_; refine blk_put (cs := #[.float .f64 t290, .float .f64 x280001_4]) ?_ 1 _ rfl; refine pk ?_; refine blk_put (cs := #[.float .f64 x280000_4, .float .f64 x280001_4]) ?_ 0 _ rfl; refine pk ?_; exact BK279.out⟩, ⟨by repeat (first | (with_reducible first | exact HI271.out | apply IsS47.alloc | apply IsS47.drewN | apply IsS47.drew | apply IsS47.set_0 | refine IsS47.far ?_ NB271_279.out _) | exact HI271.out)⟩, ⟨by repeat (first | (with_reducible first | exact HB.out | apply below_alloc | apply pw_below_drewN | apply below_drew1 | refine below_set ?_ (IsS47.ge HI271.out) | refine below_set ?_ GE279.out) | exact HB.out)⟩⟩
                    ·rw [if_neg c35] at H
                     exact absurd H (by simp)
                   ·rw [if_neg c34] at H
                    exact absurd H (by simp)
                  ·rw [if_neg c33] at H
                   exact absurd H (by simp)
                 ·rw [if_neg c32] at H
                  exact absurd H (by simp)
               ·rw [if_neg c30] at H
                have c30b0 : decide (x49_4 < (x9_3.length : Int)) = false := decide_eq_false c30
                clear c30
                by_cases c43 : 0 ≤ x38_3
                ·rw [if_pos c43] at H
                 have c43b0 : decide (0 ≤ x38_3) = true := decide_eq_true c43
                 clear c43
                 by_cases c44 : x38_3 < (x9_3.length : Int)
                 ·rw [if_pos c44] at H
                  have c44b0 : decide (x38_3 < (x9_3.length : Int)) = true := decide_eq_true c44
                  clear c44
                  replace H := Option.bind_eq_some_iff.mp H
                  obtain ⟨⟨t281, t282, t283⟩, A450, H⟩ := H
                  replace H : (if t283 = true then (some (([] : List (S42)), false)) else (impl_RootStep.l1 k4 l0 (x9_3.set (x38_3 : Int).toNat (⟨t281, t282⟩ : S42)) (y272.length : Int) (wrap64 (x38_3 + 1)) t283)) = some (r1, r2) := H
                  have A45 := Aside0.mk A450
                  clear A450
                  obtain ⟨y284, hy284⟩ : ∃ y_ : List (S42), y_ = (x9_3.set (x38_3 : Int).toNat (⟨t281, t282⟩ : S42)) := ⟨_, rfl⟩
                  replace H : (if t283 = true then (some (([] : List (S42)), false)) else (impl_RootStep.l1 k4 l0 y284 (y272.length : Int) (wrap64 (x38_3 + 1)) t283)) = some (r1, r2) := by first | (rw [hy284]; with_reducible exact H) | (have H2_ := (Option.bind_some _ _).symm.trans H; rw [hy284]; with_reducible exact H2_) | (have H2_ := (Option.bind_some _ _).symm.trans H; with_reducible exact H2_) | with_reducible exact H | (rw [hy284]; exact H) | exact H
                  have Ny284 := Aside0.mk hy284
                  clear hy284
                  by_cases c47 : t283 = true
                  ·subst c47
                   have H1 : (some (([] : List (S42)), false)) = some (r1, r2) := by rw [if_pos rfl] at H; exact H
                   clear H
                   have H := H1
                   clear H1
                   simp only [Option.some.injEq, Prod.mk.injEq] at H
                   obtain ⟨rfl, rfl⟩ := H
                   try go_wp2
                   replace HO_9 := a_ (Kd.R_drew HO_9.out)
                   replace BK279 := a_ (blk_drew BK279.out)
                   replace HI271 := a_ (IsS47.drew HI271.out)
                   replace HB := a_ (below_drew1 HB.out)
                   have p280 : 0 ≤ (x38_3 : Int) := of_decide_eq_true (by first | (with_reducible assumption) | assumption)
                   have q280 : x38_3 < (x9_3.length : Int) := of_decide_eq_true (by first | (with_reducible assumption) | assumption)
                   obtain ⟨ad280, e280, hx280_0, hx280_1⟩ := at_T42 (Kd.R_reads' HO_9.out).2.2 x38_3 p280 q280
                   obtain rfl : ad275 = ad280 := (by injection e280)
                   replace p280 := eq_true p280
                   replace q280 := eq_true q280
                   refine start_ (n := 10) (S := fun w' => w'.cell? ⟨gb279, 0, none⟩ = some (.float .f64 x280000_4) ∧ w'.cell? ⟨gb279, 1, none⟩ = some (.float .f64 x280001_4) ∧ w'.cell? (ad275.add ((x38_3).toNat * 2)) = some (.float .f64 ((rd_T42 x9_3 x38_3).f0)) ∧ w'.cell? ⟨(ad275.add ((x38_3).toNat * 2)).block, (ad275.add ((x38_3).toNat * 2)).off + 1, none⟩ = some (.float .f64 ((rd_T42 x9_3 x38_3).f1))) (ds := [9]) #[false, false, false, false, false, false, false, false, false, false] (by kernel_rfl) rfl rfl ⟨(blk_cell BK279.out 0).trans rfl, (blk_cell BK279.out 1).trans rfl, hx280_0, hx280_1⟩ (fun hHeld => ?_); refine with_tabW impl_RootStep.tab21 impl_RootStep.bits21 (fun HT_ HW_ => ?_)
                   generalize wr.drew = w48 at HO_9 BK279 HI271 HB hx280_0 hx280_1 hHeld ⊢
                   refine pure_ (i := 0) (N := some 67) (v := ?_) (a' := ?_) #[true, false, false, false, false, false, false, false, false, false] rfl rfl (any_of HT_.out (by kernel_rfl)) (fun _ _ _ h => h) (Or.inl ⟨by rfl, ?_⟩) ?_ ?_
                   rotate_left
                   ·intro w'
                    go_simp
                    with_reducible rfl
                   rotate_left
                   ·simp only [Act.put, sB, sC, sD, i64_w, i32_w]
                    rfl
                   refine pure_ (i := 1) (N := some 68) (v := ?_) (a' := ?_) #[true, true, false, false, false, false, false, false, false, false] rfl rfl (any_of HT_.out (by kernel_rfl)) (fun _ _ _ h => h) (Or.inl ⟨by rfl, ?_⟩) ?_ ?_
                   rotate_left
                   ·intro w'
                    go_simp
                    with_reducible rfl
                   rotate_left
                   ·simp only [Act.put, sB, sC, sD, i64_w, i32_w]
                    rfl
                   refine pure_ (i := 2) (N := some 69) (v := ?_) (a' := ?_) #[true, true, true, false, false, false, false, false, false, false] rfl rfl (any_of HT_.out (by kernel_rfl)) (fun _ _ _ h => h) (Or.inl ⟨by rfl, ?_⟩) ?_ ?_
                   rotate_left
                   ·intro w'
                    go_simp
                    with_reducible rfl
                   rotate_left
                   ·simp only [Act.put, sB, sC, sD, i64_w, i32_w]
                    rfl
                   refine pure_ (i := 3) (N := some 70) (v := ?_) (a' := ?_) #[true, true, true, true, false, false, false, false, false, false] rfl rfl (any_of HT_.out (by kernel_rfl)) (fun _ _ _ h => h) (Or.inl ⟨by rfl, ?_⟩) ?_ ?_
                   rotate_left
                   ·intro w'
                    go_simp
                    with_reducible rfl
                   rotate_left
                   ·simp only [Act.put, sB, sC, sD, i64_w, i32_w]
                    rfl
                   refine pure_ (i := 4) (N := some 71) (v := ?_) (a' := ?_) #[true, true, true, true, true, false, false, false, false, false] rfl rfl (any_of HT_.out (by kernel_rfl)) (fun _ _ _ h => h) (Or.inl ⟨by rfl, ?_⟩) ?_ ?_
                   rotate_left
                   ·intro w'
                    go_simp
                    with_reducible rfl
                   rotate_left
                   ·simp only [Act.put, sB, sC, sD, i64_w, i32_w]
                    rfl
                   refine take_ (i := 5) (N := some 72) (v := ?_) (a' := ?_) #[true, true, true, true, true, true, false, false, false, false] rfl rfl (take_ofW HT_.out HW_.out (by kernel_rfl)) (fun _ _ _ h => h) (Or.inl ⟨by rfl, ?_⟩) hHeld ?_ ?_
                   rotate_left
                   ·rintro w' ⟨s0, s1, s2, s3⟩
                    go_simp
                    with_reducible rfl
                   rotate_left
                   ·simp only [Act.put, sB, sC, sD, i64_w, i32_w]
                    rfl
                   refine take_ (i := 6) (N := some 73) (v := ?_) (a' := ?_) #[true, true, true, true, true, true, true, false, false, false] rfl rfl (take_ofW HT_.out HW_.out (by kernel_rfl)) (fun _ _ _ h => h) (Or.inl ⟨by rfl, ?_⟩) hHeld ?_ ?_
                   rotate_left
                   ·rintro w' ⟨s0, s1, s2, s3⟩
                    go_simp
                    with_reducible rfl
                   rotate_left
                   ·simp only [Act.put, sB, sC, sD, i64_w, i32_w]
                    rfl
                   refine one_ (i := 7) (N := some 74) #[true, true, true, true, true, true, true, true, false, false] rfl rfl (one_of HT_.out (by kernel_rfl)) (by decide) (fun K hK => ?_)
                   refine goes_ Try.func25 (by kernel_rfl) rfl #[.pointer (some ⟨gb271, 0, none⟩), .agg #[.float .f64 ((rd_T42 x9_3 x38_3).f0), .float .f64 ((rd_T42 x9_3 x38_3).f1)], .agg #[.float .f64 x280000_4, .float .f64 x280001_4]] (by rfl) rfl rfl (by (try simp only [lA, lB, lC]); first | done | rfl | (simp only [lD, lE]; rfl)) ?_
                   with_reducible refine (impl_reals_less.rel gb271 bd ((rd_T42 x9_3 x38_3).f0) ((rd_T42 x9_3 x38_3).f1) x280000_4 x280001_4 w _ ?side1 ?side2).mono ?_
                   (case side1 => repeat (first | (with_reducible first | exact HI271.out | apply IsS47.alloc | apply IsS47.drewN | apply IsS47.drew | apply IsS47.set_0 | refine IsS47.far ?_ NB271_279.out _) | exact HI271.out))
                   (case side2 => repeat (first | (with_reducible first | exact HB.out | apply below_alloc | apply pw_below_drewN | apply below_drew1 | refine below_set ?_ (IsS47.ge HI271.out) | refine below_set ?_ GE279.out) | exact HB.out))
                   rintro e w49 ⟨u1_, u2_, u3_, AE_, rfl, hi, hb, hk⟩
                   obtain ⟨e3_, e12_⟩ := Flo.rq_end HS.out AE_ A45.out
                   subst e3_
                   obtain ⟨y284, hy_⟩ : ∃ y_ : List (S42), y_ = (x9_3.set (x38_3 : Int).toNat (⟨u1_, u2_⟩ : S42)) := ⟨_, rfl⟩
                   have Ny284 := Aside0.mk hy_
                   clear hy_
                   have HS2_ := keep_cell hk (hHeld.2.2.1) (by first | (rw [add_block]; exact Kd.own_blk (IsS47.own_ne HI271.out HO_9.out (by decide))) | (show (Addr.add _ _).block ≠ _; rw [add_block]; exact Kd.own_blk (IsS47.own_ne HI271.out HO_9.out (by decide))) | exact Kd.own_blk (IsS47.own_ne HI271.out HO_9.out (by decide)))
                   have HS3_ := keep_cell hk (hHeld.2.2.2) (by first | (rw [add_block]; exact Kd.own_blk (IsS47.own_ne HI271.out HO_9.out (by decide))) | (show (Addr.add _ _).block ≠ _; rw [add_block]; exact Kd.own_blk (IsS47.own_ne HI271.out HO_9.out (by decide))) | exact Kd.own_blk (IsS47.own_ne HI271.out HO_9.out (by decide)))
                   refine ⟨_, rfl, ?_⟩
                   replace HO_9 := a_ (Kd.R_mono (Kd.R_keep (IsS47.apart (show IsS47 w _ gb271 bd from by repeat (first | (with_reducible first | exact HI271.out | apply IsS47.alloc | apply IsS47.drewN | apply IsS47.drew | apply IsS47.set_0 | refine IsS47.far ?_ NB271_279.out _) | exact HI271.out)) (rk HO_9.out) (by decide)) hk (fun _ h => h.2)) (fun _ h => h.1))
                   replace BK279 := a_ (KeepBut.blk hk (g' := gb279) (o := .cells #[.float .f64 x280000_4, .float .f64 x280001_4] 42 (0, 0)) (pk BK279.out) NB279_271.out (by simp))
                   replace HB := a_ (hb)
                   replace HI271 := a_ (hi)
                   (try clear hb)
                   (try clear hb2)
                   (try clear hk)
                   (try clear hi)
                   have p46 : 0 ≤ (x38_3 : Int) := of_decide_eq_true (by first | (with_reducible assumption) | assumption)
                   have q46 : (x38_3 : Int) < ((x9_3.length : Int) : Int) := of_decide_eq_true (by first | (with_reducible assumption) | assumption)
                   obtain ⟨go46, co46, eo46, gb46, gl46, cl46, HG46⟩ := Kd.R_form HO_9.out (by omega)
                   (first | cases eo46 | (injection eo46 with ea_ en_ ec_; (first | subst ea_ | (injection ea_ with ea_; subst ea_)); subst ec_; clear en_))
                   have GB46 := Aside0.mk gb46
                   have GG46 := Aside0.mk HG46
                   clear gb46 gl46 HG46
                   (first | simp only [add_plain] at hx275_0 | skip)
                   (first | simp only [add_plain] at hx275_1 | skip)
                   (first | simp only [add_plain] at hx285_0 | skip)
                   (first | simp only [add_plain] at hx285_1 | skip)
                   (first | simp only [add_plain] at hx286_0 | skip)
                   (first | simp only [add_plain] at hx286_1 | skip)
                   (first | simp only [add_plain] at hx280_0 | skip)
                   (first | simp only [add_plain] at hx280_1 | skip)
                   obtain ⟨ce46, hcl46, hM46, hcc46, hfr46⟩ := Kd.R_elem HO_9.out z42 (x38_3 : Int) p46 q46
                   obtain rfl := k42_openM hM46
                   have hx46_0 : World.cell? _ ⟨go46, (x38_3 : Int).toNat * 2, none⟩ = some (.float .f64 ((rd_T42 x9_3 x38_3).f0)) := hcc46 0 _ rfl
                   have hx46_1 : World.cell? _ ⟨go46, (x38_3 : Int).toNat * 2 + 1, none⟩ = some (.float .f64 ((rd_T42 x9_3 x38_3).f1)) := hcc46 1 _ rfl
                   have hf46_0 : World.frozen? _ ⟨go46, (x38_3 : Int).toNat * 2, none⟩ = false := hfr46 0
                   have hf46_1 : World.frozen? _ ⟨go46, (x38_3 : Int).toNat * 2 + 1, none⟩ = false := hfr46 1
                   clear hcl46 hcc46 hfr46 hM46
                   replace p46 := eq_true p46
                   replace q46 := eq_true q46
                   have HN271_go46 := a_ (show gb271 ≠ go46 from by have h_ := IsS47.own_ne HI271.out HO_9.out (by decide); intro e_; exact h_ (by rw [e_]; rfl))
                   obtain ⟨ce50, hcl50, hM50, hcc50, hfr50⟩ := Kd.R_elem HO_9.out z42 (x38_3 : Int) (of_decide_eq_true (by first | (with_reducible assumption) | assumption)) (by have h_ : (x38_3 : Int) < ((x9_3.length : Int) : Int) := of_decide_eq_true (by first | (with_reducible assumption) | assumption); first | exact h_ | (have e_ := (Kd.R_reads' HO_9.out).1; omega) | simpa using h_)
                   obtain rfl := k42_openM hM50
                   have HP50 := (Kd.R_seg HO_9.out (x38_3 : Int) (of_decide_eq_true (by first | (with_reducible assumption) | assumption)) (by have h_ : (x38_3 : Int) < ((x9_3.length : Int) : Int) := of_decide_eq_true (by first | (with_reducible assumption) | assumption); first | exact h_ | (have e_ := (Kd.R_reads' HO_9.out).1; omega) | simpa using h_) (seg := [.float .f64 u1_, .float .f64 u2_]) (j := 0) hcl50 hcc50 (show 2 ≤ 2 from by decide) (x' := (⟨u1_, u2_⟩ : S42)) (k42_mkM _ _ _ (⟨u1_, u2_⟩ : S42) ) (fun _ hk => hk)).1
                   rw [← Ny284.out] at HP50
                   have HQ50 := Aside0.mk HP50
                   clear hcl50 hcc50 hfr50 hM50 HP50
                   refine hK.out _ _ ⟨(blk_cell BK279.out 0).trans rfl, (blk_cell BK279.out 1).trans rfl, HS2_, HS3_⟩ (fun hHeld => ?_)
                   clear hK K
                   refine norm_ (a' := ?_) ?_ ?_
                   rotate_left
                   ·show Act.put _ (some 74) _ = _
                    simp only [Act.put, sB, sC, sD, i64_w, i32_w]
                    rfl
                   refine pure_ (i := 8) (N := some 75) (v := ?_) (a' := ?_) #[true, true, true, true, true, true, true, true, true, false] rfl rfl (any_of HT_.out (by kernel_rfl)) (fun _ _ _ h => h) (Or.inl ⟨by rfl, ?_⟩) ?_ ?_
                   rotate_left
                   ·intro w'
                    go_simp
                    with_reducible rfl
                   rotate_left
                   ·simp only [Act.put, sB, sC, sD, i64_w, i32_w]
                    rfl
                   refine last_ (i := 9) (N := none) #[true, true, true, true, true, true, true, true, true, true] rfl rfl (one_of HT_.out (by kernel_rfl)) (by decide) (fun K hK => ?_)
                   refine skip_ (w1 := ?_) ?_ ?_ ?_ ?_
                   rotate_left
                   ·rfl
                   ·rfl
                   ·go_simp
                    rfl
                   refine hK.out _ _ ?_
                   clear hK K
                   refine done_ (done_of HT_.out (by kernel_rfl)) ?_
                   obtain ⟨HGz51, hgz51⟩ := HI271.out
                   have hcz51_0 := cellS47_0 HGz51
                   have hfz51_0 := blk_frozen HGz51 0
                   clear HGz51 hgz51
                   have hnz_ := HN271_go46.out
                   have hnz2_ := Ne.symm hnz_
                   try go_wp2
                   go_ret2
                   exact ⟨_, by first | rfl | (simp [errW_none, errW_some] <;> rfl) | (simp [*, errW_none, errW_some] <;> rfl), by first | exact Kd.R_nil _ _ _ _ _ | exact Kd.N_nil _ _ _ _ _ | exact Kd.V_nil _ _ _ _ _ | exact Kd.Q_nil _ _ _ _ _ | exact Kd.S_nil _ _ _ _ _, by repeat (first | (with_reducible first | exact HB.out | apply below_alloc | apply pw_below_drewN | apply below_drew1 | refine below_set ?_ GB46.out | refine below_set ?_ GB46.out | refine below_set ?_ (IsS47.ge HI271.out) | refine below_set ?_ GE279.out) | exact HB.out)⟩
                  ·replace c47 := Bool.eq_false_iff.mpr c47
                   subst c47
                   have H1 : (impl_RootStep.l1 k4 l0 y284 (y272.length : Int) (wrap64 (x38_3 + 1)) false) = some (r1, r2) := by rw [if_neg (show ¬ (false = true) by decide)] at H; exact H
                   clear H
                   have H := H1
                   clear H1
                   have H' := Aside0.mk H
                   clear H
                   try go_wp2
                   replace HO_9 := a_ (Kd.R_drew HO_9.out)
                   replace BK279 := a_ (blk_drew BK279.out)
                   replace HI271 := a_ (IsS47.drew HI271.out)
                   replace HB := a_ (below_drew1 HB.out)
                   have p280 : 0 ≤ (x38_3 : Int) := of_decide_eq_true (by first | (with_reducible assumption) | assumption)
                   have q280 : x38_3 < (x9_3.length : Int) := of_decide_eq_true (by first | (with_reducible assumption) | assumption)
                   obtain ⟨ad280, e280, hx280_0, hx280_1⟩ := at_T42 (Kd.R_reads' HO_9.out).2.2 x38_3 p280 q280
                   obtain rfl : ad275 = ad280 := (by injection e280)
                   replace p280 := eq_true p280
                   replace q280 := eq_true q280
                   refine start_ (n := 10) (S := fun w' => w'.cell? ⟨gb279, 0, none⟩ = some (.float .f64 x280000_4) ∧ w'.cell? ⟨gb279, 1, none⟩ = some (.float .f64 x280001_4) ∧ w'.cell? (ad275.add ((x38_3).toNat * 2)) = some (.float .f64 ((rd_T42 x9_3 x38_3).f0)) ∧ w'.cell? ⟨(ad275.add ((x38_3).toNat * 2)).block, (ad275.add ((x38_3).toNat * 2)).off + 1, none⟩ = some (.float .f64 ((rd_T42 x9_3 x38_3).f1))) (ds := [9]) #[false, false, false, false, false, false, false, false, false, false] (by kernel_rfl) rfl rfl ⟨(blk_cell BK279.out 0).trans rfl, (blk_cell BK279.out 1).trans rfl, hx280_0, hx280_1⟩ (fun hHeld => ?_); refine with_tabW impl_RootStep.tab21 impl_RootStep.bits21 (fun HT_ HW_ => ?_)
                   generalize wr.drew = w52 at HO_9 BK279 HI271 HB hx280_0 hx280_1 hHeld ⊢
                   refine pure_ (i := 0) (N := some 67) (v := ?_) (a' := ?_) #[true, false, false, false, false, false, false, false, false, false] rfl rfl (any_of HT_.out (by kernel_rfl)) (fun _ _ _ h => h) (Or.inl ⟨by rfl, ?_⟩) ?_ ?_
                   rotate_left
                   ·intro w'
                    go_simp
                    with_reducible rfl
                   rotate_left
                   ·simp only [Act.put, sB, sC, sD, i64_w, i32_w]
                    rfl
                   refine pure_ (i := 1) (N := some 68) (v := ?_) (a' := ?_) #[true, true, false, false, false, false, false, false, false, false] rfl rfl (any_of HT_.out (by kernel_rfl)) (fun _ _ _ h => h) (Or.inl ⟨by rfl, ?_⟩) ?_ ?_
                   rotate_left
                   ·intro w'
                    go_simp
                    with_reducible rfl
                   rotate_left
                   ·simp only [Act.put, sB, sC, sD, i64_w, i32_w]
                    rfl
                   refine pure_ (i := 2) (N := some 69) (v := ?_) (a' := ?_) #[true, true, true, false, false, false, false, false, false, false] rfl rfl (any_of HT_.out (by kernel_rfl)) (fun _ _ _ h => h) (Or.inl ⟨by rfl, ?_⟩) ?_ ?_
                   rotate_left
                   ·intro w'
                    go_simp
                    with_reducible rfl
                   rotate_left
                   ·simp only [Act.put, sB, sC, sD, i64_w, i32_w]
                    rfl
                   refine pure_ (i := 3) (N := some 70) (v := ?_) (a' := ?_) #[true, true, true, true, false, false, false, false, false, false] rfl rfl (any_of HT_.out (by kernel_rfl)) (fun _ _ _ h => h) (Or.inl ⟨by rfl, ?_⟩) ?_ ?_
                   rotate_left
                   ·intro w'
                    go_simp
                    with_reducible rfl
                   rotate_left
                   ·simp only [Act.put, sB, sC, sD, i64_w, i32_w]
                    rfl
                   refine pure_ (i := 4) (N := some 71) (v := ?_) (a' := ?_) #[true, true, true, true, true, false, false, false, false, false] rfl rfl (any_of HT_.out (by kernel_rfl)) (fun _ _ _ h => h) (Or.inl ⟨by rfl, ?_⟩) ?_ ?_
                   rotate_left
                   ·intro w'
                    go_simp
                    with_reducible rfl
                   rotate_left
                   ·simp only [Act.put, sB, sC, sD, i64_w, i32_w]
                    rfl
                   refine take_ (i := 5) (N := some 72) (v := ?_) (a' := ?_) #[true, true, true, true, true, true, false, false, false, false] rfl rfl (take_ofW HT_.out HW_.out (by kernel_rfl)) (fun _ _ _ h => h) (Or.inl ⟨by rfl, ?_⟩) hHeld ?_ ?_
                   rotate_left
                   ·rintro w' ⟨s0, s1, s2, s3⟩
                    go_simp
                    with_reducible rfl
                   rotate_left
                   ·simp only [Act.put, sB, sC, sD, i64_w, i32_w]
                    rfl
                   refine take_ (i := 6) (N := some 73) (v := ?_) (a' := ?_) #[true, true, true, true, true, true, true, false, false, false] rfl rfl (take_ofW HT_.out HW_.out (by kernel_rfl)) (fun _ _ _ h => h) (Or.inl ⟨by rfl, ?_⟩) hHeld ?_ ?_
                   rotate_left
                   ·rintro w' ⟨s0, s1, s2, s3⟩
                    go_simp
                    with_reducible rfl
                   rotate_left
                   ·simp only [Act.put, sB, sC, sD, i64_w, i32_w]
                    rfl
                   refine one_ (i := 7) (N := some 74) #[true, true, true, true, true, true, true, true, false, false] rfl rfl (one_of HT_.out (by kernel_rfl)) (by decide) (fun K hK => ?_)
                   refine goes_ Try.func25 (by kernel_rfl) rfl #[.pointer (some ⟨gb271, 0, none⟩), .agg #[.float .f64 ((rd_T42 x9_3 x38_3).f0), .float .f64 ((rd_T42 x9_3 x38_3).f1)], .agg #[.float .f64 x280000_4, .float .f64 x280001_4]] (by rfl) rfl rfl (by (try simp only [lA, lB, lC]); first | done | rfl | (simp only [lD, lE]; rfl)) ?_
                   with_reducible refine (impl_reals_less.rel gb271 bd ((rd_T42 x9_3 x38_3).f0) ((rd_T42 x9_3 x38_3).f1) x280000_4 x280001_4 w _ ?side1 ?side2).mono ?_
                   (case side1 => repeat (first | (with_reducible first | exact HI271.out | apply IsS47.alloc | apply IsS47.drewN | apply IsS47.drew | apply IsS47.set_0 | refine IsS47.far ?_ NB271_279.out _) | exact HI271.out))
                   (case side2 => repeat (first | (with_reducible first | exact HB.out | apply below_alloc | apply pw_below_drewN | apply below_drew1 | refine below_set ?_ (IsS47.ge HI271.out) | refine below_set ?_ GE279.out) | exact HB.out))
                   rintro e w53 ⟨u1_, u2_, u3_, AE_, rfl, hi, hb, hk⟩
                   obtain ⟨e3_, e12_⟩ := Flo.rq_end HS.out AE_ A45.out
                   obtain ⟨e1_, e2_⟩ := e12_ rfl
                   obtain rfl : false = u3_ := e3_.symm
                   obtain rfl : t281 = u1_ := e1_.symm
                   obtain rfl : t282 = u2_ := e2_.symm
                   have HS2_ := keep_cell hk (hHeld.2.2.1) (by first | (rw [add_block]; exact Kd.own_blk (IsS47.own_ne HI271.out HO_9.out (by decide))) | (show (Addr.add _ _).block ≠ _; rw [add_block]; exact Kd.own_blk (IsS47.own_ne HI271.out HO_9.out (by decide))) | exact Kd.own_blk (IsS47.own_ne HI271.out HO_9.out (by decide)))
                   have HS3_ := keep_cell hk (hHeld.2.2.2) (by first | (rw [add_block]; exact Kd.own_blk (IsS47.own_ne HI271.out HO_9.out (by decide))) | (show (Addr.add _ _).block ≠ _; rw [add_block]; exact Kd.own_blk (IsS47.own_ne HI271.out HO_9.out (by decide))) | exact Kd.own_blk (IsS47.own_ne HI271.out HO_9.out (by decide)))
                   refine ⟨_, rfl, ?_⟩
                   replace HO_9 := a_ (Kd.R_mono (Kd.R_keep (IsS47.apart (show IsS47 w _ gb271 bd from by repeat (first | (with_reducible first | exact HI271.out | apply IsS47.alloc | apply IsS47.drewN | apply IsS47.drew | apply IsS47.set_0 | refine IsS47.far ?_ NB271_279.out _) | exact HI271.out)) (rk HO_9.out) (by decide)) hk (fun _ h => h.2)) (fun _ h => h.1))
                   replace BK279 := a_ (KeepBut.blk hk (g' := gb279) (o := .cells #[.float .f64 x280000_4, .float .f64 x280001_4] 42 (0, 0)) (pk BK279.out) NB279_271.out (by simp))
                   replace HB := a_ (hb)
                   replace HI271 := a_ (hi)
                   (try clear hb)
                   (try clear hb2)
                   (try clear hk)
                   (try clear hi)
                   have p46 : 0 ≤ (x38_3 : Int) := of_decide_eq_true (by first | (with_reducible assumption) | assumption)
                   have q46 : (x38_3 : Int) < ((x9_3.length : Int) : Int) := of_decide_eq_true (by first | (with_reducible assumption) | assumption)
                   obtain ⟨go46, co46, eo46, gb46, gl46, cl46, HG46⟩ := Kd.R_form HO_9.out (by omega)
                   (first | cases eo46 | (injection eo46 with ea_ en_ ec_; (first | subst ea_ | (injection ea_ with ea_; subst ea_)); subst ec_; clear en_))
                   have GB46 := Aside0.mk gb46
                   have GG46 := Aside0.mk HG46
                   clear gb46 gl46 HG46
                   (first | simp only [add_plain] at hx280_0 | skip)
                   (first | simp only [add_plain] at hx280_1 | skip)
                   obtain ⟨ce46, hcl46, hM46, hcc46, hfr46⟩ := Kd.R_elem HO_9.out z42 (x38_3 : Int) p46 q46
                   obtain rfl := k42_openM hM46
                   have hx46_0 : World.cell? _ ⟨go46, (x38_3 : Int).toNat * 2, none⟩ = some (.float .f64 ((rd_T42 x9_3 x38_3).f0)) := hcc46 0 _ rfl
                   have hx46_1 : World.cell? _ ⟨go46, (x38_3 : Int).toNat * 2 + 1, none⟩ = some (.float .f64 ((rd_T42 x9_3 x38_3).f1)) := hcc46 1 _ rfl
                   have hf46_0 : World.frozen? _ ⟨go46, (x38_3 : Int).toNat * 2, none⟩ = false := hfr46 0
                   have hf46_1 : World.frozen? _ ⟨go46, (x38_3 : Int).toNat * 2 + 1, none⟩ = false := hfr46 1
                   clear hcl46 hcc46 hfr46 hM46
                   replace p46 := eq_true p46
                   replace q46 := eq_true q46
                   have HN271_go46 := a_ (show gb271 ≠ go46 from by have h_ := IsS47.own_ne HI271.out HO_9.out (by decide); intro e_; exact h_ (by rw [e_]; rfl))
                   obtain ⟨ce54, hcl54, hM54, hcc54, hfr54⟩ := Kd.R_elem HO_9.out z42 (x38_3 : Int) (of_decide_eq_true (by first | (with_reducible assumption) | assumption)) (by have h_ : (x38_3 : Int) < ((x9_3.length : Int) : Int) := of_decide_eq_true (by first | (with_reducible assumption) | assumption); first | exact h_ | (have e_ := (Kd.R_reads' HO_9.out).1; omega) | simpa using h_)
                   obtain rfl := k42_openM hM54
                   have HP54 := (Kd.R_seg HO_9.out (x38_3 : Int) (of_decide_eq_true (by first | (with_reducible assumption) | assumption)) (by have h_ : (x38_3 : Int) < ((x9_3.length : Int) : Int) := of_decide_eq_true (by first | (with_reducible assumption) | assumption); first | exact h_ | (have e_ := (Kd.R_reads' HO_9.out).1; omega) | simpa using h_) (seg := [.float .f64 t281, .float .f64 t282]) (j := 0) hcl54 hcc54 (show 2 ≤ 2 from by decide) (x' := (⟨t281, t282⟩ : S42)) (k42_mkM _ _ _ (⟨t281, t282⟩ : S42) ) (fun _ hk => hk)).1
                   rw [← Ny284.out] at HP54
                   have HQ54 := Aside0.mk HP54
                   clear hcl54 hcc54 hfr54 hM54 HP54
                   refine hK.out _ _ ⟨(blk_cell BK279.out 0).trans rfl, (blk_cell BK279.out 1).trans rfl, HS2_, HS3_⟩ (fun hHeld => ?_)
                   clear hK K
                   refine norm_ (a' := ?_) ?_ ?_
                   rotate_left
                   ·show Act.put _ (some 74) _ = _
                    simp only [Act.put, sB, sC, sD, i64_w, i32_w]
                    rfl
                   refine pure_ (i := 8) (N := some 75) (v := ?_) (a' := ?_) #[true, true, true, true, true, true, true, true, true, false] rfl rfl (any_of HT_.out (by kernel_rfl)) (fun _ _ _ h => h) (Or.inl ⟨by rfl, ?_⟩) ?_ ?_
                   rotate_left
                   ·intro w'
                    go_simp
                    with_reducible rfl
                   rotate_left
                   ·simp only [Act.put, sB, sC, sD, i64_w, i32_w]
                    rfl
                   refine last_ (i := 9) (N := none) #[true, true, true, true, true, true, true, true, true, true] rfl rfl (one_of HT_.out (by kernel_rfl)) (by decide) (fun K hK => ?_)
                   refine skip_ (w1 := ?_) ?_ ?_ ?_ ?_
                   rotate_left
                   ·rfl
                   ·rfl
                   ·go_simp
                    rfl
                   refine hK.out _ _ ?_
                   clear hK K
                   refine done_ (done_of HT_.out (by kernel_rfl)) ?_
                   obtain ⟨HGz55, hgz55⟩ := HI271.out
                   have hcz55_0 := cellS47_0 HGz55
                   have hfz55_0 := blk_frozen HGz55 0
                   clear HGz55 hgz55
                   have hnz_ := HN271_go46.out
                   have hnz2_ := Ne.symm hnz_
                   try go_wp2
                   (try simp only [← hl9_3])
                   go_roundg k4
                   case measure => have := HJ2.out; have := HK2.out; have := HK3.out; have := HK4.out; omega
                   case rel => exact ⟨(y284), (wrap64 (x38_3 + 1)), (by first | rfl | (simp; done) | (simp [*]; done)), H', ⟨by have := HJ2.out; have := HK2.out; have := HK3.out; have := HK4.out; omega⟩, ⟨by (try simp only [hl9_3]); refine rk ?_; exact Kd.R_mono HQ54.out (fun _ hk => trivial)⟩, ⟨by repeat (first | (with_reducible first | exact HI271.out | apply IsS47.alloc | apply IsS47.drewN | apply IsS47.drew | apply IsS47.set_0 | refine IsS47.far ?_ HN271_go46.out _ | refine IsS47.far ?_ HN271_go46.out _ | refine IsS47.far ?_ NB271_279.out _) | exact HI271.out)⟩, ⟨by repeat (first | (with_reducible first | exact HB.out | apply below_alloc | apply pw_below_drewN | apply below_drew1 | refine below_set ?_ GB46.out | refine below_set ?_ GB46.out | refine below_set ?_ (IsS47.ge HI271.out) | refine below_set ?_ GE279.out) | exact HB.out)⟩⟩
                 ·rw [if_neg c44] at H
                  exact absurd H (by simp)
                ·rw [if_neg c43] at H
                 exact absurd H (by simp)
            ·rw [if_neg c24] at H
             exact absurd H (by simp)
           ·rw [if_neg c23] at H
            exact absurd H (by simp)
          ·rw [if_neg c22] at H
           have c22b0 : decide (x38_3 < (y272.length : Int)) = false := decide_eq_false c22
           clear c22
           simp only [Option.some.injEq, Prod.mk.injEq] at H
           obtain ⟨rfl, rfl⟩ := H
           have cb9_ : decide (x38_3 < (x9_3.length : Int)) = false := by first | (rw [hl9_3]; exact c22b0) | (rw [← hl9_3]; exact c22b0)
           go_wp2
           go_ret2
           exact ⟨_, by first | rfl | (simp [errW_none, errW_some] <;> rfl) | (simp [*, errW_none, errW_some] <;> rfl), by refine rk ?_; exact HO_9.out, by repeat (first | (with_reducible first | exact HB.out | apply below_alloc | apply pw_below_drewN | apply below_drew1 | refine below_set ?_ (IsS47.ge HI271.out)) | exact HB.out)⟩
       ·rw [if_neg c18] at H
        exact absurd H (by simp)
end

end Go.Proofs.Ytlfejohlehkbgaa.PFnExactRootsOf
