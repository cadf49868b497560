-- Written by a program of this session out of the loaded functions' print; helper lemmas as print.sh lays them.
import Derived.Test.YtonafpbnjgdlgaaRFnExactCascadeStepx0
import Derived.Test.YtonafpbnjgdlgaaRFnExactCascadeStepx2
import Derived.Test.YtonafpbnjgdlgaaRFnExactCascadeStepx4
import Derived.Test.YtonafpbnjgdlgaaRFnExactCascadeStepx6
namespace Go.Proofs.Ytonafpbnjgdlgaa.PFnExactCascadeStep
open Go.RowKit Go.Proofs.YtonafpbnjgdlgaaW.PrintWords Go.Proofs.YtonafpbnjgdlgaaW.PrintLast Go.Proofs.YtonafpbnjgdlgaaW.PrintMore
attribute [local go_sem] max2_int min2_int max_two min_two max_three min_three max_four min_four  -- for this text's walks alone
set_option linter.unusedVariables false
set_option linter.unusedSimpArgs false

/-! ### laws_FnExactCascadeStep: function 5 -/
def laws_FnExactCascadeStep.f (k : Nat) (a0_0 : Int) (a0_1 : Int) (a0_2 : Int) (a0_3 : Int) (a0_4 : Int) (a0_5 : Int) (a0_6 : Int) (a1_0 : Int) (a1_1 : Int) (a1_2 : Int) (a1_3 : Int) (a1_4 : Int) (a1_5 : Int) (a1_6 : Int) (a2_0 : Bool) (a2_1 : Int) (a2_2 : Int) (a2_3 : Int) (a3_0 : Bool) (a3_1 : Int) (a3_2 : Int) (a3_3 : Int) (a4 : Int) (a5 : Int) (a6 : Int) : Option (Bool) := (laws_toLoop.f a0_0 a0_1 a0_2 a0_3 a0_4 a0_5 a0_6).bind fun bt193 => ((laws_toLoop.f a1_0 a1_1 a1_2 a1_3 a1_4 a1_5 a1_6).bind fun bt200 => ((laws_toHold.f a2_0 a2_1 a2_2 a2_3).bind fun bt207 => ((laws_toHold.f a3_0 a3_1 a3_2 a3_3).bind fun bt211 => ((spec_CascadeStep.f k bt193.1 bt193.2.1 bt193.2.2.1 bt193.2.2.2.1 bt193.2.2.2.2.1 bt193.2.2.2.2.2.1 bt193.2.2.2.2.2.2 bt200.1 bt200.2.1 bt200.2.2.1 bt200.2.2.2.1 bt200.2.2.2.2.1 bt200.2.2.2.2.2.1 bt200.2.2.2.2.2.2 bt207.1 bt207.2.1 bt207.2.2.1 bt207.2.2.2 bt211.1 bt211.2.1 bt211.2.2.1 bt211.2.2.2 a4 a5 a6).bind fun bt215 => ((laws_toLoop.f a0_0 a0_1 a0_2 a0_3 a0_4 a0_5 a0_6).bind fun bt226 => ((laws_toLoop.f a1_0 a1_1 a1_2 a1_3 a1_4 a1_5 a1_6).bind fun bt233 => ((laws_toHold.f a2_0 a2_1 a2_2 a2_3).bind fun bt240 => ((laws_toHold.f a3_0 a3_1 a3_2 a3_3).bind fun bt244 => ((impl_CascadeStep.f k bt226.1 bt226.2.1 bt226.2.2.1 bt226.2.2.2.1 bt226.2.2.2.2.1 bt226.2.2.2.2.2.1 bt226.2.2.2.2.2.2 bt233.1 bt233.2.1 bt233.2.2.1 bt233.2.2.2.1 bt233.2.2.2.2.1 bt233.2.2.2.2.2.1 bt233.2.2.2.2.2.2 bt240.1 bt240.2.1 bt240.2.2.1 bt240.2.2.2 bt244.1 bt244.2.1 bt244.2.2.1 bt244.2.2.2 a4 a5 a6).bind fun bt248 => ((laws_eqHold.f bt248.1 bt248.2.1 bt248.2.2.1 bt248.2.2.2.1 bt215.1 bt215.2.1 bt215.2.2.1 bt215.2.2.2.1).bind fun t259 => (if t259 = true then ((laws_eqHold.f bt248.2.2.2.2.1 bt248.2.2.2.2.2.1 bt248.2.2.2.2.2.2.1 bt248.2.2.2.2.2.2.2.1 bt215.2.2.2.2.1 bt215.2.2.2.2.2.1 bt215.2.2.2.2.2.2.1 bt215.2.2.2.2.2.2.2.1).bind fun t260 => (if t260 = true then (if (bt248.2.2.2.2.2.2.2.2 != bt215.2.2.2.2.2.2.2.2) = true then (none) else (some true)) else (none))) else (none))))))))))))
theorem laws_FnExactCascadeStep.mono : ∀ a0 a1 a2 a3 a4 a5 a6 a7 a8 a9 a10 a11 a12 a13 a14 a15 a16 a17 a18 a19 a20 a21 a22 a23 a24 k, LeO (laws_FnExactCascadeStep.f k a0 a1 a2 a3 a4 a5 a6 a7 a8 a9 a10 a11 a12 a13 a14 a15 a16 a17 a18 a19 a20 a21 a22 a23 a24) (laws_FnExactCascadeStep.f (k + 1) a0 a1 a2 a3 a4 a5 a6 a7 a8 a9 a10 a11 a12 a13 a14 a15 a16 a17 a18 a19 a20 a21 a22 a23 a24) := by
  intro a0 a1 a2 a3 a4 a5 a6 a7 a8 a9 a10 a11 a12 a13 a14 a15 a16 a17 a18 a19 a20 a21 a22 a23 a24 k
  unfold laws_FnExactCascadeStep.f
  repeat' first
      | (with_reducible exact impl_CascadeStep.mono _ _ _ _ _ _ _ _ _ _ _ _ _ _ _ _ _ _ _ _ _ _ _ _ _ _)
      | (with_reducible exact spec_CascadeStep.mono _ _ _ _ _ _ _ _ _ _ _ _ _ _ _ _ _ _ _ _ _ _ _ _ _ _)
      | (with_reducible exact LeO.refl _)
      | (with_reducible exact LeO.none _)
      | (with_reducible refine LeO.ite ?_ ?_)
      | (with_reducible refine LeO.bind ?_ (fun _ => ?_))
      | exact impl_CascadeStep.mono _ _ _ _ _ _ _ _ _ _ _ _ _ _ _ _ _ _ _ _ _ _ _ _ _ _
      | exact spec_CascadeStep.mono _ _ _ _ _ _ _ _ _ _ _ _ _ _ _ _ _ _ _ _ _ _ _ _ _ _
      | exact LeO.none _
      | refine LeO.ite ?_ ?_
      | refine LeO.bind ?_ (fun _ => ?_)
def laws_FnExactCascadeStep.T1 : Bool × List (List Nat × List Nat) := (true, [([], []), ([0], [0]), ([], []), ([2, 1], [2]), ([], []), ([4, 3], [4]), ([], []), ([6, 5], [6]), ([], []), ([], []), ([], []), ([1, 3, 5, 7, 8, 9, 10, 7], [1, 3, 5, 7, 8, 9, 10]), ([11], [11]), ([12], [12]), ([12], [12]), ([12], [12]), ([], []), ([], []), ([16, 13, 11, 0, 1, 2, 3, 4, 5, 6, 7, 8, 9, 10, 11, 12, 13, 16, 17], [13, 16]), ([17, 14, 18, 0, 1, 2, 3, 4, 5, 6, 7, 8, 9, 10, 11, 12, 13, 14, 16, 17, 18], [14, 17]), ([15, 19, 0, 1, 2, 3, 4, 5, 6, 7, 8, 9, 10, 11, 12, 13, 14, 15, 16, 17, 18, 19], [15])])
def laws_FnExactCascadeStep.B1 : List Nat := [0, 1, 0, 7, 0, 31, 0, 127, 0, 0, 0, 2047, 4095, 8191, 8191, 8191, 0, 0, 212991, 491519, 1048575]
theorem laws_FnExactCascadeStep.tab1 : rtab .any (opsOf Try.f5 1) = laws_FnExactCascadeStep.T1 := by kernel_rfl
theorem laws_FnExactCascadeStep.bits1 : waitsOk laws_FnExactCascadeStep.T1.2 laws_FnExactCascadeStep.B1 = true := by kernel_rfl
def laws_FnExactCascadeStep.T2 : Bool × List (List Nat × List Nat) := (true, [([], []), ([0], [0]), ([], []), ([2, 1], [2]), ([], []), ([4, 3], [4]), ([], []), ([6, 5], [6]), ([], []), ([], []), ([], []), ([1, 3, 5, 7, 8, 9, 10, 7], [1, 3, 5, 7, 8, 9, 10]), ([11], [11]), ([12], [12]), ([12], [12]), ([12], [12]), ([], []), ([], []), ([16, 13, 11, 0, 1, 2, 3, 4, 5, 6, 7, 8, 9, 10, 11, 12, 13, 16, 17], [13, 16]), ([17, 14, 18, 0, 1, 2, 3, 4, 5, 6, 7, 8, 9, 10, 11, 12, 13, 14, 16, 17, 18], [14, 17]), ([15, 19, 0, 1, 2, 3, 4, 5, 6, 7, 8, 9, 10, 11, 12, 13, 14, 15, 16, 17, 18, 19], [15])])
def laws_FnExactCascadeStep.B2 : List Nat := [0, 1, 0, 7, 0, 31, 0, 127, 0, 0, 0, 2047, 4095, 8191, 8191, 8191, 0, 0, 212991, 491519, 1048575]
theorem laws_FnExactCascadeStep.tab2 : rtab .any (opsOf Try.f5 2) = laws_FnExactCascadeStep.T2 := by kernel_rfl
theorem laws_FnExactCascadeStep.bits2 : waitsOk laws_FnExactCascadeStep.T2.2 laws_FnExactCascadeStep.B2 = true := by kernel_rfl
set_option maxHeartbeats 8000000 in
set_option maxRecDepth 100000 in
theorem laws_FnExactCascadeStep.calls (k : Nat) (a0_0 : Int) (a0_1 : Int) (a0_2 : Int) (a0_3 : Int) (a0_4 : Int) (a0_5 : Int) (a0_6 : Int) (a1_0 : Int) (a1_1 : Int) (a1_2 : Int) (a1_3 : Int) (a1_4 : Int) (a1_5 : Int) (a1_6 : Int) (a2_0 : Bool) (a2_1 : Int) (a2_2 : Int) (a2_3 : Int) (a3_0 : Bool) (a3_1 : Int) (a3_2 : Int) (a3_3 : Int) (a4 : Int) (a5 : Int) (a6 : Int) (r : Bool) (w : World) (h : laws_FnExactCascadeStep.f k a0_0 a0_1 a0_2 a0_3 a0_4 a0_5 a0_6 a1_0 a1_1 a1_2 a1_3 a1_4 a1_5 a1_6 a2_0 a2_1 a2_2 a2_3 a3_0 a3_1 a3_2 a3_3 a4 a5 a6 = some r) :
    Calls Try.prog 5 #[.agg #[.int .i64 a0_0, .int .i64 a0_1, .int .i64 a0_2, .int .i64 a0_3, .int .i64 a0_4, .int .i64 a0_5, .int .i64 a0_6], .agg #[.int .i64 a1_0, .int .i64 a1_1, .int .i64 a1_2, .int .i64 a1_3, .int .i64 a1_4, .int .i64 a1_5, .int .i64 a1_6], .agg #[.bool a2_0, .int .i64 a2_1, .int .i64 a2_2, .int .i64 a2_3], .agg #[.bool a3_0, .int .i64 a3_1, .int .i64 a3_2, .int .i64 a3_3], .int .i64 a4, .int .i64 a5, .int .i64 a6] w fun e w' => e = .returned (.bool r) ∧ Below w.heap.size w w' := by
  have hu33 := Try.underlying33
  have hu35 := Try.underlying35
  have hu36 := Try.underlying36
  have HB := Aside0.mk (Below.refl w.heap.size w)
  have H : ((laws_toLoop.f a0_0 a0_1 a0_2 a0_3 a0_4 a0_5 a0_6).bind fun bt193 => ((laws_toLoop.f a1_0 a1_1 a1_2 a1_3 a1_4 a1_5 a1_6).bind fun bt200 => ((laws_toHold.f a2_0 a2_1 a2_2 a2_3).bind fun bt207 => ((laws_toHold.f a3_0 a3_1 a3_2 a3_3).bind fun bt211 => ((spec_CascadeStep.f k bt193.1 bt193.2.1 bt193.2.2.1 bt193.2.2.2.1 bt193.2.2.2.2.1 bt193.2.2.2.2.2.1 bt193.2.2.2.2.2.2 bt200.1 bt200.2.1 bt200.2.2.1 bt200.2.2.2.1 bt200.2.2.2.2.1 bt200.2.2.2.2.2.1 bt200.2.2.2.2.2.2 bt207.1 bt207.2.1 bt207.2.2.1 bt207.2.2.2 bt211.1 bt211.2.1 bt211.2.2.1 bt211.2.2.2 a4 a5 a6).bind fun bt215 => ((laws_toLoop.f a0_0 a0_1 a0_2 a0_3 a0_4 a0_5 a0_6).bind fun bt226 => ((laws_toLoop.f a1_0 a1_1 a1_2 a1_3 a1_4 a1_5 a1_6).bind fun bt233 => ((laws_toHold.f a2_0 a2_1 a2_2 a2_3).bind fun bt240 => ((laws_toHold.f a3_0 a3_1 a3_2 a3_3).bind fun bt244 => ((impl_CascadeStep.f k bt226.1 bt226.2.1 bt226.2.2.1 bt226.2.2.2.1 bt226.2.2.2.2.1 bt226.2.2.2.2.2.1 bt226.2.2.2.2.2.2 bt233.1 bt233.2.1 bt233.2.2.1 bt233.2.2.2.1 bt233.2.2.2.2.1 bt233.2.2.2.2.2.1 bt233.2.2.2.2.2.2 bt240.1 bt240.2.1 bt240.2.2.1 bt240.2.2.2 bt244.1 bt244.2.1 bt244.2.2.1 bt244.2.2.2 a4 a5 a6).bind fun bt248 => ((laws_eqHold.f bt248.1 bt248.2.1 bt248.2.2.1 bt248.2.2.2.1 bt215.1 bt215.2.1 bt215.2.2.1 bt215.2.2.2.1).bind fun t259 => (if t259 = true then ((laws_eqHold.f bt248.2.2.2.2.1 bt248.2.2.2.2.2.1 bt248.2.2.2.2.2.2.1 bt248.2.2.2.2.2.2.2.1 bt215.2.2.2.2.1 bt215.2.2.2.2.2.1 bt215.2.2.2.2.2.2.1 bt215.2.2.2.2.2.2.2.1).bind fun t260 => (if t260 = true then (if (bt248.2.2.2.2.2.2.2.2 != bt215.2.2.2.2.2.2.2.2) = true then (none) else (some true)) else (none))) else (none))))))))))))) = some r := h
  clear h
  replace H := Option.bind_eq_some_iff.mp H
  obtain ⟨⟨t193, t194, t195, t196, t197, t198, t199⟩, A80, H⟩ := H
  replace H : ((laws_toLoop.f a1_0 a1_1 a1_2 a1_3 a1_4 a1_5 a1_6).bind fun bt200 => ((laws_toHold.f a2_0 a2_1 a2_2 a2_3).bind fun bt207 => ((laws_toHold.f a3_0 a3_1 a3_2 a3_3).bind fun bt211 => ((spec_CascadeStep.f k t193 t194 t195 t196 t197 t198 t199 bt200.1 bt200.2.1 bt200.2.2.1 bt200.2.2.2.1 bt200.2.2.2.2.1 bt200.2.2.2.2.2.1 bt200.2.2.2.2.2.2 bt207.1 bt207.2.1 bt207.2.2.1 bt207.2.2.2 bt211.1 bt211.2.1 bt211.2.2.1 bt211.2.2.2 a4 a5 a6).bind fun bt215 => ((laws_toLoop.f a0_0 a0_1 a0_2 a0_3 a0_4 a0_5 a0_6).bind fun bt226 => ((laws_toLoop.f a1_0 a1_1 a1_2 a1_3 a1_4 a1_5 a1_6).bind fun bt233 => ((laws_toHold.f a2_0 a2_1 a2_2 a2_3).bind fun bt240 => ((laws_toHold.f a3_0 a3_1 a3_2 a3_3).bind fun bt244 => ((impl_CascadeStep.f k bt226.1 bt226.2.1 bt226.2.2.1 bt226.2.2.2.1 bt226.2.2.2.2.1 bt226.2.2.2.2.2.1 bt226.2.2.2.2.2.2 bt233.1 bt233.2.1 bt233.2.2.1 bt233.2.2.2.1 bt233.2.2.2.2.1 bt233.2.2.2.2.2.1 bt233.2.2.2.2.2.2 bt240.1 bt240.2.1 bt240.2.2.1 bt240.2.2.2 bt244.1 bt244.2.1 bt244.2.2.1 bt244.2.2.2 a4 a5 a6).bind fun bt248 => ((laws_eqHold.f bt248.1 bt248.2.1 bt248.2.2.1 bt248.2.2.2.1 bt215.1 bt215.2.1 bt215.2.2.1 bt215.2.2.2.1).bind fun t259 => (if t259 = true then ((laws_eqHold.f bt248.2.2.2.2.1 bt248.2.2.2.2.2.1 bt248.2.2.2.2.2.2.1 bt248.2.2.2.2.2.2.2.1 bt215.2.2.2.2.1 bt215.2.2.2.2.2.1 bt215.2.2.2.2.2.2.1 bt215.2.2.2.2.2.2.2.1).bind fun t260 => (if t260 = true then (if (bt248.2.2.2.2.2.2.2.2 != bt215.2.2.2.2.2.2.2.2) = true then (none) else (some true)) else (none))) else (none)))))))))))) = some r := H
  have A8 := Aside0.mk A80
  clear A80
  replace H := Option.bind_eq_some_iff.mp H
  obtain ⟨⟨t200, t201, t202, t203, t204, t205, t206⟩, A90, H⟩ := H
  replace H : ((laws_toHold.f a2_0 a2_1 a2_2 a2_3).bind fun bt207 => ((laws_toHold.f a3_0 a3_1 a3_2 a3_3).bind fun bt211 => ((spec_CascadeStep.f k t193 t194 t195 t196 t197 t198 t199 t200 t201 t202 t203 t204 t205 t206 bt207.1 bt207.2.1 bt207.2.2.1 bt207.2.2.2 bt211.1 bt211.2.1 bt211.2.2.1 bt211.2.2.2 a4 a5 a6).bind fun bt215 => ((laws_toLoop.f a0_0 a0_1 a0_2 a0_3 a0_4 a0_5 a0_6).bind fun bt226 => ((laws_toLoop.f a1_0 a1_1 a1_2 a1_3 a1_4 a1_5 a1_6).bind fun bt233 => ((laws_toHold.f a2_0 a2_1 a2_2 a2_3).bind fun bt240 => ((laws_toHold.f a3_0 a3_1 a3_2 a3_3).bind fun bt244 => ((impl_CascadeStep.f k bt226.1 bt226.2.1 bt226.2.2.1 bt226.2.2.2.1 bt226.2.2.2.2.1 bt226.2.2.2.2.2.1 bt226.2.2.2.2.2.2 bt233.1 bt233.2.1 bt233.2.2.1 bt233.2.2.2.1 bt233.2.2.2.2.1 bt233.2.2.2.2.2.1 bt233.2.2.2.2.2.2 bt240.1 bt240.2.1 bt240.2.2.1 bt240.2.2.2 bt244.1 bt244.2.1 bt244.2.2.1 bt244.2.2.2 a4 a5 a6).bind fun bt248 => ((laws_eqHold.f bt248.1 bt248.2.1 bt248.2.2.1 bt248.2.2.2.1 bt215.1 bt215.2.1 bt215.2.2.1 bt215.2.2.2.1).bind fun t259 => (if t259 = true then ((laws_eqHold.f bt248.2.2.2.2.1 bt248.2.2.2.2.2.1 bt248.2.2.2.2.2.2.1 bt248.2.2.2.2.2.2.2.1 bt215.2.2.2.2.1 bt215.2.2.2.2.2.1 bt215.2.2.2.2.2.2.1 bt215.2.2.2.2.2.2.2.1).bind fun t260 => (if t260 = true then (if (bt248.2.2.2.2.2.2.2.2 != bt215.2.2.2.2.2.2.2.2) = true then (none) else (some true)) else (none))) else (none))))))))))) = some r := H
  have A9 := Aside0.mk A90
  clear A90
  replace H := Option.bind_eq_some_iff.mp H
  obtain ⟨⟨t207, t208, t209, t210⟩, A100, H⟩ := H
  replace H : ((laws_toHold.f a3_0 a3_1 a3_2 a3_3).bind fun bt211 => ((spec_CascadeStep.f k t193 t194 t195 t196 t197 t198 t199 t200 t201 t202 t203 t204 t205 t206 t207 t208 t209 t210 bt211.1 bt211.2.1 bt211.2.2.1 bt211.2.2.2 a4 a5 a6).bind fun bt215 => ((laws_toLoop.f a0_0 a0_1 a0_2 a0_3 a0_4 a0_5 a0_6).bind fun bt226 => ((laws_toLoop.f a1_0 a1_1 a1_2 a1_3 a1_4 a1_5 a1_6).bind fun bt233 => ((laws_toHold.f a2_0 a2_1 a2_2 a2_3).bind fun bt240 => ((laws_toHold.f a3_0 a3_1 a3_2 a3_3).bind fun bt244 => ((impl_CascadeStep.f k bt226.1 bt226.2.1 bt226.2.2.1 bt226.2.2.2.1 bt226.2.2.2.2.1 bt226.2.2.2.2.2.1 bt226.2.2.2.2.2.2 bt233.1 bt233.2.1 bt233.2.2.1 bt233.2.2.2.1 bt233.2.2.2.2.1 bt233.2.2.2.2.2.1 bt233.2.2.2.2.2.2 bt240.1 bt240.2.1 bt240.2.2.1 bt240.2.2.2 bt244.1 bt244.2.1 bt244.2.2.1 bt244.2.2.2 a4 a5 a6).bind fun bt248 => ((laws_eqHold.f bt248.1 bt248.2.1 bt248.2.2.1 bt248.2.2.2.1 bt215.1 bt215.2.1 bt215.2.2.1 bt215.2.2.2.1).bind fun t259 => (if t259 = true then ((laws_eqHold.f bt248.2.2.2.2.1 bt248.2.2.2.2.2.1 bt248.2.2.2.2.2.2.1 bt248.2.2.2.2.2.2.2.1 bt215.2.2.2.2.1 bt215.2.2.2.2.2.1 bt215.2.2.2.2.2.2.1 bt215.2.2.2.2.2.2.2.1).bind fun t260 => (if t260 = true then (if (bt248.2.2.2.2.2.2.2.2 != bt215.2.2.2.2.2.2.2.2) = true then (none) else (some true)) else (none))) else (none)))))))))) = some r := H
  have A10 := Aside0.mk A100
  clear A100
  replace H := Option.bind_eq_some_iff.mp H
  obtain ⟨⟨t211, t212, t213, t214⟩, A110, H⟩ := H
  replace H : ((spec_CascadeStep.f k t193 t194 t195 t196 t197 t198 t199 t200 t201 t202 t203 t204 t205 t206 t207 t208 t209 t210 t211 t212 t213 t214 a4 a5 a6).bind fun bt215 => ((laws_toLoop.f a0_0 a0_1 a0_2 a0_3 a0_4 a0_5 a0_6).bind fun bt226 => ((laws_toLoop.f a1_0 a1_1 a1_2 a1_3 a1_4 a1_5 a1_6).bind fun bt233 => ((laws_toHold.f a2_0 a2_1 a2_2 a2_3).bind fun bt240 => ((laws_toHold.f a3_0 a3_1 a3_2 a3_3).bind fun bt244 => ((impl_CascadeStep.f k bt226.1 bt226.2.1 bt226.2.2.1 bt226.2.2.2.1 bt226.2.2.2.2.1 bt226.2.2.2.2.2.1 bt226.2.2.2.2.2.2 bt233.1 bt233.2.1 bt233.2.2.1 bt233.2.2.2.1 bt233.2.2.2.2.1 bt233.2.2.2.2.2.1 bt233.2.2.2.2.2.2 bt240.1 bt240.2.1 bt240.2.2.1 bt240.2.2.2 bt244.1 bt244.2.1 bt244.2.2.1 bt244.2.2.2 a4 a5 a6).bind fun bt248 => ((laws_eqHold.f bt248.1 bt248.2.1 bt248.2.2.1 bt248.2.2.2.1 bt215.1 bt215.2.1 bt215.2.2.1 bt215.2.2.2.1).bind fun t259 => (if t259 = true then ((laws_eqHold.f bt248.2.2.2.2.1 bt248.2.2.2.2.2.1 bt248.2.2.2.2.2.2.1 bt248.2.2.2.2.2.2.2.1 bt215.2.2.2.2.1 bt215.2.2.2.2.2.1 bt215.2.2.2.2.2.2.1 bt215.2.2.2.2.2.2.2.1).bind fun t260 => (if t260 = true then (if (bt248.2.2.2.2.2.2.2.2 != bt215.2.2.2.2.2.2.2.2) = true then (none) else (some true)) else (none))) else (none))))))))) = some r := H
  have A11 := Aside0.mk A110
  clear A110
  replace H := Option.bind_eq_some_iff.mp H
  obtain ⟨⟨t215, t216, t217, t218, t219, t220, t221, t222, t223⟩, A120, H⟩ := H
  replace H : ((laws_toLoop.f a0_0 a0_1 a0_2 a0_3 a0_4 a0_5 a0_6).bind fun bt226 => ((laws_toLoop.f a1_0 a1_1 a1_2 a1_3 a1_4 a1_5 a1_6).bind fun bt233 => ((laws_toHold.f a2_0 a2_1 a2_2 a2_3).bind fun bt240 => ((laws_toHold.f a3_0 a3_1 a3_2 a3_3).bind fun bt244 => ((impl_CascadeStep.f k bt226.1 bt226.2.1 bt226.2.2.1 bt226.2.2.2.1 bt226.2.2.2.2.1 bt226.2.2.2.2.2.1 bt226.2.2.2.2.2.2 bt233.1 bt233.2.1 bt233.2.2.1 bt233.2.2.2.1 bt233.2.2.2.2.1 bt233.2.2.2.2.2.1 bt233.2.2.2.2.2.2 bt240.1 bt240.2.1 bt240.2.2.1 bt240.2.2.2 bt244.1 bt244.2.1 bt244.2.2.1 bt244.2.2.2 a4 a5 a6).bind fun bt248 => ((laws_eqHold.f bt248.1 bt248.2.1 bt248.2.2.1 bt248.2.2.2.1 t215 t216 t217 t218).bind fun t259 => (if t259 = true then ((laws_eqHold.f bt248.2.2.2.2.1 bt248.2.2.2.2.2.1 bt248.2.2.2.2.2.2.1 bt248.2.2.2.2.2.2.2.1 t219 t220 t221 t222).bind fun t260 => (if t260 = true then (if (bt248.2.2.2.2.2.2.2.2 != t223) = true then (none) else (some true)) else (none))) else (none)))))))) = some r := H
  have A12 := Aside0.mk A120
  clear A120
  replace H := Option.bind_eq_some_iff.mp H
  obtain ⟨⟨t226, t227, t228, t229, t230, t231, t232⟩, A130, H⟩ := H
  replace H : ((laws_toLoop.f a1_0 a1_1 a1_2 a1_3 a1_4 a1_5 a1_6).bind fun bt233 => ((laws_toHold.f a2_0 a2_1 a2_2 a2_3).bind fun bt240 => ((laws_toHold.f a3_0 a3_1 a3_2 a3_3).bind fun bt244 => ((impl_CascadeStep.f k t226 t227 t228 t229 t230 t231 t232 bt233.1 bt233.2.1 bt233.2.2.1 bt233.2.2.2.1 bt233.2.2.2.2.1 bt233.2.2.2.2.2.1 bt233.2.2.2.2.2.2 bt240.1 bt240.2.1 bt240.2.2.1 bt240.2.2.2 bt244.1 bt244.2.1 bt244.2.2.1 bt244.2.2.2 a4 a5 a6).bind fun bt248 => ((laws_eqHold.f bt248.1 bt248.2.1 bt248.2.2.1 bt248.2.2.2.1 t215 t216 t217 t218).bind fun t259 => (if t259 = true then ((laws_eqHold.f bt248.2.2.2.2.1 bt248.2.2.2.2.2.1 bt248.2.2.2.2.2.2.1 bt248.2.2.2.2.2.2.2.1 t219 t220 t221 t222).bind fun t260 => (if t260 = true then (if (bt248.2.2.2.2.2.2.2.2 != t223) = true then (none) else (some true)) else (none))) else (none))))))) = some r := H
  have A13 := Aside0.mk A130
  clear A130
  replace H := Option.bind_eq_some_iff.mp H
  obtain ⟨⟨t233, t234, t235, t236, t237, t238, t239⟩, A140, H⟩ := H
  replace H : ((laws_toHold.f a2_0 a2_1 a2_2 a2_3).bind fun bt240 => ((laws_toHold.f a3_0 a3_1 a3_2 a3_3).bind fun bt244 => ((impl_CascadeStep.f k t226 t227 t228 t229 t230 t231 t232 t233 t234 t235 t236 t237 t238 t239 bt240.1 bt240.2.1 bt240.2.2.1 bt240.2.2.2 bt244.1 bt244.2.1 bt244.2.2.1 bt244.2.2.2 a4 a5 a6).bind fun bt248 => ((laws_eqHold.f bt248.1 bt248.2.1 bt248.2.2.1 bt248.2.2.2.1 t215 t216 t217 t218).bind fun t259 => (if t259 = true then ((laws_eqHold.f bt248.2.2.2.2.1 bt248.2.2.2.2.2.1 bt248.2.2.2.2.2.2.1 bt248.2.2.2.2.2.2.2.1 t219 t220 t221 t222).bind fun t260 => (if t260 = true then (if (bt248.2.2.2.2.2.2.2.2 != t223) = true then (none) else (some true)) else (none))) else (none)))))) = some r := H
  have A14 := Aside0.mk A140
  clear A140
  replace H := Option.bind_eq_some_iff.mp H
  obtain ⟨⟨t240, t241, t242, t243⟩, A150, H⟩ := H
  replace H : ((laws_toHold.f a3_0 a3_1 a3_2 a3_3).bind fun bt244 => ((impl_CascadeStep.f k t226 t227 t228 t229 t230 t231 t232 t233 t234 t235 t236 t237 t238 t239 t240 t241 t242 t243 bt244.1 bt244.2.1 bt244.2.2.1 bt244.2.2.2 a4 a5 a6).bind fun bt248 => ((laws_eqHold.f bt248.1 bt248.2.1 bt248.2.2.1 bt248.2.2.2.1 t215 t216 t217 t218).bind fun t259 => (if t259 = true then ((laws_eqHold.f bt248.2.2.2.2.1 bt248.2.2.2.2.2.1 bt248.2.2.2.2.2.2.1 bt248.2.2.2.2.2.2.2.1 t219 t220 t221 t222).bind fun t260 => (if t260 = true then (if (bt248.2.2.2.2.2.2.2.2 != t223) = true then (none) else (some true)) else (none))) else (none))))) = some r := H
  have A15 := Aside0.mk A150
  clear A150
  replace H := Option.bind_eq_some_iff.mp H
  obtain ⟨⟨t244, t245, t246, t247⟩, A160, H⟩ := H
  replace H : ((impl_CascadeStep.f k t226 t227 t228 t229 t230 t231 t232 t233 t234 t235 t236 t237 t238 t239 t240 t241 t242 t243 t244 t245 t246 t247 a4 a5 a6).bind fun bt248 => ((laws_eqHold.f bt248.1 bt248.2.1 bt248.2.2.1 bt248.2.2.2.1 t215 t216 t217 t218).bind fun t259 => (if t259 = true then ((laws_eqHold.f bt248.2.2.2.2.1 bt248.2.2.2.2.2.1 bt248.2.2.2.2.2.2.1 bt248.2.2.2.2.2.2.2.1 t219 t220 t221 t222).bind fun t260 => (if t260 = true then (if (bt248.2.2.2.2.2.2.2.2 != t223) = true then (none) else (some true)) else (none))) else (none)))) = some r := H
  have A16 := Aside0.mk A160
  clear A160
  replace H := Option.bind_eq_some_iff.mp H
  obtain ⟨⟨t248, t249, t250, t251, t252, t253, t254, t255, t256⟩, A170, H⟩ := H
  replace H : ((laws_eqHold.f t248 t249 t250 t251 t215 t216 t217 t218).bind fun t259 => (if t259 = true then ((laws_eqHold.f t252 t253 t254 t255 t219 t220 t221 t222).bind fun t260 => (if t260 = true then (if (t256 != t223) = true then (none) else (some true)) else (none))) else (none))) = some r := H
  have A17 := Aside0.mk A170
  clear A170
  replace H := Option.bind_eq_some_iff.mp H
  obtain ⟨t259, A180, H⟩ := H
  replace H : (if t259 = true then ((laws_eqHold.f t252 t253 t254 t255 t219 t220 t221 t222).bind fun t260 => (if t260 = true then (if (t256 != t223) = true then (none) else (some true)) else (none))) else (none)) = some r := H
  have A18 := Aside0.mk A180
  clear A180
  by_cases c19 : t259 = true
  · subst c19
    have H1 : ((laws_eqHold.f t252 t253 t254 t255 t219 t220 t221 t222).bind fun t260 => (if t260 = true then (if (t256 != t223) = true then (none) else (some true)) else (none))) = some r := by rw [if_pos rfl] at H; exact H
    clear H
    have H := H1
    clear H1
    replace H := Option.bind_eq_some_iff.mp H
    obtain ⟨t260, A200, H⟩ := H
    replace H : (if t260 = true then (if (t256 != t223) = true then (none) else (some true)) else (none)) = some r := H
    have A20 := Aside0.mk A200
    clear A200
    by_cases c21 : t260 = true
    · subst c21
      have H1 : (if (t256 != t223) = true then (none) else (some true)) = some r := by rw [if_pos rfl] at H; exact H
      clear H
      have H := H1
      clear H1
      by_cases c22 : (t256 != t223) = true
      · rw [if_pos c22] at H
        exact absurd H (by simp)
      · rw [if_neg c22] at H
        have c22b0 : (t256 != t223) = false := by simpa using c22
        (try (have c22b1 : decide (t256 = t223) = true := by simpa using c22))
        (try (have c22b2 : (t256 == t223) = true := by simpa using c22))
        clear c22
        obtain rfl := Option.some.inj H
        go_enter Try.func5, Try.ntmps5
        try go_wp2_with (first | ((with_reducible refine gate_dst (N := 7) rfl ?_); refine box_event ?hg (N := 7) ?hd (cs := #[.int .i64 a0_0, .int .i64 a0_1, .int .i64 a0_2, .int .i64 a0_3, .int .i64 a0_4, .int .i64 a0_5, .int .i64 a0_6]) (t := 33) ?hr ?_; (case hd => rfl); (case hg => rfl); (case hr => first | (go_simp; done) | (go_simp; rfl)); intro gb189 hg w23 hbox hb; have n0_ := Aside0.mk (below_step (by repeat (first | (with_reducible first | exact HB.out | apply below_alloc | apply pw_below_drewN | apply below_drew1) | exact HB.out)) hb); have n1_ := Aside0.mk (hbox); have n2_ := Aside0.mk ((by rw [hg]; exact (below_size (by repeat (first | (with_reducible first | exact HB.out | apply below_alloc | apply pw_below_drewN | apply below_drew1) | exact HB.out))) : w.heap.size ≤ gb189)); have n3_ := Aside0.mk ((by rw [hg]; exact (below_size (by repeat (first | (with_reducible first | exact HB.out | apply below_alloc | apply pw_below_drewN | apply below_drew1) | exact HB.out))) : w.heap.size ≤ gb189)); clear HB; have HB := n0_; have BK189 := n1_; have GW189 := n2_; have GE189 := n3_; clear n0_ n1_ n2_ n3_; clear hb hbox hg) | ((with_reducible refine gate_dst (N := 8) rfl ?_); refine box_event ?hg (N := 8) ?hd (cs := #[.int .i64 a1_0, .int .i64 a1_1, .int .i64 a1_2, .int .i64 a1_3, .int .i64 a1_4, .int .i64 a1_5, .int .i64 a1_6]) (t := 33) ?hr ?_; (case hd => rfl); (case hg => rfl); (case hr => first | (go_simp; done) | (go_simp; rfl)); intro gb190 hg w24 hbox hb; have n0_ := Aside0.mk (blk_below (g := gb189) (o := .cells #[.int .i64 a0_0, .int .i64 a0_1, .int .i64 a0_2, .int .i64 a0_3, .int .i64 a0_4, .int .i64 a0_5, .int .i64 a0_6] 33 (0, 0)) (by (with_reducible repeat (first | refine blk_drewN ?_ _ | refine blk_drew ?_ | refine blk_alloc ?_ _)); exact BK189.out) hb); have n1_ := Aside0.mk (below_step (by repeat (first | (with_reducible first | exact HB.out | apply below_alloc | apply pw_below_drewN | apply below_drew1 | refine below_set ?_ GE189.out) | exact HB.out)) hb); have n2_ := Aside0.mk (hbox); have n3_ := Aside0.mk ((by rw [hg]; exact (below_size (by repeat (first | (with_reducible first | exact HB.out | apply below_alloc | apply pw_below_drewN | apply below_drew1 | refine below_set ?_ GE189.out) | exact HB.out))) : w.heap.size ≤ gb190)); have n4_ := Aside0.mk ((by rw [hg]; exact (below_size (by repeat (first | (with_reducible first | exact HB.out | apply below_alloc | apply pw_below_drewN | apply below_drew1 | refine below_set ?_ GE189.out) | exact HB.out))) : w.heap.size ≤ gb190)); have n5_ := Aside0.mk ((by rw [hg]; exact Nat.ne_of_lt (blk_lt (g := gb189) (o := .cells #[.int .i64 a0_0, .int .i64 a0_1, .int .i64 a0_2, .int .i64 a0_3, .int .i64 a0_4, .int .i64 a0_5, .int .i64 a0_6] 33 (0, 0)) (by (with_reducible repeat (first | refine blk_drewN ?_ _ | refine blk_drew ?_ | refine blk_alloc ?_ _)); exact BK189.out)) : gb189 ≠ gb190)); have n6_ := Aside0.mk ((by rw [hg]; exact Nat.ne_of_gt (blk_lt (g := gb189) (o := .cells #[.int .i64 a0_0, .int .i64 a0_1, .int .i64 a0_2, .int .i64 a0_3, .int .i64 a0_4, .int .i64 a0_5, .int .i64 a0_6] 33 (0, 0)) (by (with_reducible repeat (first | refine blk_drewN ?_ _ | refine blk_drew ?_ | refine blk_alloc ?_ _)); exact BK189.out)) : gb190 ≠ gb189)); clear BK189; clear HB; have BK189 := n0_; have HB := n1_; have BK190 := n2_; have GW190 := n3_; have GE190 := n4_; have NB189_190 := n5_; have NB190_189 := n6_; clear n0_ n1_ n2_ n3_ n4_ n5_ n6_; clear hb hbox hg) | ((with_reducible refine gate_dst (N := 9) rfl ?_); refine box_event ?hg (N := 9) ?hd (cs := #[.bool a2_0, .int .i64 a2_1, .int .i64 a2_2, .int .i64 a2_3]) (t := 35) ?hr ?_; (case hd => rfl); (case hg => rfl); (case hr => first | (go_simp; done) | (go_simp; rfl)); intro gb191 hg w25 hbox hb; have n0_ := Aside0.mk (blk_below (g := gb189) (o := .cells #[.int .i64 a0_0, .int .i64 a0_1, .int .i64 a0_2, .int .i64 a0_3, .int .i64 a0_4, .int .i64 a0_5, .int .i64 a0_6] 33 (0, 0)) (by (with_reducible repeat (first | refine blk_drewN ?_ _ | refine blk_drew ?_ | refine blk_alloc ?_ _)); exact BK189.out) hb); have n1_ := Aside0.mk (blk_below (g := gb190) (o := .cells #[.int .i64 a1_0, .int .i64 a1_1, .int .i64 a1_2, .int .i64 a1_3, .int .i64 a1_4, .int .i64 a1_5, .int .i64 a1_6] 33 (0, 0)) (by (with_reducible repeat (first | refine blk_drewN ?_ _ | refine blk_drew ?_ | refine blk_alloc ?_ _)); exact BK190.out) hb); have n2_ := Aside0.mk (below_step (by repeat (first | (with_reducible first | exact HB.out | apply below_alloc | apply pw_below_drewN | apply below_drew1 | refine below_set ?_ GE189.out | refine below_set ?_ GE190.out) | exact HB.out)) hb); have n3_ := Aside0.mk (hbox); have n4_ := Aside0.mk ((by rw [hg]; exact (below_size (by repeat (first | (with_reducible first | exact HB.out | apply below_alloc | apply pw_below_drewN | apply below_drew1 | refine below_set ?_ GE189.out | refine below_set ?_ GE190.out) | exact HB.out))) : w.heap.size ≤ gb191)); have n5_ := Aside0.mk ((by rw [hg]; exact (below_size (by repeat (first | (with_reducible first | exact HB.out | apply below_alloc | apply pw_below_drewN | apply below_drew1 | refine below_set ?_ GE189.out | refine below_set ?_ GE190.out) | exact HB.out))) : w.heap.size ≤ gb191)); have n6_ := Aside0.mk ((by rw [hg]; exact Nat.ne_of_lt (blk_lt (g := gb189) (o := .cells #[.int .i64 a0_0, .int .i64 a0_1, .int .i64 a0_2, .int .i64 a0_3, .int .i64 a0_4, .int .i64 a0_5, .int .i64 a0_6] 33 (0, 0)) (by (with_reducible repeat (first | refine blk_drewN ?_ _ | refine blk_drew ?_ | refine blk_alloc ?_ _)); exact BK189.out)) : gb189 ≠ gb191)); have n7_ := Aside0.mk ((by rw [hg]; exact Nat.ne_of_gt (blk_lt (g := gb189) (o := .cells #[.int .i64 a0_0, .int .i64 a0_1, .int .i64 a0_2, .int .i64 a0_3, .int .i64 a0_4, .int .i64 a0_5, .int .i64 a0_6] 33 (0, 0)) (by (with_reducible repeat (first | refine blk_drewN ?_ _ | refine blk_drew ?_ | refine blk_alloc ?_ _)); exact BK189.out)) : gb191 ≠ gb189)); have n8_ := Aside0.mk ((by rw [hg]; exact Nat.ne_of_lt (blk_lt (g := gb190) (o := .cells #[.int .i64 a1_0, .int .i64 a1_1, .int .i64 a1_2, .int .i64 a1_3, .int .i64 a1_4, .int .i64 a1_5, .int .i64 a1_6] 33 (0, 0)) (by (with_reducible repeat (first | refine blk_drewN ?_ _ | refine blk_drew ?_ | refine blk_alloc ?_ _)); exact BK190.out)) : gb190 ≠ gb191)); have n9_ := Aside0.mk ((by rw [hg]; exact Nat.ne_of_gt (blk_lt (g := gb190) (o := .cells #[.int .i64 a1_0, .int .i64 a1_1, .int .i64 a1_2, .int .i64 a1_3, .int .i64 a1_4, .int .i64 a1_5, .int .i64 a1_6] 33 (0, 0)) (by (with_reducible repeat (first | refine blk_drewN ?_ _ | refine blk_drew ?_ | refine blk_alloc ?_ _)); exact BK190.out)) : gb191 ≠ gb190)); clear BK189; clear BK190; clear HB; have BK189 := n0_; have BK190 := n1_; have HB := n2_; have BK191 := n3_; have GW191 := n4_; have GE191 := n5_; have NB189_191 := n6_; have NB191_189 := n7_; have NB190_191 := n8_; have NB191_190 := n9_; clear n0_ n1_ n2_ n3_ n4_ n5_ n6_ n7_ n8_ n9_; clear hb hbox hg) | ((with_reducible refine gate_dst (N := 10) rfl ?_); refine box_event ?hg (N := 10) ?hd (cs := #[.bool a3_0, .int .i64 a3_1, .int .i64 a3_2, .int .i64 a3_3]) (t := 35) ?hr ?_; (case hd => rfl); (case hg => rfl); (case hr => first | (go_simp; done) | (go_simp; rfl)); intro gb192 hg w26 hbox hb; have n0_ := Aside0.mk (blk_below (g := gb189) (o := .cells #[.int .i64 a0_0, .int .i64 a0_1, .int .i64 a0_2, .int .i64 a0_3, .int .i64 a0_4, .int .i64 a0_5, .int .i64 a0_6] 33 (0, 0)) (by (with_reducible repeat (first | refine blk_drewN ?_ _ | refine blk_drew ?_ | refine blk_alloc ?_ _)); exact BK189.out) hb); have n1_ := Aside0.mk (blk_below (g := gb190) (o := .cells #[.int .i64 a1_0, .int .i64 a1_1, .int .i64 a1_2, .int .i64 a1_3, .int .i64 a1_4, .int .i64 a1_5, .int .i64 a1_6] 33 (0, 0)) (by (with_reducible repeat (first | refine blk_drewN ?_ _ | refine blk_drew ?_ | refine blk_alloc ?_ _)); exact BK190.out) hb); have n2_ := Aside0.mk (blk_below (g := gb191) (o := .cells #[.bool a2_0, .int .i64 a2_1, .int .i64 a2_2, .int .i64 a2_3] 35 (0, 0)) (by (with_reducible repeat (first | refine blk_drewN ?_ _ | refine blk_drew ?_ | refine blk_alloc ?_ _)); exact BK191.out) hb); have n3_ := Aside0.mk (below_step (by repeat (first | (with_reducible first | exact HB.out | apply below_alloc | apply pw_below_drewN | apply below_drew1 | refine below_set ?_ GE189.out | refine below_set ?_ GE190.out | refine below_set ?_ GE191.out) | exact HB.out)) hb); have n4_ := Aside0.mk (hbox); have n5_ := Aside0.mk ((by rw [hg]; exact (below_size (by repeat (first | (with_reducible first | exact HB.out | apply below_alloc | apply pw_below_drewN | apply below_drew1 | refine below_set ?_ GE189.out | refine below_set ?_ GE190.out | refine below_set ?_ GE191.out) | exact HB.out))) : w.heap.size ≤ gb192)); have n6_ := Aside0.mk ((by rw [hg]; exact (below_size (by repeat (first | (with_reducible first | exact HB.out | apply below_alloc | apply pw_below_drewN | apply below_drew1 | refine below_set ?_ GE189.out | refine below_set ?_ GE190.out | refine below_set ?_ GE191.out) | exact HB.out))) : w.heap.size ≤ gb192)); have n7_ := Aside0.mk ((by rw [hg]; exact Nat.ne_of_lt (blk_lt (g := gb189) (o := .cells #[.int .i64 a0_0, .int .i64 a0_1, .int .i64 a0_2, .int .i64 a0_3, .int .i64 a0_4, .int .i64 a0_5, .int .i64 a0_6] 33 (0, 0)) (by (with_reducible repeat (first | refine blk_drewN ?_ _ | refine blk_drew ?_ | refine blk_alloc ?_ _)); exact BK189.out)) : gb189 ≠ gb192)); have n8_ := Aside0.mk ((by rw [hg]; exact Nat.ne_of_gt (blk_lt (g := gb189) (o := .cells #[.int .i64 a0_0, .int .i64 a0_1, .int .i64 a0_2, .int .i64 a0_3, .int .i64 a0_4, .int .i64 a0_5, .int .i64 a0_6] 33 (0, 0)) (by (with_reducible repeat (first | refine blk_drewN ?_ _ | refine blk_drew ?_ | refine blk_alloc ?_ _)); exact BK189.out)) : gb192 ≠ gb189)); have n9_ := Aside0.mk ((by rw [hg]; exact Nat.ne_of_lt (blk_lt (g := gb190) (o := .cells #[.int .i64 a1_0, .int .i64 a1_1, .int .i64 a1_2, .int .i64 a1_3, .int .i64 a1_4, .int .i64 a1_5, .int .i64 a1_6] 33 (0, 0)) (by (with_reducible repeat (first | refine blk_drewN ?_ _ | refine blk_drew ?_ | refine blk_alloc ?_ _)); exact BK190.out)) : gb190 ≠ gb192)); have n10_ := Aside0.mk ((by rw [hg]; exact Nat.ne_of_gt (blk_lt (g := gb190) (o := .cells #[.int .i64 a1_0, .int .i64 a1_1, .int .i64 a1_2, .int .i64 a1_3, .int .i64 a1_4, .int .i64 a1_5, .int .i64 a1_6] 33 (0, 0)) (by (with_reducible repeat (first | refine blk_drewN ?_ _ | refine blk_drew ?_ | refine blk_alloc ?_ _)); exact BK190.out)) : gb192 ≠ gb190)); have n11_ := Aside0.mk ((by rw [hg]; exact Nat.ne_of_lt (blk_lt (g := gb191) (o := .cells #[.bool a2_0, .int .i64 a2_1, .int .i64 a2_2, .int .i64 a2_3] 35 (0, 0)) (by (with_reducible repeat (first | refine blk_drewN ?_ _ | refine blk_drew ?_ | refine blk_alloc ?_ _)); exact BK191.out)) : gb191 ≠ gb192)); have n12_ := Aside0.mk ((by rw [hg]; exact Nat.ne_of_gt (blk_lt (g := gb191) (o := .cells #[.bool a2_0, .int .i64 a2_1, .int .i64 a2_2, .int .i64 a2_3] 35 (0, 0)) (by (with_reducible repeat (first | refine blk_drewN ?_ _ | refine blk_drew ?_ | refine blk_alloc ?_ _)); exact BK191.out)) : gb192 ≠ gb191)); clear BK189; clear BK190; clear BK191; clear HB; have BK189 := n0_; have BK190 := n1_; have BK191 := n2_; have HB := n3_; have BK192 := n4_; have GW192 := n5_; have GE192 := n6_; have NB189_192 := n7_; have NB192_189 := n8_; have NB190_192 := n9_; have NB192_190 := n10_; have NB191_192 := n11_; have NB192_191 := n12_; clear n0_ n1_ n2_ n3_ n4_ n5_ n6_ n7_ n8_ n9_ n10_ n11_ n12_; clear hb hbox hg))
        have n0_ := Aside0.mk (blk_drew BK189.out)
        have n1_ := Aside0.mk (blk_drew BK190.out)
        have n2_ := Aside0.mk (blk_drew BK191.out)
        have n3_ := Aside0.mk (blk_drew BK192.out)
        have n4_ := Aside0.mk (below_drew1 HB.out)
        clear BK189
        clear BK190
        clear BK191
        clear BK192
        clear HB
        have BK189 := n0_
        have BK190 := n1_
        have BK191 := n2_
        have BK192 := n3_
        have HB := n4_
        clear n0_ n1_ n2_ n3_ n4_
        refine start_ (n := 21) (S := fun w' => True) (ds := []) #[false, false, false, false, false, false, false, false, false, false, false, false, false, false, false, false, false, false, false, false, false] (by kernel_rfl) rfl rfl trivial (fun hHeld => ?_); refine with_tabW laws_FnExactCascadeStep.tab1 laws_FnExactCascadeStep.bits1 (fun HT_ HW_ => ?_)
        generalize w26.drew = w27 at BK189 BK190 BK191 BK192 HB hHeld ⊢
        refine pure_ (i := 8) (N := some 30) (v := ?_) (a' := ?_) #[false, false, false, false, false, false, false, false, true, false, false, false, false, false, false, false, false, false, false, false, false] rfl rfl (any_of HT_.out (by kernel_rfl)) (fun _ _ _ h => h) (Or.inl ⟨by rfl, ?_⟩) ?_ ?_
        rotate_left
        · intro w'
          go_simp
          with_reducible rfl
        rotate_left
        · simp only [Act.put, List.setIfInBounds_toArray, List.set_cons_zero, List.set_cons_succ, i64_w, i32_w]
          rfl
        refine pure_ (i := 9) (N := some 31) (v := ?_) (a' := ?_) #[false, false, false, false, false, false, false, false, true, true, false, false, false, false, false, false, false, false, false, false, false] rfl rfl (any_of HT_.out (by kernel_rfl)) (fun _ _ _ h => h) (Or.inl ⟨by rfl, ?_⟩) ?_ ?_
        rotate_left
        · intro w'
          go_simp
          with_reducible rfl
        rotate_left
        · simp only [Act.put, List.setIfInBounds_toArray, List.set_cons_zero, List.set_cons_succ, i64_w, i32_w]
          rfl
        refine pure_ (i := 10) (N := some 32) (v := ?_) (a' := ?_) #[false, false, false, false, false, false, false, false, true, true, true, false, false, false, false, false, false, false, false, false, false] rfl rfl (any_of HT_.out (by kernel_rfl)) (fun _ _ _ h => h) (Or.inl ⟨by rfl, ?_⟩) ?_ ?_
        rotate_left
        · intro w'
          go_simp
          with_reducible rfl
        rotate_left
        · simp only [Act.put, List.setIfInBounds_toArray, List.set_cons_zero, List.set_cons_succ, i64_w, i32_w]
          rfl
        refine inv_at [0, 1, 2, 3, 4, 5, 6, 7, 11, 12, 13, 14, 15, 16, 17, 18, 19, 20] (fun a0_ b a w' => ∃ (gb224 : Nat) (gb225 : Nat) (m16_ : Value) (m17_ : Value), a = putSel a0_ b [(0, 22, .agg #[.int .i64 a0_0, .int .i64 a0_1, .int .i64 a0_2, .int .i64 a0_3, .int .i64 a0_4, .int .i64 a0_5, .int .i64 a0_6]), (1, 23, .agg #[.int .i64 t193, .int .i64 t194, .int .i64 t195, .int .i64 t196, .int .i64 t197, .int .i64 t198, .int .i64 t199]), (2, 24, .agg #[.int .i64 a1_0, .int .i64 a1_1, .int .i64 a1_2, .int .i64 a1_3, .int .i64 a1_4, .int .i64 a1_5, .int .i64 a1_6]), (3, 25, .agg #[.int .i64 t200, .int .i64 t201, .int .i64 t202, .int .i64 t203, .int .i64 t204, .int .i64 t205, .int .i64 t206]), (4, 26, .agg #[.bool a2_0, .int .i64 a2_1, .int .i64 a2_2, .int .i64 a2_3]), (5, 27, .agg #[.bool t207, .int .i64 t208, .int .i64 t209, .int .i64 t210]), (6, 28, .agg #[.bool a3_0, .int .i64 a3_1, .int .i64 a3_2, .int .i64 a3_3]), (7, 29, .agg #[.bool t211, .int .i64 t212, .int .i64 t213, .int .i64 t214]), (11, 33, .tuple #[.agg #[.bool t215, .int .i64 t216, .int .i64 t217, .int .i64 t218], .agg #[.bool t219, .int .i64 t220, .int .i64 t221, .int .i64 t222], .bool t223]), (12, 21, .tuple #[.agg #[.bool t215, .int .i64 t216, .int .i64 t217, .int .i64 t218], .agg #[.bool t219, .int .i64 t220, .int .i64 t221, .int .i64 t222], .bool t223]), (13, 34, .agg #[.bool t215, .int .i64 t216, .int .i64 t217, .int .i64 t218]), (14, 35, .agg #[.bool t219, .int .i64 t220, .int .i64 t221, .int .i64 t222]), (15, 36, .bool t223), (16, 15, m16_), (17, 16, m17_), (20, 17, .bool t223)] ∧ (w'.heap[gb189]? = some (.cells #[.int .i64 a0_0, .int .i64 a0_1, .int .i64 a0_2, .int .i64 a0_3, .int .i64 a0_4, .int .i64 a0_5, .int .i64 a0_6] 33 (0, 0))) ∧ (w'.heap[gb190]? = some (.cells #[.int .i64 a1_0, .int .i64 a1_1, .int .i64 a1_2, .int .i64 a1_3, .int .i64 a1_4, .int .i64 a1_5, .int .i64 a1_6] 33 (0, 0))) ∧ (w'.heap[gb191]? = some (.cells #[.bool a2_0, .int .i64 a2_1, .int .i64 a2_2, .int .i64 a2_3] 35 (0, 0))) ∧ (w'.heap[gb192]? = some (.cells #[.bool a3_0, .int .i64 a3_1, .int .i64 a3_2, .int .i64 a3_3] 35 (0, 0))) ∧ (Below w.heap.size w w') ∧ (b 16 = true → b 17 = true → gb225 ≠ gb224) ∧ (b 16 = true → b 17 = true → gb224 ≠ gb225) ∧ (b 16 = true → b 18 = false → w'.heap[gb224]? = some (.cells #[.bool false, .int .i64 0, .int .i64 0, .int .i64 0] 36 (0, 0))) ∧ (b 16 = true → w.heap.size ≤ gb224) ∧ (b 16 = true → w.heap.size ≤ gb224) ∧ (b 16 = true → gb189 ≠ gb224) ∧ (b 16 = true → gb224 ≠ gb189) ∧ (b 16 = true → gb190 ≠ gb224) ∧ (b 16 = true → gb224 ≠ gb190) ∧ (b 16 = true → gb191 ≠ gb224) ∧ (b 16 = true → gb224 ≠ gb191) ∧ (b 16 = true → gb192 ≠ gb224) ∧ (b 16 = true → gb224 ≠ gb192) ∧ (b 17 = true → b 19 = false → w'.heap[gb225]? = some (.cells #[.bool false, .int .i64 0, .int .i64 0, .int .i64 0] 36 (0, 0))) ∧ (b 17 = true → w.heap.size ≤ gb225) ∧ (b 17 = true → w.heap.size ≤ gb225) ∧ (b 17 = true → gb189 ≠ gb225) ∧ (b 17 = true → gb225 ≠ gb189) ∧ (b 17 = true → gb190 ≠ gb225) ∧ (b 17 = true → gb225 ≠ gb190) ∧ (b 17 = true → gb191 ≠ gb225) ∧ (b 17 = true → gb225 ≠ gb191) ∧ (b 17 = true → gb192 ≠ gb225) ∧ (b 17 = true → gb225 ≠ gb192) ∧ (b 18 = true → w'.heap[gb224]? = some (.cells #[.bool t215, .int .i64 t216, .int .i64 t217, .int .i64 t218] 36 (0, 0))) ∧ (b 19 = true → w'.heap[gb225]? = some (.cells #[.bool t219, .int .i64 t220, .int .i64 t221, .int .i64 t222] 36 (0, 0))) ∧ (b 16 = true → (m16_ : Value) = .pointer (some ⟨gb224, 0, none⟩)) ∧ (b 17 = true → (m17_ : Value) = .pointer (some ⟨gb225, 0, none⟩))) HT_.out HW_.out (by kernel_rfl) (by kernel_rfl) ?_ ?_ ?_
        · exact ⟨0, 0, .bool false, .bool false, by simp only [putSel, Bool.false_eq_true, if_false], BK189.out, BK190.out, BK191.out, BK192.out, HB.out, fun h_ => absurd h_ (by decide), fun h_ => absurd h_ (by decide), fun h_ => absurd h_ (by decide), fun h_ => absurd h_ (by decide), fun h_ => absurd h_ (by decide), fun h_ => absurd h_ (by decide), fun h_ => absurd h_ (by decide), fun h_ => absurd h_ (by decide), fun h_ => absurd h_ (by decide), fun h_ => absurd h_ (by decide), fun h_ => absurd h_ (by decide), fun h_ => absurd h_ (by decide), fun h_ => absurd h_ (by decide), fun h_ => absurd h_ (by decide), fun h_ => absurd h_ (by decide), fun h_ => absurd h_ (by decide), fun h_ => absurd h_ (by decide), fun h_ => absurd h_ (by decide), fun h_ => absurd h_ (by decide), fun h_ => absurd h_ (by decide), fun h_ => absurd h_ (by decide), fun h_ => absurd h_ (by decide), fun h_ => absurd h_ (by decide), fun h_ => absurd h_ (by decide), fun h_ => absurd h_ (by decide), fun h_ => absurd h_ (by decide), fun h_ => absurd h_ (by decide), fun h_ => absurd h_ (by decide)⟩
        · skip
          clear BK189 BK190 BK191 BK192 HB
          refine steps_cons ?_ ?_
          · rintro b a w' ⟨gb224, gb225, m16_, m17_, ha, Q_BK189, Q_BK190, Q_BK191, Q_BK192, Q_HB, Q_NB225_224, Q_NB224_225, Q_BK224, Q_GW224, Q_GE224, Q_NB189_224, Q_NB224_189, Q_NB190_224, Q_NB224_190, Q_NB191_224, Q_NB224_191, Q_NB192_224, Q_NB224_192, Q_BK225, Q_GW225, Q_GE225, Q_NB189_225, Q_NB225_189, Q_NB190_225, Q_NB225_190, Q_NB191_225, Q_NB225_191, Q_NB192_225, Q_NB225_192, Q_BK224_e18, Q_BK225_e19, Q_X16_, Q_X17_⟩ hb_ hon hoff
            refine ⟨_, rfl, fun K hK => ?_⟩
            have e7 : a.tmps[7]? = some (.pointer (some ⟨gb189, 0, none⟩)) := by rw [ha]; exact (putSel_off rfl).trans rfl
            replace ha := Aside0.mk ha
            have BK189 := Aside0.mk Q_BK189
            have BK190 := Aside0.mk Q_BK190
            have BK191 := Aside0.mk Q_BK191
            have BK192 := Aside0.mk Q_BK192
            have HB := Aside0.mk Q_HB
            have hc0_ : w'.cell? ⟨gb189, 0, none⟩ = some (.int .i64 a0_0) := (blk_cell BK189.out 0).trans rfl
            have hc1_ : w'.cell? ⟨gb189, 1, none⟩ = some (.int .i64 a0_1) := (blk_cell BK189.out 1).trans rfl
            have hc2_ : w'.cell? ⟨gb189, 2, none⟩ = some (.int .i64 a0_2) := (blk_cell BK189.out 2).trans rfl
            have hc3_ : w'.cell? ⟨gb189, 3, none⟩ = some (.int .i64 a0_3) := (blk_cell BK189.out 3).trans rfl
            have hc4_ : w'.cell? ⟨gb189, 4, none⟩ = some (.int .i64 a0_4) := (blk_cell BK189.out 4).trans rfl
            have hc5_ : w'.cell? ⟨gb189, 5, none⟩ = some (.int .i64 a0_5) := (blk_cell BK189.out 5).trans rfl
            have hc6_ : w'.cell? ⟨gb189, 6, none⟩ = some (.int .i64 a0_6) := (blk_cell BK189.out 6).trans rfl
            refine value_ (w1 := w') (v := .agg #[.int .i64 a0_0, .int .i64 a0_1, .int .i64 a0_2, .int .i64 a0_3, .int .i64 a0_4, .int .i64 a0_5, .int .i64 a0_6]) (by rfl) rfl ?_ ?_
            · go_simp
              (try simp only [i64_w])
              try rfl
            refine hK.out _ _ ⟨gb224, gb225, m16_, m17_, (by rw [ha.out]; exact putSel_upk 0 hb_ rfl rfl rfl), Q_BK189, Q_BK190, Q_BK191, Q_BK192, Q_HB, Q_NB225_224, Q_NB224_225, Q_BK224, Q_GW224, Q_GE224, Q_NB189_224, Q_NB224_189, Q_NB190_224, Q_NB224_190, Q_NB191_224, Q_NB224_191, Q_NB192_224, Q_NB224_192, Q_BK225, Q_GW225, Q_GE225, Q_NB189_225, Q_NB225_189, Q_NB190_225, Q_NB225_190, Q_NB191_225, Q_NB225_191, Q_NB192_225, Q_NB225_192, fun h0_ => absurd ((hoff 18 (by kernel_rfl)).symm.trans h0_) (by decide), fun h0_ => absurd ((hoff 19 (by kernel_rfl)).symm.trans h0_) (by decide), Q_X16_, Q_X17_⟩
          refine steps_cons ?_ ?_
          · rintro b a w' ⟨gb224, gb225, m16_, m17_, ha, Q_BK189, Q_BK190, Q_BK191, Q_BK192, Q_HB, Q_NB225_224, Q_NB224_225, Q_BK224, Q_GW224, Q_GE224, Q_NB189_224, Q_NB224_189, Q_NB190_224, Q_NB224_190, Q_NB191_224, Q_NB224_191, Q_NB192_224, Q_NB224_192, Q_BK225, Q_GW225, Q_GE225, Q_NB189_225, Q_NB225_189, Q_NB190_225, Q_NB225_190, Q_NB191_225, Q_NB225_191, Q_NB192_225, Q_NB225_192, Q_BK224_e18, Q_BK225_e19, Q_X16_, Q_X17_⟩ hb_ hon hoff
            refine ⟨_, rfl, fun K hK => ?_⟩
            have e22 : a.tmps[22]? = some (.agg #[.int .i64 a0_0, .int .i64 a0_1, .int .i64 a0_2, .int .i64 a0_3, .int .i64 a0_4, .int .i64 a0_5, .int .i64 a0_6]) := by rw [ha]; exact putSel_on (e := (0, 22, .agg #[.int .i64 a0_0, .int .i64 a0_1, .int .i64 a0_2, .int .i64 a0_3, .int .i64 a0_4, .int .i64 a0_5, .int .i64 a0_6])) 0 rfl rfl (hon 0 (by kernel_rfl)) rfl
            replace ha := Aside0.mk ha
            have BK189 := Aside0.mk Q_BK189
            have BK190 := Aside0.mk Q_BK190
            have BK191 := Aside0.mk Q_BK191
            have BK192 := Aside0.mk Q_BK192
            have HB := Aside0.mk Q_HB
            refine goes_ Try.func18 (by kernel_rfl) rfl #[.agg #[.int .i64 a0_0, .int .i64 a0_1, .int .i64 a0_2, .int .i64 a0_3, .int .i64 a0_4, .int .i64 a0_5, .int .i64 a0_6]] (by rfl) rfl rfl (by first | (simp only [List.map_toArray, List.map_cons, List.map_nil, Act.eval, Array.getD_eq_getD_getElem?, Option.getD_some, e22]; done) | (simp only [List.map_toArray, List.map_cons, List.map_nil, Act.eval, Array.getD_eq_getD_getElem?, Option.getD_some, e22]; rfl)) ?_
            with_reducible refine (laws_toLoop.calls a0_0 a0_1 a0_2 a0_3 a0_4 a0_5 a0_6 t193 t194 t195 t196 t197 t198 t199 _ A8.out).mono ?_
            rintro e w28 ⟨rfl, hb⟩
            refine ⟨_, rfl, ?_⟩
            have n0_ := Aside0.mk (blk_below (g := gb189) (o := .cells #[.int .i64 a0_0, .int .i64 a0_1, .int .i64 a0_2, .int .i64 a0_3, .int .i64 a0_4, .int .i64 a0_5, .int .i64 a0_6] 33 (0, 0)) (by (with_reducible repeat (first | refine blk_drewN ?_ _ | refine blk_drew ?_ | refine blk_alloc ?_ _)); exact BK189.out) hb)
            have n1_ := Aside0.mk (blk_below (g := gb190) (o := .cells #[.int .i64 a1_0, .int .i64 a1_1, .int .i64 a1_2, .int .i64 a1_3, .int .i64 a1_4, .int .i64 a1_5, .int .i64 a1_6] 33 (0, 0)) (by (with_reducible repeat (first | refine blk_drewN ?_ _ | refine blk_drew ?_ | refine blk_alloc ?_ _)); exact BK190.out) hb)
            have n2_ := Aside0.mk (blk_below (g := gb191) (o := .cells #[.bool a2_0, .int .i64 a2_1, .int .i64 a2_2, .int .i64 a2_3] 35 (0, 0)) (by (with_reducible repeat (first | refine blk_drewN ?_ _ | refine blk_drew ?_ | refine blk_alloc ?_ _)); exact BK191.out) hb)
            have n3_ := Aside0.mk (blk_below (g := gb192) (o := .cells #[.bool a3_0, .int .i64 a3_1, .int .i64 a3_2, .int .i64 a3_3] 35 (0, 0)) (by (with_reducible repeat (first | refine blk_drewN ?_ _ | refine blk_drew ?_ | refine blk_alloc ?_ _)); exact BK192.out) hb)
            have n4_ := Aside0.mk (below_step (by repeat (first | (with_reducible first | exact HB.out | apply below_alloc | apply pw_below_drewN | apply below_drew1 | refine below_set ?_ GE189.out | refine below_set ?_ GE190.out | refine below_set ?_ GE191.out | refine below_set ?_ GE192.out) | exact HB.out)) hb)
            have z_BK224 := fun (h0_ : b 16 = true) (h1_ : b 18 = false) => (show w28.heap[gb224]? = some (.cells #[.bool false, .int .i64 0, .int .i64 0, .int .i64 0] 36 (0, 0)) from by first | exact (blk_below (g := gb224) (o := .cells #[.bool false, .int .i64 0, .int .i64 0, .int .i64 0] 36 (0, 0)) (by (with_reducible repeat (first | refine blk_drewN ?_ _ | refine blk_drew ?_ | refine blk_alloc ?_ _)); exact (Q_BK224 h0_ h1_)) hb))
            have z_BK225 := fun (h0_ : b 17 = true) (h1_ : b 19 = false) => (show w28.heap[gb225]? = some (.cells #[.bool false, .int .i64 0, .int .i64 0, .int .i64 0] 36 (0, 0)) from by first | exact (blk_below (g := gb225) (o := .cells #[.bool false, .int .i64 0, .int .i64 0, .int .i64 0] 36 (0, 0)) (by (with_reducible repeat (first | refine blk_drewN ?_ _ | refine blk_drew ?_ | refine blk_alloc ?_ _)); exact (Q_BK225 h0_ h1_)) hb))
            clear BK189
            clear BK190
            clear BK191
            clear BK192
            clear HB
            have BK189 := n0_
            have BK190 := n1_
            have BK191 := n2_
            have BK192 := n3_
            have HB := n4_
            clear n0_ n1_ n2_ n3_ n4_
            (try clear hb)
            (try clear hb2)
            (try clear hk)
            (try clear hi)
            refine hK.out _ _ ⟨gb224, gb225, m16_, m17_, (by rw [ha.out]; exact putSel_upk 1 hb_ rfl rfl rfl), (by (with_reducible repeat (first | refine blk_drewN ?_ _ | refine blk_drew ?_ | refine blk_alloc ?_ _)); exact BK189.out), (by (with_reducible repeat (first | refine blk_drewN ?_ _ | refine blk_drew ?_ | refine blk_alloc ?_ _)); exact BK190.out), (by (with_reducible repeat (first | refine blk_drewN ?_ _ | refine blk_drew ?_ | refine blk_alloc ?_ _)); exact BK191.out), (by (with_reducible repeat (first | refine blk_drewN ?_ _ | refine blk_drew ?_ | refine blk_alloc ?_ _)); exact BK192.out), (by repeat (first | (with_reducible first | exact HB.out | apply below_alloc | apply pw_below_drewN | apply below_drew1 | refine below_set ?_ GE189.out | refine below_set ?_ GE190.out | refine below_set ?_ GE191.out | refine below_set ?_ GE192.out) | exact HB.out)), Q_NB225_224, Q_NB224_225, z_BK224, Q_GW224, Q_GE224, Q_NB189_224, Q_NB224_189, Q_NB190_224, Q_NB224_190, Q_NB191_224, Q_NB224_191, Q_NB192_224, Q_NB224_192, z_BK225, Q_GW225, Q_GE225, Q_NB189_225, Q_NB225_189, Q_NB190_225, Q_NB225_190, Q_NB191_225, Q_NB225_191, Q_NB192_225, Q_NB225_192, fun h0_ => absurd ((hoff 18 (by kernel_rfl)).symm.trans h0_) (by decide), fun h0_ => absurd ((hoff 19 (by kernel_rfl)).symm.trans h0_) (by decide), Q_X16_, Q_X17_⟩
          refine steps_cons ?_ ?_
          · rintro b a w' ⟨gb224, gb225, m16_, m17_, ha, Q_BK189, Q_BK190, Q_BK191, Q_BK192, Q_HB, Q_NB225_224, Q_NB224_225, Q_BK224, Q_GW224, Q_GE224, Q_NB189_224, Q_NB224_189, Q_NB190_224, Q_NB224_190, Q_NB191_224, Q_NB224_191, Q_NB192_224, Q_NB224_192, Q_BK225, Q_GW225, Q_GE225, Q_NB189_225, Q_NB225_189, Q_NB190_225, Q_NB225_190, Q_NB191_225, Q_NB225_191, Q_NB192_225, Q_NB225_192, Q_BK224_e18, Q_BK225_e19, Q_X16_, Q_X17_⟩ hb_ hon hoff
            refine ⟨_, rfl, fun K hK => ?_⟩
            have e8 : a.tmps[8]? = some (.pointer (some ⟨gb190, 0, none⟩)) := by rw [ha]; exact (putSel_off rfl).trans rfl
            replace ha := Aside0.mk ha
            have BK189 := Aside0.mk Q_BK189
            have BK190 := Aside0.mk Q_BK190
            have BK191 := Aside0.mk Q_BK191
            have BK192 := Aside0.mk Q_BK192
            have HB := Aside0.mk Q_HB
            have hc0_ : w'.cell? ⟨gb190, 0, none⟩ = some (.int .i64 a1_0) := (blk_cell BK190.out 0).trans rfl
            have hc1_ : w'.cell? ⟨gb190, 1, none⟩ = some (.int .i64 a1_1) := (blk_cell BK190.out 1).trans rfl
            have hc2_ : w'.cell? ⟨gb190, 2, none⟩ = some (.int .i64 a1_2) := (blk_cell BK190.out 2).trans rfl
            have hc3_ : w'.cell? ⟨gb190, 3, none⟩ = some (.int .i64 a1_3) := (blk_cell BK190.out 3).trans rfl
            have hc4_ : w'.cell? ⟨gb190, 4, none⟩ = some (.int .i64 a1_4) := (blk_cell BK190.out 4).trans rfl
            have hc5_ : w'.cell? ⟨gb190, 5, none⟩ = some (.int .i64 a1_5) := (blk_cell BK190.out 5).trans rfl
            have hc6_ : w'.cell? ⟨gb190, 6, none⟩ = some (.int .i64 a1_6) := (blk_cell BK190.out 6).trans rfl
            refine value_ (w1 := w') (v := .agg #[.int .i64 a1_0, .int .i64 a1_1, .int .i64 a1_2, .int .i64 a1_3, .int .i64 a1_4, .int .i64 a1_5, .int .i64 a1_6]) (by rfl) rfl ?_ ?_
            · go_simp
              (try simp only [i64_w])
              try rfl
            refine hK.out _ _ ⟨gb224, gb225, m16_, m17_, (by rw [ha.out]; exact putSel_upk 2 hb_ rfl rfl rfl), Q_BK189, Q_BK190, Q_BK191, Q_BK192, Q_HB, Q_NB225_224, Q_NB224_225, Q_BK224, Q_GW224, Q_GE224, Q_NB189_224, Q_NB224_189, Q_NB190_224, Q_NB224_190, Q_NB191_224, Q_NB224_191, Q_NB192_224, Q_NB224_192, Q_BK225, Q_GW225, Q_GE225, Q_NB189_225, Q_NB225_189, Q_NB190_225, Q_NB225_190, Q_NB191_225, Q_NB225_191, Q_NB192_225, Q_NB225_192, fun h0_ => absurd ((hoff 18 (by kernel_rfl)).symm.trans h0_) (by decide), fun h0_ => absurd ((hoff 19 (by kernel_rfl)).symm.trans h0_) (by decide), Q_X16_, Q_X17_⟩
          refine steps_cons ?_ ?_
          · rintro b a w' ⟨gb224, gb225, m16_, m17_, ha, Q_BK189, Q_BK190, Q_BK191, Q_BK192, Q_HB, Q_NB225_224, Q_NB224_225, Q_BK224, Q_GW224, Q_GE224, Q_NB189_224, Q_NB224_189, Q_NB190_224, Q_NB224_190, Q_NB191_224, Q_NB224_191, Q_NB192_224, Q_NB224_192, Q_BK225, Q_GW225, Q_GE225, Q_NB189_225, Q_NB225_189, Q_NB190_225, Q_NB225_190, Q_NB191_225, Q_NB225_191, Q_NB192_225, Q_NB225_192, Q_BK224_e18, Q_BK225_e19, Q_X16_, Q_X17_⟩ hb_ hon hoff
            refine ⟨_, rfl, fun K hK => ?_⟩
            have e24 : a.tmps[24]? = some (.agg #[.int .i64 a1_0, .int .i64 a1_1, .int .i64 a1_2, .int .i64 a1_3, .int .i64 a1_4, .int .i64 a1_5, .int .i64 a1_6]) := by rw [ha]; exact putSel_on (e := (2, 24, .agg #[.int .i64 a1_0, .int .i64 a1_1, .int .i64 a1_2, .int .i64 a1_3, .int .i64 a1_4, .int .i64 a1_5, .int .i64 a1_6])) 2 rfl rfl (hon 2 (by kernel_rfl)) rfl
            replace ha := Aside0.mk ha
            have BK189 := Aside0.mk Q_BK189
            have BK190 := Aside0.mk Q_BK190
            have BK191 := Aside0.mk Q_BK191
            have BK192 := Aside0.mk Q_BK192
            have HB := Aside0.mk Q_HB
            refine goes_ Try.func18 (by kernel_rfl) rfl #[.agg #[.int .i64 a1_0, .int .i64 a1_1, .int .i64 a1_2, .int .i64 a1_3, .int .i64 a1_4, .int .i64 a1_5, .int .i64 a1_6]] (by rfl) rfl rfl (by first | (simp only [List.map_toArray, List.map_cons, List.map_nil, Act.eval, Array.getD_eq_getD_getElem?, Option.getD_some, e24]; done) | (simp only [List.map_toArray, List.map_cons, List.map_nil, Act.eval, Array.getD_eq_getD_getElem?, Option.getD_some, e24]; rfl)) ?_
            with_reducible refine (laws_toLoop.calls a1_0 a1_1 a1_2 a1_3 a1_4 a1_5 a1_6 t200 t201 t202 t203 t204 t205 t206 _ A9.out).mono ?_
            rintro e w30 ⟨rfl, hb⟩
            refine ⟨_, rfl, ?_⟩
            have n0_ := Aside0.mk (blk_below (g := gb189) (o := .cells #[.int .i64 a0_0, .int .i64 a0_1, .int .i64 a0_2, .int .i64 a0_3, .int .i64 a0_4, .int .i64 a0_5, .int .i64 a0_6] 33 (0, 0)) (by (with_reducible repeat (first | refine blk_drewN ?_ _ | refine blk_drew ?_ | refine blk_alloc ?_ _)); exact BK189.out) hb)
            have n1_ := Aside0.mk (blk_below (g := gb190) (o := .cells #[.int .i64 a1_0, .int .i64 a1_1, .int .i64 a1_2, .int .i64 a1_3, .int .i64 a1_4, .int .i64 a1_5, .int .i64 a1_6] 33 (0, 0)) (by (with_reducible repeat (first | refine blk_drewN ?_ _ | refine blk_drew ?_ | refine blk_alloc ?_ _)); exact BK190.out) hb)
            have n2_ := Aside0.mk (blk_below (g := gb191) (o := .cells #[.bool a2_0, .int .i64 a2_1, .int .i64 a2_2, .int .i64 a2_3] 35 (0, 0)) (by (with_reducible repeat (first | refine blk_drewN ?_ _ | refine blk_drew ?_ | refine blk_alloc ?_ _)); exact BK191.out) hb)
            have n3_ := Aside0.mk (blk_below (g := gb192) (o := .cells #[.bool a3_0, .int .i64 a3_1, .int .i64 a3_2, .int .i64 a3_3] 35 (0, 0)) (by (with_reducible repeat (first | refine blk_drewN ?_ _ | refine blk_drew ?_ | refine blk_alloc ?_ _)); exact BK192.out) hb)
            have n4_ := Aside0.mk (below_step (by repeat (first | (with_reducible first | exact HB.out | apply below_alloc | apply pw_below_drewN | apply below_drew1 | refine below_set ?_ GE189.out | refine below_set ?_ GE190.out | refine below_set ?_ GE191.out | refine below_set ?_ GE192.out) | exact HB.out)) hb)
            have z_BK224 := fun (h0_ : b 16 = true) (h1_ : b 18 = false) => (show w30.heap[gb224]? = some (.cells #[.bool false, .int .i64 0, .int .i64 0, .int .i64 0] 36 (0, 0)) from by first | exact (blk_below (g := gb224) (o := .cells #[.bool false, .int .i64 0, .int .i64 0, .int .i64 0] 36 (0, 0)) (by (with_reducible repeat (first | refine blk_drewN ?_ _ | refine blk_drew ?_ | refine blk_alloc ?_ _)); exact (Q_BK224 h0_ h1_)) hb))
            have z_BK225 := fun (h0_ : b 17 = true) (h1_ : b 19 = false) => (show w30.heap[gb225]? = some (.cells #[.bool false, .int .i64 0, .int .i64 0, .int .i64 0] 36 (0, 0)) from by first | exact (blk_below (g := gb225) (o := .cells #[.bool false, .int .i64 0, .int .i64 0, .int .i64 0] 36 (0, 0)) (by (with_reducible repeat (first | refine blk_drewN ?_ _ | refine blk_drew ?_ | refine blk_alloc ?_ _)); exact (Q_BK225 h0_ h1_)) hb))
            clear BK189
            clear BK190
            clear BK191
            clear BK192
            clear HB
            have BK189 := n0_
            have BK190 := n1_
            have BK191 := n2_
            have BK192 := n3_
            have HB := n4_
            clear n0_ n1_ n2_ n3_ n4_
            (try clear hb)
            (try clear hb2)
            (try clear hk)
            (try clear hi)
            refine hK.out _ _ ⟨gb224, gb225, m16_, m17_, (by rw [ha.out]; exact putSel_upk 3 hb_ rfl rfl rfl), (by (with_reducible repeat (first | refine blk_drewN ?_ _ | refine blk_drew ?_ | refine blk_alloc ?_ _)); exact BK189.out), (by (with_reducible repeat (first | refine blk_drewN ?_ _ | refine blk_drew ?_ | refine blk_alloc ?_ _)); exact BK190.out), (by (with_reducible repeat (first | refine blk_drewN ?_ _ | refine blk_drew ?_ | refine blk_alloc ?_ _)); exact BK191.out), (by (with_reducible repeat (first | refine blk_drewN ?_ _ | refine blk_drew ?_ | refine blk_alloc ?_ _)); exact BK192.out), (by repeat (first | (with_reducible first | exact HB.out | apply below_alloc | apply pw_below_drewN | apply below_drew1 | refine below_set ?_ GE189.out | refine below_set ?_ GE190.out | refine below_set ?_ GE191.out | refine below_set ?_ GE192.out) | exact HB.out)), Q_NB225_224, Q_NB224_225, z_BK224, Q_GW224, Q_GE224, Q_NB189_224, Q_NB224_189, Q_NB190_224, Q_NB224_190, Q_NB191_224, Q_NB224_191, Q_NB192_224, Q_NB224_192, z_BK225, Q_GW225, Q_GE225, Q_NB189_225, Q_NB225_189, Q_NB190_225, Q_NB225_190, Q_NB191_225, Q_NB225_191, Q_NB192_225, Q_NB225_192, fun h0_ => absurd ((hoff 18 (by kernel_rfl)).symm.trans h0_) (by decide), fun h0_ => absurd ((hoff 19 (by kernel_rfl)).symm.trans h0_) (by decide), Q_X16_, Q_X17_⟩
          refine steps_cons ?_ ?_
          · rintro b a w' ⟨gb224, gb225, m16_, m17_, ha, Q_BK189, Q_BK190, Q_BK191, Q_BK192, Q_HB, Q_NB225_224, Q_NB224_225, Q_BK224, Q_GW224, Q_GE224, Q_NB189_224, Q_NB224_189, Q_NB190_224, Q_NB224_190, Q_NB191_224, Q_NB224_191, Q_NB192_224, Q_NB224_192, Q_BK225, Q_GW225, Q_GE225, Q_NB189_225, Q_NB225_189, Q_NB190_225, Q_NB225_190, Q_NB191_225, Q_NB225_191, Q_NB192_225, Q_NB225_192, Q_BK224_e18, Q_BK225_e19, Q_X16_, Q_X17_⟩ hb_ hon hoff
            refine ⟨_, rfl, fun K hK => ?_⟩
            have e9 : a.tmps[9]? = some (.pointer (some ⟨gb191, 0, none⟩)) := by rw [ha]; exact (putSel_off rfl).trans rfl
            replace ha := Aside0.mk ha
            have BK189 := Aside0.mk Q_BK189
            have BK190 := Aside0.mk Q_BK190
            have BK191 := Aside0.mk Q_BK191
            have BK192 := Aside0.mk Q_BK192
            have HB := Aside0.mk Q_HB
            have hc0_ : w'.cell? ⟨gb191, 0, none⟩ = some (.bool a2_0) := (blk_cell BK191.out 0).trans rfl
            have hc1_ : w'.cell? ⟨gb191, 1, none⟩ = some (.int .i64 a2_1) := (blk_cell BK191.out 1).trans rfl
            have hc2_ : w'.cell? ⟨gb191, 2, none⟩ = some (.int .i64 a2_2) := (blk_cell BK191.out 2).trans rfl
            have hc3_ : w'.cell? ⟨gb191, 3, none⟩ = some (.int .i64 a2_3) := (blk_cell BK191.out 3).trans rfl
            refine value_ (w1 := w') (v := .agg #[.bool a2_0, .int .i64 a2_1, .int .i64 a2_2, .int .i64 a2_3]) (by rfl) rfl ?_ ?_
            · go_simp
              (try simp only [i64_w])
              try rfl
            refine hK.out _ _ ⟨gb224, gb225, m16_, m17_, (by rw [ha.out]; exact putSel_upk 4 hb_ rfl rfl rfl), Q_BK189, Q_BK190, Q_BK191, Q_BK192, Q_HB, Q_NB225_224, Q_NB224_225, Q_BK224, Q_GW224, Q_GE224, Q_NB189_224, Q_NB224_189, Q_NB190_224, Q_NB224_190, Q_NB191_224, Q_NB224_191, Q_NB192_224, Q_NB224_192, Q_BK225, Q_GW225, Q_GE225, Q_NB189_225, Q_NB225_189, Q_NB190_225, Q_NB225_190, Q_NB191_225, Q_NB225_191, Q_NB192_225, Q_NB225_192, fun h0_ => absurd ((hoff 18 (by kernel_rfl)).symm.trans h0_) (by decide), fun h0_ => absurd ((hoff 19 (by kernel_rfl)).symm.trans h0_) (by decide), Q_X16_, Q_X17_⟩
          refine steps_cons ?_ ?_
          · rintro b a w' ⟨gb224, gb225, m16_, m17_, ha, Q_BK189, Q_BK190, Q_BK191, Q_BK192, Q_HB, Q_NB225_224, Q_NB224_225, Q_BK224, Q_GW224, Q_GE224, Q_NB189_224, Q_NB224_189, Q_NB190_224, Q_NB224_190, Q_NB191_224, Q_NB224_191, Q_NB192_224, Q_NB224_192, Q_BK225, Q_GW225, Q_GE225, Q_NB189_225, Q_NB225_189, Q_NB190_225, Q_NB225_190, Q_NB191_225, Q_NB225_191, Q_NB192_225, Q_NB225_192, Q_BK224_e18, Q_BK225_e19, Q_X16_, Q_X17_⟩ hb_ hon hoff
            refine ⟨_, rfl, fun K hK => ?_⟩
            have e26 : a.tmps[26]? = some (.agg #[.bool a2_0, .int .i64 a2_1, .int .i64 a2_2, .int .i64 a2_3]) := by rw [ha]; exact putSel_on (e := (4, 26, .agg #[.bool a2_0, .int .i64 a2_1, .int .i64 a2_2, .int .i64 a2_3])) 4 rfl rfl (hon 4 (by kernel_rfl)) rfl
            replace ha := Aside0.mk ha
            have BK189 := Aside0.mk Q_BK189
            have BK190 := Aside0.mk Q_BK190
            have BK191 := Aside0.mk Q_BK191
            have BK192 := Aside0.mk Q_BK192
            have HB := Aside0.mk Q_HB
            refine goes_ Try.func19 (by kernel_rfl) rfl #[.agg #[.bool a2_0, .int .i64 a2_1, .int .i64 a2_2, .int .i64 a2_3]] (by rfl) rfl rfl (by first | (simp only [List.map_toArray, List.map_cons, List.map_nil, Act.eval, Array.getD_eq_getD_getElem?, Option.getD_some, e26]; done) | (simp only [List.map_toArray, List.map_cons, List.map_nil, Act.eval, Array.getD_eq_getD_getElem?, Option.getD_some, e26]; rfl)) ?_
            with_reducible refine (laws_toHold.calls a2_0 a2_1 a2_2 a2_3 t207 t208 t209 t210 _ A10.out).mono ?_
            rintro e w31 ⟨rfl, hb⟩
            refine ⟨_, rfl, ?_⟩
            have n0_ := Aside0.mk (blk_below (g := gb189) (o := .cells #[.int .i64 a0_0, .int .i64 a0_1, .int .i64 a0_2, .int .i64 a0_3, .int .i64 a0_4, .int .i64 a0_5, .int .i64 a0_6] 33 (0, 0)) (by (with_reducible repeat (first | refine blk_drewN ?_ _ | refine blk_drew ?_ | refine blk_alloc ?_ _)); exact BK189.out) hb)
            have n1_ := Aside0.mk (blk_below (g := gb190) (o := .cells #[.int .i64 a1_0, .int .i64 a1_1, .int .i64 a1_2, .int .i64 a1_3, .int .i64 a1_4, .int .i64 a1_5, .int .i64 a1_6] 33 (0, 0)) (by (with_reducible repeat (first | refine blk_drewN ?_ _ | refine blk_drew ?_ | refine blk_alloc ?_ _)); exact BK190.out) hb)
            have n2_ := Aside0.mk (blk_below (g := gb191) (o := .cells #[.bool a2_0, .int .i64 a2_1, .int .i64 a2_2, .int .i64 a2_3] 35 (0, 0)) (by (with_reducible repeat (first | refine blk_drewN ?_ _ | refine blk_drew ?_ | refine blk_alloc ?_ _)); exact BK191.out) hb)
            have n3_ := Aside0.mk (blk_below (g := gb192) (o := .cells #[.bool a3_0, .int .i64 a3_1, .int .i64 a3_2, .int .i64 a3_3] 35 (0, 0)) (by (with_reducible repeat (first | refine blk_drewN ?_ _ | refine blk_drew ?_ | refine blk_alloc ?_ _)); exact BK192.out) hb)
            have n4_ := Aside0.mk (below_step (by repeat (first | (with_reducible first | exact HB.out | apply below_alloc | apply pw_below_drewN | apply below_drew1 | refine below_set ?_ GE189.out | refine below_set ?_ GE190.out | refine below_set ?_ GE191.out | refine below_set ?_ GE192.out) | exact HB.out)) hb)
            have z_BK224 := fun (h0_ : b 16 = true) (h1_ : b 18 = false) => (show w31.heap[gb224]? = some (.cells #[.bool false, .int .i64 0, .int .i64 0, .int .i64 0] 36 (0, 0)) from by first | exact (blk_below (g := gb224) (o := .cells #[.bool false, .int .i64 0, .int .i64 0, .int .i64 0] 36 (0, 0)) (by (with_reducible repeat (first | refine blk_drewN ?_ _ | refine blk_drew ?_ | refine blk_alloc ?_ _)); exact (Q_BK224 h0_ h1_)) hb))
            have z_BK225 := fun (h0_ : b 17 = true) (h1_ : b 19 = false) => (show w31.heap[gb225]? = some (.cells #[.bool false, .int .i64 0, .int .i64 0, .int .i64 0] 36 (0, 0)) from by first | exact (blk_below (g := gb225) (o := .cells #[.bool false, .int .i64 0, .int .i64 0, .int .i64 0] 36 (0, 0)) (by (with_reducible repeat (first | refine blk_drewN ?_ _ | refine blk_drew ?_ | refine blk_alloc ?_ _)); exact (Q_BK225 h0_ h1_)) hb))
            clear BK189
            clear BK190
            clear BK191
            clear BK192
            clear HB
            have BK189 := n0_
            have BK190 := n1_
            have BK191 := n2_
            have BK192 := n3_
            have HB := n4_
            clear n0_ n1_ n2_ n3_ n4_
            (try clear hb)
            (try clear hb2)
            (try clear hk)
            (try clear hi)
            refine hK.out _ _ ⟨gb224, gb225, m16_, m17_, (by rw [ha.out]; exact putSel_upk 5 hb_ rfl rfl rfl), (by (with_reducible repeat (first | refine blk_drewN ?_ _ | refine blk_drew ?_ | refine blk_alloc ?_ _)); exact BK189.out), (by (with_reducible repeat (first | refine blk_drewN ?_ _ | refine blk_drew ?_ | refine blk_alloc ?_ _)); exact BK190.out), (by (with_reducible repeat (first | refine blk_drewN ?_ _ | refine blk_drew ?_ | refine blk_alloc ?_ _)); exact BK191.out), (by (with_reducible repeat (first | refine blk_drewN ?_ _ | refine blk_drew ?_ | refine blk_alloc ?_ _)); exact BK192.out), (by repeat (first | (with_reducible first | exact HB.out | apply below_alloc | apply pw_below_drewN | apply below_drew1 | refine below_set ?_ GE189.out | refine below_set ?_ GE190.out | refine below_set ?_ GE191.out | refine below_set ?_ GE192.out) | exact HB.out)), Q_NB225_224, Q_NB224_225, z_BK224, Q_GW224, Q_GE224, Q_NB189_224, Q_NB224_189, Q_NB190_224, Q_NB224_190, Q_NB191_224, Q_NB224_191, Q_NB192_224, Q_NB224_192, z_BK225, Q_GW225, Q_GE225, Q_NB189_225, Q_NB225_189, Q_NB190_225, Q_NB225_190, Q_NB191_225, Q_NB225_191, Q_NB192_225, Q_NB225_192, fun h0_ => absurd ((hoff 18 (by kernel_rfl)).symm.trans h0_) (by decide), fun h0_ => absurd ((hoff 19 (by kernel_rfl)).symm.trans h0_) (by decide), Q_X16_, Q_X17_⟩
          refine steps_cons ?_ ?_
          · rintro b a w' ⟨gb224, gb225, m16_, m17_, ha, Q_BK189, Q_BK190, Q_BK191, Q_BK192, Q_HB, Q_NB225_224, Q_NB224_225, Q_BK224, Q_GW224, Q_GE224, Q_NB189_224, Q_NB224_189, Q_NB190_224, Q_NB224_190, Q_NB191_224, Q_NB224_191, Q_NB192_224, Q_NB224_192, Q_BK225, Q_GW225, Q_GE225, Q_NB189_225, Q_NB225_189, Q_NB190_225, Q_NB225_190, Q_NB191_225, Q_NB225_191, Q_NB192_225, Q_NB225_192, Q_BK224_e18, Q_BK225_e19, Q_X16_, Q_X17_⟩ hb_ hon hoff
            refine ⟨_, rfl, fun K hK => ?_⟩
            have e10 : a.tmps[10]? = some (.pointer (some ⟨gb192, 0, none⟩)) := by rw [ha]; exact (putSel_off rfl).trans rfl
            replace ha := Aside0.mk ha
            have BK189 := Aside0.mk Q_BK189
            have BK190 := Aside0.mk Q_BK190
            have BK191 := Aside0.mk Q_BK191
            have BK192 := Aside0.mk Q_BK192
            have HB := Aside0.mk Q_HB
            have hc0_ : w'.cell? ⟨gb192, 0, none⟩ = some (.bool a3_0) := (blk_cell BK192.out 0).trans rfl
            have hc1_ : w'.cell? ⟨gb192, 1, none⟩ = some (.int .i64 a3_1) := (blk_cell BK192.out 1).trans rfl
            have hc2_ : w'.cell? ⟨gb192, 2, none⟩ = some (.int .i64 a3_2) := (blk_cell BK192.out 2).trans rfl
            have hc3_ : w'.cell? ⟨gb192, 3, none⟩ = some (.int .i64 a3_3) := (blk_cell BK192.out 3).trans rfl
            refine value_ (w1 := w') (v := .agg #[.bool a3_0, .int .i64 a3_1, .int .i64 a3_2, .int .i64 a3_3]) (by rfl) rfl ?_ ?_
            · go_simp
              (try simp only [i64_w])
              try rfl
            refine hK.out _ _ ⟨gb224, gb225, m16_, m17_, (by rw [ha.out]; exact putSel_upk 6 hb_ rfl rfl rfl), Q_BK189, Q_BK190, Q_BK191, Q_BK192, Q_HB, Q_NB225_224, Q_NB224_225, Q_BK224, Q_GW224, Q_GE224, Q_NB189_224, Q_NB224_189, Q_NB190_224, Q_NB224_190, Q_NB191_224, Q_NB224_191, Q_NB192_224, Q_NB224_192, Q_BK225, Q_GW225, Q_GE225, Q_NB189_225, Q_NB225_189, Q_NB190_225, Q_NB225_190, Q_NB191_225, Q_NB225_191, Q_NB192_225, Q_NB225_192, fun h0_ => absurd ((hoff 18 (by kernel_rfl)).symm.trans h0_) (by decide), fun h0_ => absurd ((hoff 19 (by kernel_rfl)).symm.trans h0_) (by decide), Q_X16_, Q_X17_⟩
          refine steps_cons ?_ ?_
          · rintro b a w' ⟨gb224, gb225, m16_, m17_, ha, Q_BK189, Q_BK190, Q_BK191, Q_BK192, Q_HB, Q_NB225_224, Q_NB224_225, Q_BK224, Q_GW224, Q_GE224, Q_NB189_224, Q_NB224_189, Q_NB190_224, Q_NB224_190, Q_NB191_224, Q_NB224_191, Q_NB192_224, Q_NB224_192, Q_BK225, Q_GW225, Q_GE225, Q_NB189_225, Q_NB225_189, Q_NB190_225, Q_NB225_190, Q_NB191_225, Q_NB225_191, Q_NB192_225, Q_NB225_192, Q_BK224_e18, Q_BK225_e19, Q_X16_, Q_X17_⟩ hb_ hon hoff
            refine ⟨_, rfl, fun K hK => ?_⟩
            have e28 : a.tmps[28]? = some (.agg #[.bool a3_0, .int .i64 a3_1, .int .i64 a3_2, .int .i64 a3_3]) := by rw [ha]; exact putSel_on (e := (6, 28, .agg #[.bool a3_0, .int .i64 a3_1, .int .i64 a3_2, .int .i64 a3_3])) 6 rfl rfl (hon 6 (by kernel_rfl)) rfl
            replace ha := Aside0.mk ha
            have BK189 := Aside0.mk Q_BK189
            have BK190 := Aside0.mk Q_BK190
            have BK191 := Aside0.mk Q_BK191
            have BK192 := Aside0.mk Q_BK192
            have HB := Aside0.mk Q_HB
            refine goes_ Try.func19 (by kernel_rfl) rfl #[.agg #[.bool a3_0, .int .i64 a3_1, .int .i64 a3_2, .int .i64 a3_3]] (by rfl) rfl rfl (by first | (simp only [List.map_toArray, List.map_cons, List.map_nil, Act.eval, Array.getD_eq_getD_getElem?, Option.getD_some, e28]; done) | (simp only [List.map_toArray, List.map_cons, List.map_nil, Act.eval, Array.getD_eq_getD_getElem?, Option.getD_some, e28]; rfl)) ?_
            with_reducible refine (laws_toHold.calls a3_0 a3_1 a3_2 a3_3 t211 t212 t213 t214 _ A11.out).mono ?_
            rintro e w32 ⟨rfl, hb⟩
            refine ⟨_, rfl, ?_⟩
            have n0_ := Aside0.mk (blk_below (g := gb189) (o := .cells #[.int .i64 a0_0, .int .i64 a0_1, .int .i64 a0_2, .int .i64 a0_3, .int .i64 a0_4, .int .i64 a0_5, .int .i64 a0_6] 33 (0, 0)) (by (with_reducible repeat (first | refine blk_drewN ?_ _ | refine blk_drew ?_ | refine blk_alloc ?_ _)); exact BK189.out) hb)
            have n1_ := Aside0.mk (blk_below (g := gb190) (o := .cells #[.int .i64 a1_0, .int .i64 a1_1, .int .i64 a1_2, .int .i64 a1_3, .int .i64 a1_4, .int .i64 a1_5, .int .i64 a1_6] 33 (0, 0)) (by (with_reducible repeat (first | refine blk_drewN ?_ _ | refine blk_drew ?_ | refine blk_alloc ?_ _)); exact BK190.out) hb)
            have n2_ := Aside0.mk (blk_below (g := gb191) (o := .cells #[.bool a2_0, .int .i64 a2_1, .int .i64 a2_2, .int .i64 a2_3] 35 (0, 0)) (by (with_reducible repeat (first | refine blk_drewN ?_ _ | refine blk_drew ?_ | refine blk_alloc ?_ _)); exact BK191.out) hb)
            have n3_ := Aside0.mk (blk_below (g := gb192) (o := .cells #[.bool a3_0, .int .i64 a3_1, .int .i64 a3_2, .int .i64 a3_3] 35 (0, 0)) (by (with_reducible repeat (first | refine blk_drewN ?_ _ | refine blk_drew ?_ | refine blk_alloc ?_ _)); exact BK192.out) hb)
            have n4_ := Aside0.mk (below_step (by repeat (first | (with_reducible first | exact HB.out | apply below_alloc | apply pw_below_drewN | apply below_drew1 | refine below_set ?_ GE189.out | refine below_set ?_ GE190.out | refine below_set ?_ GE191.out | refine below_set ?_ GE192.out) | exact HB.out)) hb)
            have z_BK224 := fun (h0_ : b 16 = true) (h1_ : b 18 = false) => (show w32.heap[gb224]? = some (.cells #[.bool false, .int .i64 0, .int .i64 0, .int .i64 0] 36 (0, 0)) from by first | exact (blk_below (g := gb224) (o := .cells #[.bool false, .int .i64 0, .int .i64 0, .int .i64 0] 36 (0, 0)) (by (with_reducible repeat (first | refine blk_drewN ?_ _ | refine blk_drew ?_ | refine blk_alloc ?_ _)); exact (Q_BK224 h0_ h1_)) hb))
            have z_BK225 := fun (h0_ : b 17 = true) (h1_ : b 19 = false) => (show w32.heap[gb225]? = some (.cells #[.bool false, .int .i64 0, .int .i64 0, .int .i64 0] 36 (0, 0)) from by first | exact (blk_below (g := gb225) (o := .cells #[.bool false, .int .i64 0, .int .i64 0, .int .i64 0] 36 (0, 0)) (by (with_reducible repeat (first | refine blk_drewN ?_ _ | refine blk_drew ?_ | refine blk_alloc ?_ _)); exact (Q_BK225 h0_ h1_)) hb))
            clear BK189
            clear BK190
            clear BK191
            clear BK192
            clear HB
            have BK189 := n0_
            have BK190 := n1_
            have BK191 := n2_
            have BK192 := n3_
            have HB := n4_
            clear n0_ n1_ n2_ n3_ n4_
            (try clear hb)
            (try clear hb2)
            (try clear hk)
            (try clear hi)
            refine hK.out _ _ ⟨gb224, gb225, m16_, m17_, (by rw [ha.out]; exact putSel_upk 7 hb_ rfl rfl rfl), (by (with_reducible repeat (first | refine blk_drewN ?_ _ | refine blk_drew ?_ | refine blk_alloc ?_ _)); exact BK189.out), (by (with_reducible repeat (first | refine blk_drewN ?_ _ | refine blk_drew ?_ | refine blk_alloc ?_ _)); exact BK190.out), (by (with_reducible repeat (first | refine blk_drewN ?_ _ | refine blk_drew ?_ | refine blk_alloc ?_ _)); exact BK191.out), (by (with_reducible repeat (first | refine blk_drewN ?_ _ | refine blk_drew ?_ | refine blk_alloc ?_ _)); exact BK192.out), (by repeat (first | (with_reducible first | exact HB.out | apply below_alloc | apply pw_below_drewN | apply below_drew1 | refine below_set ?_ GE189.out | refine below_set ?_ GE190.out | refine below_set ?_ GE191.out | refine below_set ?_ GE192.out) | exact HB.out)), Q_NB225_224, Q_NB224_225, z_BK224, Q_GW224, Q_GE224, Q_NB189_224, Q_NB224_189, Q_NB190_224, Q_NB224_190, Q_NB191_224, Q_NB224_191, Q_NB192_224, Q_NB224_192, z_BK225, Q_GW225, Q_GE225, Q_NB189_225, Q_NB225_189, Q_NB190_225, Q_NB225_190, Q_NB191_225, Q_NB225_191, Q_NB192_225, Q_NB225_192, fun h0_ => absurd ((hoff 18 (by kernel_rfl)).symm.trans h0_) (by decide), fun h0_ => absurd ((hoff 19 (by kernel_rfl)).symm.trans h0_) (by decide), Q_X16_, Q_X17_⟩
          refine steps_cons ?_ ?_
          · rintro b a w' ⟨gb224, gb225, m16_, m17_, ha, Q_BK189, Q_BK190, Q_BK191, Q_BK192, Q_HB, Q_NB225_224, Q_NB224_225, Q_BK224, Q_GW224, Q_GE224, Q_NB189_224, Q_NB224_189, Q_NB190_224, Q_NB224_190, Q_NB191_224, Q_NB224_191, Q_NB192_224, Q_NB224_192, Q_BK225, Q_GW225, Q_GE225, Q_NB189_225, Q_NB225_189, Q_NB190_225, Q_NB225_190, Q_NB191_225, Q_NB225_191, Q_NB192_225, Q_NB225_192, Q_BK224_e18, Q_BK225_e19, Q_X16_, Q_X17_⟩ hb_ hon hoff
            refine ⟨_, rfl, fun K hK => ?_⟩
            have e23 : a.tmps[23]? = some (.agg #[.int .i64 t193, .int .i64 t194, .int .i64 t195, .int .i64 t196, .int .i64 t197, .int .i64 t198, .int .i64 t199]) := by rw [ha]; exact putSel_on (e := (1, 23, .agg #[.int .i64 t193, .int .i64 t194, .int .i64 t195, .int .i64 t196, .int .i64 t197, .int .i64 t198, .int .i64 t199])) 1 rfl rfl (hon 1 (by kernel_rfl)) rfl
            have e25 : a.tmps[25]? = some (.agg #[.int .i64 t200, .int .i64 t201, .int .i64 t202, .int .i64 t203, .int .i64 t204, .int .i64 t205, .int .i64 t206]) := by rw [ha]; exact putSel_on (e := (3, 25, .agg #[.int .i64 t200, .int .i64 t201, .int .i64 t202, .int .i64 t203, .int .i64 t204, .int .i64 t205, .int .i64 t206])) 3 rfl rfl (hon 3 (by kernel_rfl)) rfl
            have e27 : a.tmps[27]? = some (.agg #[.bool t207, .int .i64 t208, .int .i64 t209, .int .i64 t210]) := by rw [ha]; exact putSel_on (e := (5, 27, .agg #[.bool t207, .int .i64 t208, .int .i64 t209, .int .i64 t210])) 5 rfl rfl (hon 5 (by kernel_rfl)) rfl
            have e29 : a.tmps[29]? = some (.agg #[.bool t211, .int .i64 t212, .int .i64 t213, .int .i64 t214]) := by rw [ha]; exact putSel_on (e := (7, 29, .agg #[.bool t211, .int .i64 t212, .int .i64 t213, .int .i64 t214])) 7 rfl rfl (hon 7 (by kernel_rfl)) rfl
            have e30 : a.tmps[30]? = some (.int .i64 a4) := by rw [ha]; exact (putSel_off rfl).trans rfl
            have e31 : a.tmps[31]? = some (.int .i64 a5) := by rw [ha]; exact (putSel_off rfl).trans rfl
            have e32 : a.tmps[32]? = some (.int .i64 a6) := by rw [ha]; exact (putSel_off rfl).trans rfl
            replace ha := Aside0.mk ha
            have BK189 := Aside0.mk Q_BK189
            have BK190 := Aside0.mk Q_BK190
            have BK191 := Aside0.mk Q_BK191
            have BK192 := Aside0.mk Q_BK192
            have HB := Aside0.mk Q_HB
            refine goes_ Try.func22 (by kernel_rfl) rfl #[.agg #[.int .i64 t193, .int .i64 t194, .int .i64 t195, .int .i64 t196, .int .i64 t197, .int .i64 t198, .int .i64 t199], .agg #[.int .i64 t200, .int .i64 t201, .int .i64 t202, .int .i64 t203, .int .i64 t204, .int .i64 t205, .int .i64 t206], .agg #[.bool t207, .int .i64 t208, .int .i64 t209, .int .i64 t210], .agg #[.bool t211, .int .i64 t212, .int .i64 t213, .int .i64 t214], .int .i64 a4, .int .i64 a5, .int .i64 a6] (by rfl) rfl rfl (by first | (simp only [List.map_toArray, List.map_cons, List.map_nil, Act.eval, Array.getD_eq_getD_getElem?, Option.getD_some, e23, e25, e27, e29, e30, e31, e32]; done) | (simp only [List.map_toArray, List.map_cons, List.map_nil, Act.eval, Array.getD_eq_getD_getElem?, Option.getD_some, e23, e25, e27, e29, e30, e31, e32]; rfl)) ?_
            with_reducible refine (spec_CascadeStep.calls k t193 t194 t195 t196 t197 t198 t199 t200 t201 t202 t203 t204 t205 t206 t207 t208 t209 t210 t211 t212 t213 t214 a4 a5 a6 t215 t216 t217 t218 t219 t220 t221 t222 t223 _ A12.out).mono ?_
            rintro e w33 ⟨rfl, hb⟩
            refine ⟨_, rfl, ?_⟩
            have n0_ := Aside0.mk (blk_below (g := gb189) (o := .cells #[.int .i64 a0_0, .int .i64 a0_1, .int .i64 a0_2, .int .i64 a0_3, .int .i64 a0_4, .int .i64 a0_5, .int .i64 a0_6] 33 (0, 0)) (by (with_reducible repeat (first | refine blk_drewN ?_ _ | refine blk_drew ?_ | refine blk_alloc ?_ _)); exact BK189.out) hb)
            have n1_ := Aside0.mk (blk_below (g := gb190) (o := .cells #[.int .i64 a1_0, .int .i64 a1_1, .int .i64 a1_2, .int .i64 a1_3, .int .i64 a1_4, .int .i64 a1_5, .int .i64 a1_6] 33 (0, 0)) (by (with_reducible repeat (first | refine blk_drewN ?_ _ | refine blk_drew ?_ | refine blk_alloc ?_ _)); exact BK190.out) hb)
            have n2_ := Aside0.mk (blk_below (g := gb191) (o := .cells #[.bool a2_0, .int .i64 a2_1, .int .i64 a2_2, .int .i64 a2_3] 35 (0, 0)) (by (with_reducible repeat (first | refine blk_drewN ?_ _ | refine blk_drew ?_ | refine blk_alloc ?_ _)); exact BK191.out) hb)
            have n3_ := Aside0.mk (blk_below (g := gb192) (o := .cells #[.bool a3_0, .int .i64 a3_1, .int .i64 a3_2, .int .i64 a3_3] 35 (0, 0)) (by (with_reducible repeat (first | refine blk_drewN ?_ _ | refine blk_drew ?_ | refine blk_alloc ?_ _)); exact BK192.out) hb)
            have n4_ := Aside0.mk (below_step (by repeat (first | (with_reducible first | exact HB.out | apply below_alloc | apply pw_below_drewN | apply below_drew1 | refine below_set ?_ GE189.out | refine below_set ?_ GE190.out | refine below_set ?_ GE191.out | refine below_set ?_ GE192.out) | exact HB.out)) hb)
            have z_BK224 := fun (h0_ : b 16 = true) (h1_ : b 18 = false) => (show w33.heap[gb224]? = some (.cells #[.bool false, .int .i64 0, .int .i64 0, .int .i64 0] 36 (0, 0)) from by first | exact (blk_below (g := gb224) (o := .cells #[.bool false, .int .i64 0, .int .i64 0, .int .i64 0] 36 (0, 0)) (by (with_reducible repeat (first | refine blk_drewN ?_ _ | refine blk_drew ?_ | refine blk_alloc ?_ _)); exact (Q_BK224 h0_ h1_)) hb))
            have z_BK225 := fun (h0_ : b 17 = true) (h1_ : b 19 = false) => (show w33.heap[gb225]? = some (.cells #[.bool false, .int .i64 0, .int .i64 0, .int .i64 0] 36 (0, 0)) from by first | exact (blk_below (g := gb225) (o := .cells #[.bool false, .int .i64 0, .int .i64 0, .int .i64 0] 36 (0, 0)) (by (with_reducible repeat (first | refine blk_drewN ?_ _ | refine blk_drew ?_ | refine blk_alloc ?_ _)); exact (Q_BK225 h0_ h1_)) hb))
            clear BK189
            clear BK190
            clear BK191
            clear BK192
            clear HB
            have BK189 := n0_
            have BK190 := n1_
            have BK191 := n2_
            have BK192 := n3_
            have HB := n4_
            clear n0_ n1_ n2_ n3_ n4_
            (try clear hb)
            (try clear hb2)
            (try clear hk)
            (try clear hi)
            refine hK.out _ _ ⟨gb224, gb225, m16_, m17_, (by rw [ha.out]; exact putSel_upk 8 hb_ rfl rfl rfl), (by (with_reducible repeat (first | refine blk_drewN ?_ _ | refine blk_drew ?_ | refine blk_alloc ?_ _)); exact BK189.out), (by (with_reducible repeat (first | refine blk_drewN ?_ _ | refine blk_drew ?_ | refine blk_alloc ?_ _)); exact BK190.out), (by (with_reducible repeat (first | refine blk_drewN ?_ _ | refine blk_drew ?_ | refine blk_alloc ?_ _)); exact BK191.out), (by (with_reducible repeat (first | refine blk_drewN ?_ _ | refine blk_drew ?_ | refine blk_alloc ?_ _)); exact BK192.out), (by repeat (first | (with_reducible first | exact HB.out | apply below_alloc | apply pw_below_drewN | apply below_drew1 | refine below_set ?_ GE189.out | refine below_set ?_ GE190.out | refine below_set ?_ GE191.out | refine below_set ?_ GE192.out) | exact HB.out)), Q_NB225_224, Q_NB224_225, z_BK224, Q_GW224, Q_GE224, Q_NB189_224, Q_NB224_189, Q_NB190_224, Q_NB224_190, Q_NB191_224, Q_NB224_191, Q_NB192_224, Q_NB224_192, z_BK225, Q_GW225, Q_GE225, Q_NB189_225, Q_NB225_189, Q_NB190_225, Q_NB225_190, Q_NB191_225, Q_NB225_191, Q_NB192_225, Q_NB225_192, fun h0_ => absurd ((hoff 18 (by kernel_rfl)).symm.trans h0_) (by decide), fun h0_ => absurd ((hoff 19 (by kernel_rfl)).symm.trans h0_) (by decide), Q_X16_, Q_X17_⟩
          refine steps_cons ?_ ?_
          · rintro b a w' ⟨gb224, gb225, m16_, m17_, ha, Q_BK189, Q_BK190, Q_BK191, Q_BK192, Q_HB, Q_NB225_224, Q_NB224_225, Q_BK224, Q_GW224, Q_GE224, Q_NB189_224, Q_NB224_189, Q_NB190_224, Q_NB224_190, Q_NB191_224, Q_NB224_191, Q_NB192_224, Q_NB224_192, Q_BK225, Q_GW225, Q_GE225, Q_NB189_225, Q_NB225_189, Q_NB190_225, Q_NB225_190, Q_NB191_225, Q_NB225_191, Q_NB192_225, Q_NB225_192, Q_BK224_e18, Q_BK225_e19, Q_X16_, Q_X17_⟩ hb_ hon hoff
            refine ⟨_, rfl, fun K hK => ?_⟩
            have e33 : a.tmps[33]? = some (.tuple #[.agg #[.bool t215, .int .i64 t216, .int .i64 t217, .int .i64 t218], .agg #[.bool t219, .int .i64 t220, .int .i64 t221, .int .i64 t222], .bool t223]) := by rw [ha]; exact putSel_on (e := (11, 33, .tuple #[.agg #[.bool t215, .int .i64 t216, .int .i64 t217, .int .i64 t218], .agg #[.bool t219, .int .i64 t220, .int .i64 t221, .int .i64 t222], .bool t223])) 8 rfl rfl (hon 11 (by kernel_rfl)) rfl
            replace ha := Aside0.mk ha
            have BK189 := Aside0.mk Q_BK189
            have BK190 := Aside0.mk Q_BK190
            have BK191 := Aside0.mk Q_BK191
            have BK192 := Aside0.mk Q_BK192
            have HB := Aside0.mk Q_HB
            refine value_ (w1 := w') (v := .tuple #[.agg #[.bool t215, .int .i64 t216, .int .i64 t217, .int .i64 t218], .agg #[.bool t219, .int .i64 t220, .int .i64 t221, .int .i64 t222], .bool t223]) (by rfl) rfl ?_ ?_
            · go_simp
              (try simp only [i64_w])
              try rfl
            refine hK.out _ _ ⟨gb224, gb225, m16_, m17_, (by rw [ha.out]; exact putSel_upk 9 hb_ rfl rfl rfl), Q_BK189, Q_BK190, Q_BK191, Q_BK192, Q_HB, Q_NB225_224, Q_NB224_225, Q_BK224, Q_GW224, Q_GE224, Q_NB189_224, Q_NB224_189, Q_NB190_224, Q_NB224_190, Q_NB191_224, Q_NB224_191, Q_NB192_224, Q_NB224_192, Q_BK225, Q_GW225, Q_GE225, Q_NB189_225, Q_NB225_189, Q_NB190_225, Q_NB225_190, Q_NB191_225, Q_NB225_191, Q_NB192_225, Q_NB225_192, fun h0_ => absurd ((hoff 18 (by kernel_rfl)).symm.trans h0_) (by decide), fun h0_ => absurd ((hoff 19 (by kernel_rfl)).symm.trans h0_) (by decide), Q_X16_, Q_X17_⟩
          refine steps_cons ?_ ?_
          · rintro b a w' ⟨gb224, gb225, m16_, m17_, ha, Q_BK189, Q_BK190, Q_BK191, Q_BK192, Q_HB, Q_NB225_224, Q_NB224_225, Q_BK224, Q_GW224, Q_GE224, Q_NB189_224, Q_NB224_189, Q_NB190_224, Q_NB224_190, Q_NB191_224, Q_NB224_191, Q_NB192_224, Q_NB224_192, Q_BK225, Q_GW225, Q_GE225, Q_NB189_225, Q_NB225_189, Q_NB190_225, Q_NB225_190, Q_NB191_225, Q_NB225_191, Q_NB192_225, Q_NB225_192, Q_BK224_e18, Q_BK225_e19, Q_X16_, Q_X17_⟩ hb_ hon hoff
            refine ⟨_, rfl, fun K hK => ?_⟩
            have e21 : a.tmps[21]? = some (.tuple #[.agg #[.bool t215, .int .i64 t216, .int .i64 t217, .int .i64 t218], .agg #[.bool t219, .int .i64 t220, .int .i64 t221, .int .i64 t222], .bool t223]) := by rw [ha]; exact putSel_on (e := (12, 21, .tuple #[.agg #[.bool t215, .int .i64 t216, .int .i64 t217, .int .i64 t218], .agg #[.bool t219, .int .i64 t220, .int .i64 t221, .int .i64 t222], .bool t223])) 9 rfl rfl (hon 12 (by kernel_rfl)) rfl
            replace ha := Aside0.mk ha
            have BK189 := Aside0.mk Q_BK189
            have BK190 := Aside0.mk Q_BK190
            have BK191 := Aside0.mk Q_BK191
            have BK192 := Aside0.mk Q_BK192
            have HB := Aside0.mk Q_HB
            refine value_ (w1 := w') (v := .agg #[.bool t215, .int .i64 t216, .int .i64 t217, .int .i64 t218]) (by rfl) rfl ?_ ?_
            · go_simp
              (try simp only [i64_w])
              try rfl
            refine hK.out _ _ ⟨gb224, gb225, m16_, m17_, (by rw [ha.out]; exact putSel_upk 10 hb_ rfl rfl rfl), Q_BK189, Q_BK190, Q_BK191, Q_BK192, Q_HB, Q_NB225_224, Q_NB224_225, Q_BK224, Q_GW224, Q_GE224, Q_NB189_224, Q_NB224_189, Q_NB190_224, Q_NB224_190, Q_NB191_224, Q_NB224_191, Q_NB192_224, Q_NB224_192, Q_BK225, Q_GW225, Q_GE225, Q_NB189_225, Q_NB225_189, Q_NB190_225, Q_NB225_190, Q_NB191_225, Q_NB225_191, Q_NB192_225, Q_NB225_192, fun h0_ => absurd ((hoff 18 (by kernel_rfl)).symm.trans h0_) (by decide), fun h0_ => absurd ((hoff 19 (by kernel_rfl)).symm.trans h0_) (by decide), Q_X16_, Q_X17_⟩
          refine steps_cons ?_ ?_
          · rintro b a w' ⟨gb224, gb225, m16_, m17_, ha, Q_BK189, Q_BK190, Q_BK191, Q_BK192, Q_HB, Q_NB225_224, Q_NB224_225, Q_BK224, Q_GW224, Q_GE224, Q_NB189_224, Q_NB224_189, Q_NB190_224, Q_NB224_190, Q_NB191_224, Q_NB224_191, Q_NB192_224, Q_NB224_192, Q_BK225, Q_GW225, Q_GE225, Q_NB189_225, Q_NB225_189, Q_NB190_225, Q_NB225_190, Q_NB191_225, Q_NB225_191, Q_NB192_225, Q_NB225_192, Q_BK224_e18, Q_BK225_e19, Q_X16_, Q_X17_⟩ hb_ hon hoff
            refine ⟨_, rfl, fun K hK => ?_⟩
            have e21 : a.tmps[21]? = some (.tuple #[.agg #[.bool t215, .int .i64 t216, .int .i64 t217, .int .i64 t218], .agg #[.bool t219, .int .i64 t220, .int .i64 t221, .int .i64 t222], .bool t223]) := by rw [ha]; exact putSel_on (e := (12, 21, .tuple #[.agg #[.bool t215, .int .i64 t216, .int .i64 t217, .int .i64 t218], .agg #[.bool t219, .int .i64 t220, .int .i64 t221, .int .i64 t222], .bool t223])) 9 rfl rfl (hon 12 (by kernel_rfl)) rfl
            replace ha := Aside0.mk ha
            have BK189 := Aside0.mk Q_BK189
            have BK190 := Aside0.mk Q_BK190
            have BK191 := Aside0.mk Q_BK191
            have BK192 := Aside0.mk Q_BK192
            have HB := Aside0.mk Q_HB
            refine value_ (w1 := w') (v := .agg #[.bool t219, .int .i64 t220, .int .i64 t221, .int .i64 t222]) (by rfl) rfl ?_ ?_
            · go_simp
              (try simp only [i64_w])
              try rfl
            refine hK.out _ _ ⟨gb224, gb225, m16_, m17_, (by rw [ha.out]; exact putSel_upk 11 hb_ rfl rfl rfl), Q_BK189, Q_BK190, Q_BK191, Q_BK192, Q_HB, Q_NB225_224, Q_NB224_225, Q_BK224, Q_GW224, Q_GE224, Q_NB189_224, Q_NB224_189, Q_NB190_224, Q_NB224_190, Q_NB191_224, Q_NB224_191, Q_NB192_224, Q_NB224_192, Q_BK225, Q_GW225, Q_GE225, Q_NB189_225, Q_NB225_189, Q_NB190_225, Q_NB225_190, Q_NB191_225, Q_NB225_191, Q_NB192_225, Q_NB225_192, Q_BK224_e18, fun h0_ => absurd ((hoff 19 (by kernel_rfl)).symm.trans h0_) (by decide), Q_X16_, Q_X17_⟩
          refine steps_cons ?_ ?_
          · rintro b a w' ⟨gb224, gb225, m16_, m17_, ha, Q_BK189, Q_BK190, Q_BK191, Q_BK192, Q_HB, Q_NB225_224, Q_NB224_225, Q_BK224, Q_GW224, Q_GE224, Q_NB189_224, Q_NB224_189, Q_NB190_224, Q_NB224_190, Q_NB191_224, Q_NB224_191, Q_NB192_224, Q_NB224_192, Q_BK225, Q_GW225, Q_GE225, Q_NB189_225, Q_NB225_189, Q_NB190_225, Q_NB225_190, Q_NB191_225, Q_NB225_191, Q_NB192_225, Q_NB225_192, Q_BK224_e18, Q_BK225_e19, Q_X16_, Q_X17_⟩ hb_ hon hoff
            refine ⟨_, rfl, fun K hK => ?_⟩
            have e21 : a.tmps[21]? = some (.tuple #[.agg #[.bool t215, .int .i64 t216, .int .i64 t217, .int .i64 t218], .agg #[.bool t219, .int .i64 t220, .int .i64 t221, .int .i64 t222], .bool t223]) := by rw [ha]; exact putSel_on (e := (12, 21, .tuple #[.agg #[.bool t215, .int .i64 t216, .int .i64 t217, .int .i64 t218], .agg #[.bool t219, .int .i64 t220, .int .i64 t221, .int .i64 t222], .bool t223])) 9 rfl rfl (hon 12 (by kernel_rfl)) rfl
            replace ha := Aside0.mk ha
            have BK189 := Aside0.mk Q_BK189
            have BK190 := Aside0.mk Q_BK190
            have BK191 := Aside0.mk Q_BK191
            have BK192 := Aside0.mk Q_BK192
            have HB := Aside0.mk Q_HB
            refine value_ (w1 := w') (v := .bool t223) (by rfl) rfl ?_ ?_
            · go_simp
              (try simp only [i64_w])
              try rfl
            refine hK.out _ _ ⟨gb224, gb225, m16_, m17_, (by rw [ha.out]; exact putSel_upk 12 hb_ rfl rfl rfl), Q_BK189, Q_BK190, Q_BK191, Q_BK192, Q_HB, Q_NB225_224, Q_NB224_225, Q_BK224, Q_GW224, Q_GE224, Q_NB189_224, Q_NB224_189, Q_NB190_224, Q_NB224_190, Q_NB191_224, Q_NB224_191, Q_NB192_224, Q_NB224_192, Q_BK225, Q_GW225, Q_GE225, Q_NB189_225, Q_NB225_189, Q_NB190_225, Q_NB225_190, Q_NB191_225, Q_NB225_191, Q_NB192_225, Q_NB225_192, Q_BK224_e18, Q_BK225_e19, Q_X16_, Q_X17_⟩
          refine steps_cons ?_ ?_
          · rintro b a w' ⟨gb224, gb225, m16_, m17_, ha, Q_BK189, Q_BK190, Q_BK191, Q_BK192, Q_HB, Q_NB225_224, Q_NB224_225, Q_BK224, Q_GW224, Q_GE224, Q_NB189_224, Q_NB224_189, Q_NB190_224, Q_NB224_190, Q_NB191_224, Q_NB224_191, Q_NB192_224, Q_NB224_192, Q_BK225, Q_GW225, Q_GE225, Q_NB189_225, Q_NB225_189, Q_NB190_225, Q_NB225_190, Q_NB191_225, Q_NB225_191, Q_NB192_225, Q_NB225_192, Q_BK224_e18, Q_BK225_e19, Q_X16_, Q_X17_⟩ hb_ hon hoff
            refine ⟨_, rfl, fun K hK => ?_⟩
            replace ha := Aside0.mk ha
            have BK189 := Aside0.mk Q_BK189
            have BK190 := Aside0.mk Q_BK190
            have BK191 := Aside0.mk Q_BK191
            have BK192 := Aside0.mk Q_BK192
            have HB := Aside0.mk Q_HB
            refine box_step ?hg (N := 15) ?hd (cs := #[.bool false, .int .i64 0, .int .i64 0, .int .i64 0]) (t := 36) ?hr ?_; (case hd => rfl); (case hg => rfl); (case hr => first | (go_simp; done) | (go_simp; rfl))
            intro gb224 hg w28 hbox hb
            have n0_ := Aside0.mk (blk_below (g := gb189) (o := .cells #[.int .i64 a0_0, .int .i64 a0_1, .int .i64 a0_2, .int .i64 a0_3, .int .i64 a0_4, .int .i64 a0_5, .int .i64 a0_6] 33 (0, 0)) (by (with_reducible repeat (first | refine blk_drewN ?_ _ | refine blk_drew ?_ | refine blk_alloc ?_ _)); exact BK189.out) hb)
            have n1_ := Aside0.mk (blk_below (g := gb190) (o := .cells #[.int .i64 a1_0, .int .i64 a1_1, .int .i64 a1_2, .int .i64 a1_3, .int .i64 a1_4, .int .i64 a1_5, .int .i64 a1_6] 33 (0, 0)) (by (with_reducible repeat (first | refine blk_drewN ?_ _ | refine blk_drew ?_ | refine blk_alloc ?_ _)); exact BK190.out) hb)
            have n2_ := Aside0.mk (blk_below (g := gb191) (o := .cells #[.bool a2_0, .int .i64 a2_1, .int .i64 a2_2, .int .i64 a2_3] 35 (0, 0)) (by (with_reducible repeat (first | refine blk_drewN ?_ _ | refine blk_drew ?_ | refine blk_alloc ?_ _)); exact BK191.out) hb)
            have n3_ := Aside0.mk (blk_below (g := gb192) (o := .cells #[.bool a3_0, .int .i64 a3_1, .int .i64 a3_2, .int .i64 a3_3] 35 (0, 0)) (by (with_reducible repeat (first | refine blk_drewN ?_ _ | refine blk_drew ?_ | refine blk_alloc ?_ _)); exact BK192.out) hb)
            have n4_ := Aside0.mk (below_step (by repeat (first | (with_reducible first | exact HB.out | apply below_alloc | apply pw_below_drewN | apply below_drew1 | refine below_set ?_ GE189.out | refine below_set ?_ GE190.out | refine below_set ?_ GE191.out | refine below_set ?_ GE192.out) | exact HB.out)) hb)
            have n5_ := Aside0.mk (hbox)
            have n6_ := Aside0.mk ((by rw [hg]; exact (below_size (by repeat (first | (with_reducible first | exact HB.out | apply below_alloc | apply pw_below_drewN | apply below_drew1 | refine below_set ?_ GE189.out | refine below_set ?_ GE190.out | refine below_set ?_ GE191.out | refine below_set ?_ GE192.out) | exact HB.out))) : w.heap.size ≤ gb224))
            have n7_ := Aside0.mk ((by rw [hg]; exact (below_size (by repeat (first | (with_reducible first | exact HB.out | apply below_alloc | apply pw_below_drewN | apply below_drew1 | refine below_set ?_ GE189.out | refine below_set ?_ GE190.out | refine below_set ?_ GE191.out | refine below_set ?_ GE192.out) | exact HB.out))) : w.heap.size ≤ gb224))
            have n8_ := Aside0.mk ((by rw [hg]; exact Nat.ne_of_lt (blk_lt (g := gb189) (o := .cells #[.int .i64 a0_0, .int .i64 a0_1, .int .i64 a0_2, .int .i64 a0_3, .int .i64 a0_4, .int .i64 a0_5, .int .i64 a0_6] 33 (0, 0)) (by (with_reducible repeat (first | refine blk_drewN ?_ _ | refine blk_drew ?_ | refine blk_alloc ?_ _)); exact BK189.out)) : gb189 ≠ gb224))
            have n9_ := Aside0.mk ((by rw [hg]; exact Nat.ne_of_gt (blk_lt (g := gb189) (o := .cells #[.int .i64 a0_0, .int .i64 a0_1, .int .i64 a0_2, .int .i64 a0_3, .int .i64 a0_4, .int .i64 a0_5, .int .i64 a0_6] 33 (0, 0)) (by (with_reducible repeat (first | refine blk_drewN ?_ _ | refine blk_drew ?_ | refine blk_alloc ?_ _)); exact BK189.out)) : gb224 ≠ gb189))
            have n10_ := Aside0.mk ((by rw [hg]; exact Nat.ne_of_lt (blk_lt (g := gb190) (o := .cells #[.int .i64 a1_0, .int .i64 a1_1, .int .i64 a1_2, .int .i64 a1_3, .int .i64 a1_4, .int .i64 a1_5, .int .i64 a1_6] 33 (0, 0)) (by (with_reducible repeat (first | refine blk_drewN ?_ _ | refine blk_drew ?_ | refine blk_alloc ?_ _)); exact BK190.out)) : gb190 ≠ gb224))
            have n11_ := Aside0.mk ((by rw [hg]; exact Nat.ne_of_gt (blk_lt (g := gb190) (o := .cells #[.int .i64 a1_0, .int .i64 a1_1, .int .i64 a1_2, .int .i64 a1_3, .int .i64 a1_4, .int .i64 a1_5, .int .i64 a1_6] 33 (0, 0)) (by (with_reducible repeat (first | refine blk_drewN ?_ _ | refine blk_drew ?_ | refine blk_alloc ?_ _)); exact BK190.out)) : gb224 ≠ gb190))
            have n12_ := Aside0.mk ((by rw [hg]; exact Nat.ne_of_lt (blk_lt (g := gb191) (o := .cells #[.bool a2_0, .int .i64 a2_1, .int .i64 a2_2, .int .i64 a2_3] 35 (0, 0)) (by (with_reducible repeat (first | refine blk_drewN ?_ _ | refine blk_drew ?_ | refine blk_alloc ?_ _)); exact BK191.out)) : gb191 ≠ gb224))
            have n13_ := Aside0.mk ((by rw [hg]; exact Nat.ne_of_gt (blk_lt (g := gb191) (o := .cells #[.bool a2_0, .int .i64 a2_1, .int .i64 a2_2, .int .i64 a2_3] 35 (0, 0)) (by (with_reducible repeat (first | refine blk_drewN ?_ _ | refine blk_drew ?_ | refine blk_alloc ?_ _)); exact BK191.out)) : gb224 ≠ gb191))
            have n14_ := Aside0.mk ((by rw [hg]; exact Nat.ne_of_lt (blk_lt (g := gb192) (o := .cells #[.bool a3_0, .int .i64 a3_1, .int .i64 a3_2, .int .i64 a3_3] 35 (0, 0)) (by (with_reducible repeat (first | refine blk_drewN ?_ _ | refine blk_drew ?_ | refine blk_alloc ?_ _)); exact BK192.out)) : gb192 ≠ gb224))
            have n15_ := Aside0.mk ((by rw [hg]; exact Nat.ne_of_gt (blk_lt (g := gb192) (o := .cells #[.bool a3_0, .int .i64 a3_1, .int .i64 a3_2, .int .i64 a3_3] 35 (0, 0)) (by (with_reducible repeat (first | refine blk_drewN ?_ _ | refine blk_drew ?_ | refine blk_alloc ?_ _)); exact BK192.out)) : gb224 ≠ gb192))
            have z_NB225_224 := fun (h0_ : up b 16 16 = true) (h1_ : up b 16 17 = true) => (show gb225 ≠ gb224 from ((by rw [hg]; cases e_ : b 19 with | false => (refine Nat.ne_of_lt (blk_lt (g := gb225) (o := .cells #[.bool false, .int .i64 0, .int .i64 0, .int .i64 0] 36 (0, 0)) ?_); ((with_reducible repeat (first | refine blk_drewN ?_ _ | refine blk_drew ?_ | refine blk_alloc ?_ _)); exact (Q_BK225 h1_ e_))) | true => (refine Nat.ne_of_lt (blk_lt (g := gb225) (o := .cells #[.bool t219, .int .i64 t220, .int .i64 t221, .int .i64 t222] 36 (0, 0)) ?_); ((with_reducible repeat (first | refine blk_drewN ?_ _ | refine blk_drew ?_ | refine blk_alloc ?_ _)); exact (Q_BK225_e19 e_))) : gb225 ≠ gb224)))
            have z_NB224_225 := fun (h0_ : up b 16 16 = true) (h1_ : up b 16 17 = true) => (show gb224 ≠ gb225 from ((by rw [hg]; cases e_ : b 19 with | false => (refine Nat.ne_of_gt (blk_lt (g := gb225) (o := .cells #[.bool false, .int .i64 0, .int .i64 0, .int .i64 0] 36 (0, 0)) ?_); ((with_reducible repeat (first | refine blk_drewN ?_ _ | refine blk_drew ?_ | refine blk_alloc ?_ _)); exact (Q_BK225 h1_ e_))) | true => (refine Nat.ne_of_gt (blk_lt (g := gb225) (o := .cells #[.bool t219, .int .i64 t220, .int .i64 t221, .int .i64 t222] 36 (0, 0)) ?_); ((with_reducible repeat (first | refine blk_drewN ?_ _ | refine blk_drew ?_ | refine blk_alloc ?_ _)); exact (Q_BK225_e19 e_))) : gb224 ≠ gb225)))
            have z_BK225 := fun (h0_ : b 17 = true) (h1_ : b 19 = false) => (show w28.heap[gb225]? = some (.cells #[.bool false, .int .i64 0, .int .i64 0, .int .i64 0] 36 (0, 0)) from by first | exact (blk_below (g := gb225) (o := .cells #[.bool false, .int .i64 0, .int .i64 0, .int .i64 0] 36 (0, 0)) (by (with_reducible repeat (first | refine blk_drewN ?_ _ | refine blk_drew ?_ | refine blk_alloc ?_ _)); exact (Q_BK225 h0_ h1_)) hb))
            clear BK189
            clear BK190
            clear BK191
            clear BK192
            clear HB
            have BK189 := n0_
            have BK190 := n1_
            have BK191 := n2_
            have BK192 := n3_
            have HB := n4_
            have BK224 := n5_
            have GW224 := n6_
            have GE224 := n7_
            have NB189_224 := n8_
            have NB224_189 := n9_
            have NB190_224 := n10_
            have NB224_190 := n11_
            have NB191_224 := n12_
            have NB224_191 := n13_
            have NB192_224 := n14_
            have NB224_192 := n15_
            clear n0_ n1_ n2_ n3_ n4_ n5_ n6_ n7_ n8_ n9_ n10_ n11_ n12_ n13_ n14_ n15_
            clear hb hbox hg
            refine hK.out _ _ ⟨gb224, gb225, (.pointer (some ⟨gb224, 0, none⟩)), m17_, (by rw [ha.out]; exact putSel_upk 13 hb_ rfl rfl rfl), (by (with_reducible repeat (first | refine blk_drewN ?_ _ | refine blk_drew ?_ | refine blk_alloc ?_ _)); exact BK189.out), (by (with_reducible repeat (first | refine blk_drewN ?_ _ | refine blk_drew ?_ | refine blk_alloc ?_ _)); exact BK190.out), (by (with_reducible repeat (first | refine blk_drewN ?_ _ | refine blk_drew ?_ | refine blk_alloc ?_ _)); exact BK191.out), (by (with_reducible repeat (first | refine blk_drewN ?_ _ | refine blk_drew ?_ | refine blk_alloc ?_ _)); exact BK192.out), (by repeat (first | (with_reducible first | exact HB.out | apply below_alloc | apply pw_below_drewN | apply below_drew1 | refine below_set ?_ GE189.out | refine below_set ?_ GE190.out | refine below_set ?_ GE191.out | refine below_set ?_ GE192.out | refine below_set ?_ GE224.out) | exact HB.out)), z_NB225_224, z_NB224_225, fun _ _ => (by (with_reducible repeat (first | refine blk_drewN ?_ _ | refine blk_drew ?_ | refine blk_alloc ?_ _)); exact BK224.out), fun _ => GW224.out, fun _ => GE224.out, fun _ => NB189_224.out, fun _ => NB224_189.out, fun _ => NB190_224.out, fun _ => NB224_190.out, fun _ => NB191_224.out, fun _ => NB224_191.out, fun _ => NB192_224.out, fun _ => NB224_192.out, z_BK225, Q_GW225, Q_GE225, Q_NB189_225, Q_NB225_189, Q_NB190_225, Q_NB225_190, Q_NB191_225, Q_NB225_191, Q_NB192_225, Q_NB225_192, fun h0_ => absurd ((hoff 18 (by kernel_rfl)).symm.trans h0_) (by decide), fun h0_ => absurd ((hoff 19 (by kernel_rfl)).symm.trans h0_) (by decide), fun _ => rfl, Q_X17_⟩
          refine steps_cons ?_ ?_
          · rintro b a w' ⟨gb224, gb225, m16_, m17_, ha, Q_BK189, Q_BK190, Q_BK191, Q_BK192, Q_HB, Q_NB225_224, Q_NB224_225, Q_BK224, Q_GW224, Q_GE224, Q_NB189_224, Q_NB224_189, Q_NB190_224, Q_NB224_190, Q_NB191_224, Q_NB224_191, Q_NB192_224, Q_NB224_192, Q_BK225, Q_GW225, Q_GE225, Q_NB189_225, Q_NB225_189, Q_NB190_225, Q_NB225_190, Q_NB191_225, Q_NB225_191, Q_NB192_225, Q_NB225_192, Q_BK224_e18, Q_BK225_e19, Q_X16_, Q_X17_⟩ hb_ hon hoff
            refine ⟨_, rfl, fun K hK => ?_⟩
            replace ha := Aside0.mk ha
            have BK189 := Aside0.mk Q_BK189
            have BK190 := Aside0.mk Q_BK190
            have BK191 := Aside0.mk Q_BK191
            have BK192 := Aside0.mk Q_BK192
            have HB := Aside0.mk Q_HB
            refine box_step ?hg (N := 16) ?hd (cs := #[.bool false, .int .i64 0, .int .i64 0, .int .i64 0]) (t := 36) ?hr ?_; (case hd => rfl); (case hg => rfl); (case hr => first | (go_simp; done) | (go_simp; rfl))
            intro gb225 hg w28 hbox hb
            have n0_ := Aside0.mk (blk_below (g := gb189) (o := .cells #[.int .i64 a0_0, .int .i64 a0_1, .int .i64 a0_2, .int .i64 a0_3, .int .i64 a0_4, .int .i64 a0_5, .int .i64 a0_6] 33 (0, 0)) (by (with_reducible repeat (first | refine blk_drewN ?_ _ | refine blk_drew ?_ | refine blk_alloc ?_ _)); exact BK189.out) hb)
            have n1_ := Aside0.mk (blk_below (g := gb190) (o := .cells #[.int .i64 a1_0, .int .i64 a1_1, .int .i64 a1_2, .int .i64 a1_3, .int .i64 a1_4, .int .i64 a1_5, .int .i64 a1_6] 33 (0, 0)) (by (with_reducible repeat (first | refine blk_drewN ?_ _ | refine blk_drew ?_ | refine blk_alloc ?_ _)); exact BK190.out) hb)
            have n2_ := Aside0.mk (blk_below (g := gb191) (o := .cells #[.bool a2_0, .int .i64 a2_1, .int .i64 a2_2, .int .i64 a2_3] 35 (0, 0)) (by (with_reducible repeat (first | refine blk_drewN ?_ _ | refine blk_drew ?_ | refine blk_alloc ?_ _)); exact BK191.out) hb)
            have n3_ := Aside0.mk (blk_below (g := gb192) (o := .cells #[.bool a3_0, .int .i64 a3_1, .int .i64 a3_2, .int .i64 a3_3] 35 (0, 0)) (by (with_reducible repeat (first | refine blk_drewN ?_ _ | refine blk_drew ?_ | refine blk_alloc ?_ _)); exact BK192.out) hb)
            have n4_ := Aside0.mk (below_step (by repeat (first | (with_reducible first | exact HB.out | apply below_alloc | apply pw_below_drewN | apply below_drew1 | refine below_set ?_ GE189.out | refine below_set ?_ GE190.out | refine below_set ?_ GE191.out | refine below_set ?_ GE192.out) | exact HB.out)) hb)
            have n5_ := Aside0.mk (hbox)
            have n6_ := Aside0.mk ((by rw [hg]; exact (below_size (by repeat (first | (with_reducible first | exact HB.out | apply below_alloc | apply pw_below_drewN | apply below_drew1 | refine below_set ?_ GE189.out | refine below_set ?_ GE190.out | refine below_set ?_ GE191.out | refine below_set ?_ GE192.out) | exact HB.out))) : w.heap.size ≤ gb225))
            have n7_ := Aside0.mk ((by rw [hg]; exact (below_size (by repeat (first | (with_reducible first | exact HB.out | apply below_alloc | apply pw_below_drewN | apply below_drew1 | refine below_set ?_ GE189.out | refine below_set ?_ GE190.out | refine below_set ?_ GE191.out | refine below_set ?_ GE192.out) | exact HB.out))) : w.heap.size ≤ gb225))
            have n8_ := Aside0.mk ((by rw [hg]; exact Nat.ne_of_lt (blk_lt (g := gb189) (o := .cells #[.int .i64 a0_0, .int .i64 a0_1, .int .i64 a0_2, .int .i64 a0_3, .int .i64 a0_4, .int .i64 a0_5, .int .i64 a0_6] 33 (0, 0)) (by (with_reducible repeat (first | refine blk_drewN ?_ _ | refine blk_drew ?_ | refine blk_alloc ?_ _)); exact BK189.out)) : gb189 ≠ gb225))
            have n9_ := Aside0.mk ((by rw [hg]; exact Nat.ne_of_gt (blk_lt (g := gb189) (o := .cells #[.int .i64 a0_0, .int .i64 a0_1, .int .i64 a0_2, .int .i64 a0_3, .int .i64 a0_4, .int .i64 a0_5, .int .i64 a0_6] 33 (0, 0)) (by (with_reducible repeat (first | refine blk_drewN ?_ _ | refine blk_drew ?_ | refine blk_alloc ?_ _)); exact BK189.out)) : gb225 ≠ gb189))
            have n10_ := Aside0.mk ((by rw [hg]; exact Nat.ne_of_lt (blk_lt (g := gb190) (o := .cells #[.int .i64 a1_0, .int .i64 a1_1, .int .i64 a1_2, .int .i64 a1_3, .int .i64 a1_4, .int .i64 a1_5, .int .i64 a1_6] 33 (0, 0)) (by (with_reducible repeat (first | refine blk_drewN ?_ _ | refine blk_drew ?_ | refine blk_alloc ?_ _)); exact BK190.out)) : gb190 ≠ gb225))
            have n11_ := Aside0.mk ((by rw [hg]; exact Nat.ne_of_gt (blk_lt (g := gb190) (o := .cells #[.int .i64 a1_0, .int .i64 a1_1, .int .i64 a1_2, .int .i64 a1_3, .int .i64 a1_4, .int .i64 a1_5, .int .i64 a1_6] 33 (0, 0)) (by (with_reducible repeat (first | refine blk_drewN ?_ _ | refine blk_drew ?_ | refine blk_alloc ?_ _)); exact BK190.out)) : gb225 ≠ gb190))
            have n12_ := Aside0.mk ((by rw [hg]; exact Nat.ne_of_lt (blk_lt (g := gb191) (o := .cells #[.bool a2_0, .int .i64 a2_1, .int .i64 a2_2, .int .i64 a2_3] 35 (0, 0)) (by (with_reducible repeat (first | refine blk_drewN ?_ _ | refine blk_drew ?_ | refine blk_alloc ?_ _)); exact BK191.out)) : gb191 ≠ gb225))
            have n13_ := Aside0.mk ((by rw [hg]; exact Nat.ne_of_gt (blk_lt (g := gb191) (o := .cells #[.bool a2_0, .int .i64 a2_1, .int .i64 a2_2, .int .i64 a2_3] 35 (0, 0)) (by (with_reducible repeat (first | refine blk_drewN ?_ _ | refine blk_drew ?_ | refine blk_alloc ?_ _)); exact BK191.out)) : gb225 ≠ gb191))
            have n14_ := Aside0.mk ((by rw [hg]; exact Nat.ne_of_lt (blk_lt (g := gb192) (o := .cells #[.bool a3_0, .int .i64 a3_1, .int .i64 a3_2, .int .i64 a3_3] 35 (0, 0)) (by (with_reducible repeat (first | refine blk_drewN ?_ _ | refine blk_drew ?_ | refine blk_alloc ?_ _)); exact BK192.out)) : gb192 ≠ gb225))
            have n15_ := Aside0.mk ((by rw [hg]; exact Nat.ne_of_gt (blk_lt (g := gb192) (o := .cells #[.bool a3_0, .int .i64 a3_1, .int .i64 a3_2, .int .i64 a3_3] 35 (0, 0)) (by (with_reducible repeat (first | refine blk_drewN ?_ _ | refine blk_drew ?_ | refine blk_alloc ?_ _)); exact BK192.out)) : gb225 ≠ gb192))
            have z_NB225_224 := fun (h0_ : up b 17 16 = true) (h1_ : up b 17 17 = true) => (show gb225 ≠ gb224 from ((by rw [hg]; cases e_ : b 18 with | false => (refine Nat.ne_of_gt (blk_lt (g := gb224) (o := .cells #[.bool false, .int .i64 0, .int .i64 0, .int .i64 0] 36 (0, 0)) ?_); ((with_reducible repeat (first | refine blk_drewN ?_ _ | refine blk_drew ?_ | refine blk_alloc ?_ _)); exact (Q_BK224 h0_ e_))) | true => (refine Nat.ne_of_gt (blk_lt (g := gb224) (o := .cells #[.bool t215, .int .i64 t216, .int .i64 t217, .int .i64 t218] 36 (0, 0)) ?_); ((with_reducible repeat (first | refine blk_drewN ?_ _ | refine blk_drew ?_ | refine blk_alloc ?_ _)); exact (Q_BK224_e18 e_))) : gb225 ≠ gb224)))
            have z_NB224_225 := fun (h0_ : up b 17 16 = true) (h1_ : up b 17 17 = true) => (show gb224 ≠ gb225 from ((by rw [hg]; cases e_ : b 18 with | false => (refine Nat.ne_of_lt (blk_lt (g := gb224) (o := .cells #[.bool false, .int .i64 0, .int .i64 0, .int .i64 0] 36 (0, 0)) ?_); ((with_reducible repeat (first | refine blk_drewN ?_ _ | refine blk_drew ?_ | refine blk_alloc ?_ _)); exact (Q_BK224 h0_ e_))) | true => (refine Nat.ne_of_lt (blk_lt (g := gb224) (o := .cells #[.bool t215, .int .i64 t216, .int .i64 t217, .int .i64 t218] 36 (0, 0)) ?_); ((with_reducible repeat (first | refine blk_drewN ?_ _ | refine blk_drew ?_ | refine blk_alloc ?_ _)); exact (Q_BK224_e18 e_))) : gb224 ≠ gb225)))
            have z_BK224 := fun (h0_ : b 16 = true) (h1_ : b 18 = false) => (show w28.heap[gb224]? = some (.cells #[.bool false, .int .i64 0, .int .i64 0, .int .i64 0] 36 (0, 0)) from by first | exact (blk_below (g := gb224) (o := .cells #[.bool false, .int .i64 0, .int .i64 0, .int .i64 0] 36 (0, 0)) (by (with_reducible repeat (first | refine blk_drewN ?_ _ | refine blk_drew ?_ | refine blk_alloc ?_ _)); exact (Q_BK224 h0_ h1_)) hb))
            clear BK189
            clear BK190
            clear BK191
            clear BK192
            clear HB
            have BK189 := n0_
            have BK190 := n1_
            have BK191 := n2_
            have BK192 := n3_
            have HB := n4_
            have BK225 := n5_
            have GW225 := n6_
            have GE225 := n7_
            have NB189_225 := n8_
            have NB225_189 := n9_
            have NB190_225 := n10_
            have NB225_190 := n11_
            have NB191_225 := n12_
            have NB225_191 := n13_
            have NB192_225 := n14_
            have NB225_192 := n15_
            clear n0_ n1_ n2_ n3_ n4_ n5_ n6_ n7_ n8_ n9_ n10_ n11_ n12_ n13_ n14_ n15_
            clear hb hbox hg
            refine hK.out _ _ ⟨gb224, gb225, m16_, (.pointer (some ⟨gb225, 0, none⟩)), (by rw [ha.out]; exact putSel_upk 14 hb_ rfl rfl rfl), (by (with_reducible repeat (first | refine blk_drewN ?_ _ | refine blk_drew ?_ | refine blk_alloc ?_ _)); exact BK189.out), (by (with_reducible repeat (first | refine blk_drewN ?_ _ | refine blk_drew ?_ | refine blk_alloc ?_ _)); exact BK190.out), (by (with_reducible repeat (first | refine blk_drewN ?_ _ | refine blk_drew ?_ | refine blk_alloc ?_ _)); exact BK191.out), (by (with_reducible repeat (first | refine blk_drewN ?_ _ | refine blk_drew ?_ | refine blk_alloc ?_ _)); exact BK192.out), (by repeat (first | (with_reducible first | exact HB.out | apply below_alloc | apply pw_below_drewN | apply below_drew1 | refine below_set ?_ GE189.out | refine below_set ?_ GE190.out | refine below_set ?_ GE191.out | refine below_set ?_ GE192.out | refine below_set ?_ GE225.out) | exact HB.out)), z_NB225_224, z_NB224_225, z_BK224, Q_GW224, Q_GE224, Q_NB189_224, Q_NB224_189, Q_NB190_224, Q_NB224_190, Q_NB191_224, Q_NB224_191, Q_NB192_224, Q_NB224_192, fun _ _ => (by (with_reducible repeat (first | refine blk_drewN ?_ _ | refine blk_drew ?_ | refine blk_alloc ?_ _)); exact BK225.out), fun _ => GW225.out, fun _ => GE225.out, fun _ => NB189_225.out, fun _ => NB225_189.out, fun _ => NB190_225.out, fun _ => NB225_190.out, fun _ => NB191_225.out, fun _ => NB225_191.out, fun _ => NB192_225.out, fun _ => NB225_192.out, fun h0_ => absurd ((hoff 18 (by kernel_rfl)).symm.trans h0_) (by decide), fun h0_ => absurd ((hoff 19 (by kernel_rfl)).symm.trans h0_) (by decide), Q_X16_, fun _ => rfl⟩
          refine steps_cons ?_ ?_
          · rintro b a w' ⟨gb224, gb225, m16_, m17_, ha, Q_BK189, Q_BK190, Q_BK191, Q_BK192, Q_HB, Q_NB225_224, Q_NB224_225, Q_BK224, Q_GW224, Q_GE224, Q_NB189_224, Q_NB224_189, Q_NB190_224, Q_NB224_190, Q_NB191_224, Q_NB224_191, Q_NB192_224, Q_NB224_192, Q_BK225, Q_GW225, Q_GE225, Q_NB189_225, Q_NB225_189, Q_NB190_225, Q_NB225_190, Q_NB191_225, Q_NB225_191, Q_NB192_225, Q_NB225_192, Q_BK224_e18, Q_BK225_e19, Q_X16_, Q_X17_⟩ hb_ hon hoff
            refine ⟨_, rfl, fun K hK => ?_⟩
            have e15 : a.tmps[15]? = some (m16_) := by rw [ha]; exact putSel_on (e := (16, 15, m16_)) 13 rfl rfl (hon 16 (by kernel_rfl)) rfl
            rw [Q_X16_ (hon 16 (by kernel_rfl))] at e15
            have e34 : a.tmps[34]? = some (.agg #[.bool t215, .int .i64 t216, .int .i64 t217, .int .i64 t218]) := by rw [ha]; exact putSel_on (e := (13, 34, .agg #[.bool t215, .int .i64 t216, .int .i64 t217, .int .i64 t218])) 10 rfl rfl (hon 13 (by kernel_rfl)) rfl
            replace ha := Aside0.mk ha
            have BK189 := Aside0.mk Q_BK189
            have BK190 := Aside0.mk Q_BK190
            have BK191 := Aside0.mk Q_BK191
            have BK192 := Aside0.mk Q_BK192
            have HB := Aside0.mk Q_HB
            have NB225_224 := Aside0.mk (Q_NB225_224 (hon 16 (by kernel_rfl)) (hon 17 (by kernel_rfl)))
            have NB224_225 := Aside0.mk (Q_NB224_225 (hon 16 (by kernel_rfl)) (hon 17 (by kernel_rfl)))
            have BK224 := Aside0.mk (Q_BK224 (hon 16 (by kernel_rfl)) hb_)
            have GW224 := Aside0.mk (Q_GW224 (hon 16 (by kernel_rfl)))
            have GE224 := Aside0.mk (Q_GE224 (hon 16 (by kernel_rfl)))
            have NB189_224 := Aside0.mk (Q_NB189_224 (hon 16 (by kernel_rfl)))
            have NB224_189 := Aside0.mk (Q_NB224_189 (hon 16 (by kernel_rfl)))
            have NB190_224 := Aside0.mk (Q_NB190_224 (hon 16 (by kernel_rfl)))
            have NB224_190 := Aside0.mk (Q_NB224_190 (hon 16 (by kernel_rfl)))
            have NB191_224 := Aside0.mk (Q_NB191_224 (hon 16 (by kernel_rfl)))
            have NB224_191 := Aside0.mk (Q_NB224_191 (hon 16 (by kernel_rfl)))
            have NB192_224 := Aside0.mk (Q_NB192_224 (hon 16 (by kernel_rfl)))
            have NB224_192 := Aside0.mk (Q_NB224_192 (hon 16 (by kernel_rfl)))
            have BK225 := Aside0.mk (Q_BK225 (hon 17 (by kernel_rfl)) (hoff 19 (by kernel_rfl)))
            have GW225 := Aside0.mk (Q_GW225 (hon 17 (by kernel_rfl)))
            have GE225 := Aside0.mk (Q_GE225 (hon 17 (by kernel_rfl)))
            have NB189_225 := Aside0.mk (Q_NB189_225 (hon 17 (by kernel_rfl)))
            have NB225_189 := Aside0.mk (Q_NB225_189 (hon 17 (by kernel_rfl)))
            have NB190_225 := Aside0.mk (Q_NB190_225 (hon 17 (by kernel_rfl)))
            have NB225_190 := Aside0.mk (Q_NB225_190 (hon 17 (by kernel_rfl)))
            have NB191_225 := Aside0.mk (Q_NB191_225 (hon 17 (by kernel_rfl)))
            have NB225_191 := Aside0.mk (Q_NB225_191 (hon 17 (by kernel_rfl)))
            have NB192_225 := Aside0.mk (Q_NB192_225 (hon 17 (by kernel_rfl)))
            have NB225_192 := Aside0.mk (Q_NB225_192 (hon 17 (by kernel_rfl)))
            have hs36 : w'.cell? ⟨gb224, 0, none⟩ = some (.bool false) := (blk_cell BK224.out 0).trans rfl
            have hfs36 := blk_frozen BK224.out 0
            have hns36_0 := NB189_224.out
            have hns36_1 := NB190_224.out
            have hns36_2 := NB191_224.out
            have hns36_3 := NB192_224.out
            have hns36_5 := NB225_224.out
            have hms36_0 := NB224_189.out
            have hms36_1 := NB224_190.out
            have hms36_2 := NB224_191.out
            have hms36_3 := NB224_192.out
            have hms36_5 := NB224_225.out
            have hs37 : w'.cell? ⟨gb224, 1, none⟩ = some (.int .i64 0) := (blk_cell BK224.out 1).trans rfl
            have hfs37 := blk_frozen BK224.out 1
            have hns37_0 := NB189_224.out
            have hns37_1 := NB190_224.out
            have hns37_2 := NB191_224.out
            have hns37_3 := NB192_224.out
            have hns37_5 := NB225_224.out
            have hms37_0 := NB224_189.out
            have hms37_1 := NB224_190.out
            have hms37_2 := NB224_191.out
            have hms37_3 := NB224_192.out
            have hms37_5 := NB224_225.out
            have hs38 : w'.cell? ⟨gb224, 2, none⟩ = some (.int .i64 0) := (blk_cell BK224.out 2).trans rfl
            have hfs38 := blk_frozen BK224.out 2
            have hns38_0 := NB189_224.out
            have hns38_1 := NB190_224.out
            have hns38_2 := NB191_224.out
            have hns38_3 := NB192_224.out
            have hns38_5 := NB225_224.out
            have hms38_0 := NB224_189.out
            have hms38_1 := NB224_190.out
            have hms38_2 := NB224_191.out
            have hms38_3 := NB224_192.out
            have hms38_5 := NB224_225.out
            have hs39 : w'.cell? ⟨gb224, 3, none⟩ = some (.int .i64 0) := (blk_cell BK224.out 3).trans rfl
            have hfs39 := blk_frozen BK224.out 3
            have hns39_0 := NB189_224.out
            have hns39_1 := NB190_224.out
            have hns39_2 := NB191_224.out
            have hns39_3 := NB192_224.out
            have hns39_5 := NB225_224.out
            have hms39_0 := NB224_189.out
            have hms39_1 := NB224_190.out
            have hms39_2 := NB224_191.out
            have hms39_3 := NB224_192.out
            have hms39_5 := NB224_225.out
            refine skip_ (w1 := ?_) (by rfl) rfl ?_ ?_
            rotate_left
            · go_simp
              rfl
            refine hK.out _ _ ⟨gb224, gb225, m16_, m17_, (by rw [ha.out]; exact putSel_none (v := undef) rfl), (by (with_reducible repeat (first | refine blk_drewN ?_ _ | refine blk_drew ?_ | refine blk_alloc ?_ _)); refine blk_far ?_ NB189_224.out _; (with_reducible repeat (first | refine blk_drewN ?_ _ | refine blk_drew ?_ | refine blk_alloc ?_ _)); refine blk_far ?_ NB189_224.out _; (with_reducible repeat (first | refine blk_drewN ?_ _ | refine blk_drew ?_ | refine blk_alloc ?_ _)); refine blk_far ?_ NB189_224.out _; (with_reducible repeat (first | refine blk_drewN ?_ _ | refine blk_drew ?_ | refine blk_alloc ?_ _)); refine blk_far ?_ NB189_224.out _; (with_reducible repeat (first | refine blk_drewN ?_ _ | refine blk_drew ?_ | refine blk_alloc ?_ _)); exact BK189.out), (by (with_reducible repeat (first | refine blk_drewN ?_ _ | refine blk_drew ?_ | refine blk_alloc ?_ _)); refine blk_far ?_ NB190_224.out _; (with_reducible repeat (first | refine blk_drewN ?_ _ | refine blk_drew ?_ | refine blk_alloc ?_ _)); refine blk_far ?_ NB190_224.out _; (with_reducible repeat (first | refine blk_drewN ?_ _ | refine blk_drew ?_ | refine blk_alloc ?_ _)); refine blk_far ?_ NB190_224.out _; (with_reducible repeat (first | refine blk_drewN ?_ _ | refine blk_drew ?_ | refine blk_alloc ?_ _)); refine blk_far ?_ NB190_224.out _; (with_reducible repeat (first | refine blk_drewN ?_ _ | refine blk_drew ?_ | refine blk_alloc ?_ _)); exact BK190.out), (by (with_reducible repeat (first | refine blk_drewN ?_ _ | refine blk_drew ?_ | refine blk_alloc ?_ _)); refine blk_far ?_ NB191_224.out _; (with_reducible repeat (first | refine blk_drewN ?_ _ | refine blk_drew ?_ | refine blk_alloc ?_ _)); refine blk_far ?_ NB191_224.out _; (with_reducible repeat (first | refine blk_drewN ?_ _ | refine blk_drew ?_ | refine blk_alloc ?_ _)); refine blk_far ?_ NB191_224.out _; (with_reducible repeat (first | refine blk_drewN ?_ _ | refine blk_drew ?_ | refine blk_alloc ?_ _)); refine blk_far ?_ NB191_224.out _; (with_reducible repeat (first | refine blk_drewN ?_ _ | refine blk_drew ?_ | refine blk_alloc ?_ _)); exact BK191.out), (by (with_reducible repeat (first | refine blk_drewN ?_ _ | refine blk_drew ?_ | refine blk_alloc ?_ _)); refine blk_far ?_ NB192_224.out _; (with_reducible repeat (first | refine blk_drewN ?_ _ | refine blk_drew ?_ | refine blk_alloc ?_ _)); refine blk_far ?_ NB192_224.out _; (with_reducible repeat (first | refine blk_drewN ?_ _ | refine blk_drew ?_ | refine blk_alloc ?_ _)); refine blk_far ?_ NB192_224.out _; (with_reducible repeat (first | refine blk_drewN ?_ _ | refine blk_drew ?_ | refine blk_alloc ?_ _)); refine blk_far ?_ NB192_224.out _; (with_reducible repeat (first | refine blk_drewN ?_ _ | refine blk_drew ?_ | refine blk_alloc ?_ _)); exact BK192.out), (by repeat (first | (with_reducible first | exact HB.out | apply below_alloc | apply pw_below_drewN | apply below_drew1 | refine below_set ?_ GE189.out | refine below_set ?_ GE190.out | refine below_set ?_ GE191.out | refine below_set ?_ GE192.out | refine below_set ?_ GE224.out | refine below_set ?_ GE225.out) | exact HB.out)), fun _ _ => NB225_224.out, fun _ _ => NB224_225.out, fun _ h1_ => absurd ((up_self b 18).symm.trans h1_) (by decide), fun _ => GW224.out, fun _ => GE224.out, fun _ => NB189_224.out, fun _ => NB224_189.out, fun _ => NB190_224.out, fun _ => NB224_190.out, fun _ => NB191_224.out, fun _ => NB224_191.out, fun _ => NB192_224.out, fun _ => NB224_192.out, fun _ _ => (by (with_reducible repeat (first | refine blk_drewN ?_ _ | refine blk_drew ?_ | refine blk_alloc ?_ _)); refine blk_far ?_ NB225_224.out _; (with_reducible repeat (first | refine blk_drewN ?_ _ | refine blk_drew ?_ | refine blk_alloc ?_ _)); refine blk_far ?_ NB225_224.out _; (with_reducible repeat (first | refine blk_drewN ?_ _ | refine blk_drew ?_ | refine blk_alloc ?_ _)); refine blk_far ?_ NB225_224.out _; (with_reducible repeat (first | refine blk_drewN ?_ _ | refine blk_drew ?_ | refine blk_alloc ?_ _)); refine blk_far ?_ NB225_224.out _; (with_reducible repeat (first | refine blk_drewN ?_ _ | refine blk_drew ?_ | refine blk_alloc ?_ _)); exact BK225.out), fun _ => GW225.out, fun _ => GE225.out, fun _ => NB189_225.out, fun _ => NB225_189.out, fun _ => NB190_225.out, fun _ => NB225_190.out, fun _ => NB191_225.out, fun _ => NB225_191.out, fun _ => NB192_225.out, fun _ => NB225_192.out, fun _ => (by (with_reducible repeat (first | refine blk_drewN ?_ _ | refine blk_drew ?_ | refine blk_alloc ?_ _)); refine blk_put (cs := #[.bool t215, .int .i64 t216, .int .i64 t217, .int .i64 0]) ?_ 3 _ rfl; (with_reducible repeat (first | refine blk_drewN ?_ _ | refine blk_drew ?_ | refine blk_alloc ?_ _)); refine blk_put (cs := #[.bool t215, .int .i64 t216, .int .i64 0, .int .i64 0]) ?_ 2 _ rfl; (with_reducible repeat (first | refine blk_drewN ?_ _ | refine blk_drew ?_ | refine blk_alloc ?_ _)); refine blk_put (cs := #[.bool t215, .int .i64 0, .int .i64 0, .int .i64 0]) ?_ 1 _ rfl; (with_reducible repeat (first | refine blk_drewN ?_ _ | refine blk_drew ?_ | refine blk_alloc ?_ _)); refine blk_put (cs := #[.bool false, .int .i64 0, .int .i64 0, .int .i64 0]) ?_ 0 _ rfl; (with_reducible repeat (first | refine blk_drewN ?_ _ | refine blk_drew ?_ | refine blk_alloc ?_ _)); exact BK224.out), fun h0_ => absurd ((hoff 19 (by kernel_rfl)).symm.trans h0_) (by decide), Q_X16_, Q_X17_⟩
          refine steps_cons ?_ ?_
          · rintro b a w' ⟨gb224, gb225, m16_, m17_, ha, Q_BK189, Q_BK190, Q_BK191, Q_BK192, Q_HB, Q_NB225_224, Q_NB224_225, Q_BK224, Q_GW224, Q_GE224, Q_NB189_224, Q_NB224_189, Q_NB190_224, Q_NB224_190, Q_NB191_224, Q_NB224_191, Q_NB192_224, Q_NB224_192, Q_BK225, Q_GW225, Q_GE225, Q_NB189_225, Q_NB225_189, Q_NB190_225, Q_NB225_190, Q_NB191_225, Q_NB225_191, Q_NB192_225, Q_NB225_192, Q_BK224_e18, Q_BK225_e19, Q_X16_, Q_X17_⟩ hb_ hon hoff
            refine ⟨_, rfl, fun K hK => ?_⟩
            have e16 : a.tmps[16]? = some (m17_) := by rw [ha]; exact putSel_on (e := (17, 16, m17_)) 14 rfl rfl (hon 17 (by kernel_rfl)) rfl
            rw [Q_X17_ (hon 17 (by kernel_rfl))] at e16
            have e35 : a.tmps[35]? = some (.agg #[.bool t219, .int .i64 t220, .int .i64 t221, .int .i64 t222]) := by rw [ha]; exact putSel_on (e := (14, 35, .agg #[.bool t219, .int .i64 t220, .int .i64 t221, .int .i64 t222])) 11 rfl rfl (hon 14 (by kernel_rfl)) rfl
            replace ha := Aside0.mk ha
            have BK189 := Aside0.mk Q_BK189
            have BK190 := Aside0.mk Q_BK190
            have BK191 := Aside0.mk Q_BK191
            have BK192 := Aside0.mk Q_BK192
            have HB := Aside0.mk Q_HB
            have NB225_224 := Aside0.mk (Q_NB225_224 (hon 16 (by kernel_rfl)) (hon 17 (by kernel_rfl)))
            have NB224_225 := Aside0.mk (Q_NB224_225 (hon 16 (by kernel_rfl)) (hon 17 (by kernel_rfl)))
            have GW224 := Aside0.mk (Q_GW224 (hon 16 (by kernel_rfl)))
            have GE224 := Aside0.mk (Q_GE224 (hon 16 (by kernel_rfl)))
            have NB189_224 := Aside0.mk (Q_NB189_224 (hon 16 (by kernel_rfl)))
            have NB224_189 := Aside0.mk (Q_NB224_189 (hon 16 (by kernel_rfl)))
            have NB190_224 := Aside0.mk (Q_NB190_224 (hon 16 (by kernel_rfl)))
            have NB224_190 := Aside0.mk (Q_NB224_190 (hon 16 (by kernel_rfl)))
            have NB191_224 := Aside0.mk (Q_NB191_224 (hon 16 (by kernel_rfl)))
            have NB224_191 := Aside0.mk (Q_NB224_191 (hon 16 (by kernel_rfl)))
            have NB192_224 := Aside0.mk (Q_NB192_224 (hon 16 (by kernel_rfl)))
            have NB224_192 := Aside0.mk (Q_NB224_192 (hon 16 (by kernel_rfl)))
            have BK225 := Aside0.mk (Q_BK225 (hon 17 (by kernel_rfl)) hb_)
            have GW225 := Aside0.mk (Q_GW225 (hon 17 (by kernel_rfl)))
            have GE225 := Aside0.mk (Q_GE225 (hon 17 (by kernel_rfl)))
            have NB189_225 := Aside0.mk (Q_NB189_225 (hon 17 (by kernel_rfl)))
            have NB225_189 := Aside0.mk (Q_NB225_189 (hon 17 (by kernel_rfl)))
            have NB190_225 := Aside0.mk (Q_NB190_225 (hon 17 (by kernel_rfl)))
            have NB225_190 := Aside0.mk (Q_NB225_190 (hon 17 (by kernel_rfl)))
            have NB191_225 := Aside0.mk (Q_NB191_225 (hon 17 (by kernel_rfl)))
            have NB225_191 := Aside0.mk (Q_NB225_191 (hon 17 (by kernel_rfl)))
            have NB192_225 := Aside0.mk (Q_NB192_225 (hon 17 (by kernel_rfl)))
            have NB225_192 := Aside0.mk (Q_NB225_192 (hon 17 (by kernel_rfl)))
            have BK224 := Aside0.mk (Q_BK224_e18 (hon 18 (by kernel_rfl)))
            have hs40 : w'.cell? ⟨gb225, 0, none⟩ = some (.bool false) := (blk_cell BK225.out 0).trans rfl
            have hfs40 := blk_frozen BK225.out 0
            have hns40_0 := NB189_225.out
            have hns40_1 := NB190_225.out
            have hns40_2 := NB191_225.out
            have hns40_3 := NB192_225.out
            have hns40_4 := NB224_225.out
            have hms40_0 := NB225_189.out
            have hms40_1 := NB225_190.out
            have hms40_2 := NB225_191.out
            have hms40_3 := NB225_192.out
            have hms40_4 := NB225_224.out
            have hs41 : w'.cell? ⟨gb225, 1, none⟩ = some (.int .i64 0) := (blk_cell BK225.out 1).trans rfl
            have hfs41 := blk_frozen BK225.out 1
            have hns41_0 := NB189_225.out
            have hns41_1 := NB190_225.out
            have hns41_2 := NB191_225.out
            have hns41_3 := NB192_225.out
            have hns41_4 := NB224_225.out
            have hms41_0 := NB225_189.out
            have hms41_1 := NB225_190.out
            have hms41_2 := NB225_191.out
            have hms41_3 := NB225_192.out
            have hms41_4 := NB225_224.out
            have hs42 : w'.cell? ⟨gb225, 2, none⟩ = some (.int .i64 0) := (blk_cell BK225.out 2).trans rfl
            have hfs42 := blk_frozen BK225.out 2
            have hns42_0 := NB189_225.out
            have hns42_1 := NB190_225.out
            have hns42_2 := NB191_225.out
            have hns42_3 := NB192_225.out
            have hns42_4 := NB224_225.out
            have hms42_0 := NB225_189.out
            have hms42_1 := NB225_190.out
            have hms42_2 := NB225_191.out
            have hms42_3 := NB225_192.out
            have hms42_4 := NB225_224.out
            have hs43 : w'.cell? ⟨gb225, 3, none⟩ = some (.int .i64 0) := (blk_cell BK225.out 3).trans rfl
            have hfs43 := blk_frozen BK225.out 3
            have hns43_0 := NB189_225.out
            have hns43_1 := NB190_225.out
            have hns43_2 := NB191_225.out
            have hns43_3 := NB192_225.out
            have hns43_4 := NB224_225.out
            have hms43_0 := NB225_189.out
            have hms43_1 := NB225_190.out
            have hms43_2 := NB225_191.out
            have hms43_3 := NB225_192.out
            have hms43_4 := NB225_224.out
            refine skip_ (w1 := ?_) (by rfl) rfl ?_ ?_
            rotate_left
            · go_simp
              rfl
            refine hK.out _ _ ⟨gb224, gb225, m16_, m17_, (by rw [ha.out]; exact putSel_none (v := undef) rfl), (by (with_reducible repeat (first | refine blk_drewN ?_ _ | refine blk_drew ?_ | refine blk_alloc ?_ _)); refine blk_far ?_ NB189_225.out _; (with_reducible repeat (first | refine blk_drewN ?_ _ | refine blk_drew ?_ | refine blk_alloc ?_ _)); refine blk_far ?_ NB189_225.out _; (with_reducible repeat (first | refine blk_drewN ?_ _ | refine blk_drew ?_ | refine blk_alloc ?_ _)); refine blk_far ?_ NB189_225.out _; (with_reducible repeat (first | refine blk_drewN ?_ _ | refine blk_drew ?_ | refine blk_alloc ?_ _)); refine blk_far ?_ NB189_225.out _; (with_reducible repeat (first | refine blk_drewN ?_ _ | refine blk_drew ?_ | refine blk_alloc ?_ _)); exact BK189.out), (by (with_reducible repeat (first | refine blk_drewN ?_ _ | refine blk_drew ?_ | refine blk_alloc ?_ _)); refine blk_far ?_ NB190_225.out _; (with_reducible repeat (first | refine blk_drewN ?_ _ | refine blk_drew ?_ | refine blk_alloc ?_ _)); refine blk_far ?_ NB190_225.out _; (with_reducible repeat (first | refine blk_drewN ?_ _ | refine blk_drew ?_ | refine blk_alloc ?_ _)); refine blk_far ?_ NB190_225.out _; (with_reducible repeat (first | refine blk_drewN ?_ _ | refine blk_drew ?_ | refine blk_alloc ?_ _)); refine blk_far ?_ NB190_225.out _; (with_reducible repeat (first | refine blk_drewN ?_ _ | refine blk_drew ?_ | refine blk_alloc ?_ _)); exact BK190.out), (by (with_reducible repeat (first | refine blk_drewN ?_ _ | refine blk_drew ?_ | refine blk_alloc ?_ _)); refine blk_far ?_ NB191_225.out _; (with_reducible repeat (first | refine blk_drewN ?_ _ | refine blk_drew ?_ | refine blk_alloc ?_ _)); refine blk_far ?_ NB191_225.out _; (with_reducible repeat (first | refine blk_drewN ?_ _ | refine blk_drew ?_ | refine blk_alloc ?_ _)); refine blk_far ?_ NB191_225.out _; (with_reducible repeat (first | refine blk_drewN ?_ _ | refine blk_drew ?_ | refine blk_alloc ?_ _)); refine blk_far ?_ NB191_225.out _; (with_reducible repeat (first | refine blk_drewN ?_ _ | refine blk_drew ?_ | refine blk_alloc ?_ _)); exact BK191.out), (by (with_reducible repeat (first | refine blk_drewN ?_ _ | refine blk_drew ?_ | refine blk_alloc ?_ _)); refine blk_far ?_ NB192_225.out _; (with_reducible repeat (first | refine blk_drewN ?_ _ | refine blk_drew ?_ | refine blk_alloc ?_ _)); refine blk_far ?_ NB192_225.out _; (with_reducible repeat (first | refine blk_drewN ?_ _ | refine blk_drew ?_ | refine blk_alloc ?_ _)); refine blk_far ?_ NB192_225.out _; (with_reducible repeat (first | refine blk_drewN ?_ _ | refine blk_drew ?_ | refine blk_alloc ?_ _)); refine blk_far ?_ NB192_225.out _; (with_reducible repeat (first | refine blk_drewN ?_ _ | refine blk_drew ?_ | refine blk_alloc ?_ _)); exact BK192.out), (by repeat (first | (with_reducible first | exact HB.out | apply below_alloc | apply pw_below_drewN | apply below_drew1 | refine below_set ?_ GE189.out | refine below_set ?_ GE190.out | refine below_set ?_ GE191.out | refine below_set ?_ GE192.out | refine below_set ?_ GE224.out | refine below_set ?_ GE225.out) | exact HB.out)), fun _ _ => NB225_224.out, fun _ _ => NB224_225.out, fun _ h1_ => absurd ((hon 18 (by kernel_rfl)).symm.trans h1_) (by decide), fun _ => GW224.out, fun _ => GE224.out, fun _ => NB189_224.out, fun _ => NB224_189.out, fun _ => NB190_224.out, fun _ => NB224_190.out, fun _ => NB191_224.out, fun _ => NB224_191.out, fun _ => NB192_224.out, fun _ => NB224_192.out, fun _ h1_ => absurd ((up_self b 19).symm.trans h1_) (by decide), fun _ => GW225.out, fun _ => GE225.out, fun _ => NB189_225.out, fun _ => NB225_189.out, fun _ => NB190_225.out, fun _ => NB225_190.out, fun _ => NB191_225.out, fun _ => NB225_191.out, fun _ => NB192_225.out, fun _ => NB225_192.out, fun _ => (by (with_reducible repeat (first | refine blk_drewN ?_ _ | refine blk_drew ?_ | refine blk_alloc ?_ _)); refine blk_far ?_ NB224_225.out _; (with_reducible repeat (first | refine blk_drewN ?_ _ | refine blk_drew ?_ | refine blk_alloc ?_ _)); refine blk_far ?_ NB224_225.out _; (with_reducible repeat (first | refine blk_drewN ?_ _ | refine blk_drew ?_ | refine blk_alloc ?_ _)); refine blk_far ?_ NB224_225.out _; (with_reducible repeat (first | refine blk_drewN ?_ _ | refine blk_drew ?_ | refine blk_alloc ?_ _)); refine blk_far ?_ NB224_225.out _; (with_reducible repeat (first | refine blk_drewN ?_ _ | refine blk_drew ?_ | refine blk_alloc ?_ _)); exact BK224.out), fun _ => (by (with_reducible repeat (first | refine blk_drewN ?_ _ | refine blk_drew ?_ | refine blk_alloc ?_ _)); refine blk_put (cs := #[.bool t219, .int .i64 t220, .int .i64 t221, .int .i64 0]) ?_ 3 _ rfl; (with_reducible repeat (first | refine blk_drewN ?_ _ | refine blk_drew ?_ | refine blk_alloc ?_ _)); refine blk_put (cs := #[.bool t219, .int .i64 t220, .int .i64 0, .int .i64 0]) ?_ 2 _ rfl; (with_reducible repeat (first | refine blk_drewN ?_ _ | refine blk_drew ?_ | refine blk_alloc ?_ _)); refine blk_put (cs := #[.bool t219, .int .i64 0, .int .i64 0, .int .i64 0]) ?_ 1 _ rfl; (with_reducible repeat (first | refine blk_drewN ?_ _ | refine blk_drew ?_ | refine blk_alloc ?_ _)); refine blk_put (cs := #[.bool false, .int .i64 0, .int .i64 0, .int .i64 0]) ?_ 0 _ rfl; (with_reducible repeat (first | refine blk_drewN ?_ _ | refine blk_drew ?_ | refine blk_alloc ?_ _)); exact BK225.out), Q_X16_, Q_X17_⟩
          refine steps_cons ?_ ?_
          · rintro b a w' ⟨gb224, gb225, m16_, m17_, ha, Q_BK189, Q_BK190, Q_BK191, Q_BK192, Q_HB, Q_NB225_224, Q_NB224_225, Q_BK224, Q_GW224, Q_GE224, Q_NB189_224, Q_NB224_189, Q_NB190_224, Q_NB224_190, Q_NB191_224, Q_NB224_191, Q_NB192_224, Q_NB224_192, Q_BK225, Q_GW225, Q_GE225, Q_NB189_225, Q_NB225_189, Q_NB190_225, Q_NB225_190, Q_NB191_225, Q_NB225_191, Q_NB192_225, Q_NB225_192, Q_BK224_e18, Q_BK225_e19, Q_X16_, Q_X17_⟩ hb_ hon hoff
            refine ⟨_, rfl, fun K hK => ?_⟩
            have e36 : a.tmps[36]? = some (.bool t223) := by rw [ha]; exact putSel_on (e := (15, 36, .bool t223)) 12 rfl rfl (hon 15 (by kernel_rfl)) rfl
            replace ha := Aside0.mk ha
            have BK189 := Aside0.mk Q_BK189
            have BK190 := Aside0.mk Q_BK190
            have BK191 := Aside0.mk Q_BK191
            have BK192 := Aside0.mk Q_BK192
            have HB := Aside0.mk Q_HB
            have NB225_224 := Aside0.mk (Q_NB225_224 (hon 16 (by kernel_rfl)) (hon 17 (by kernel_rfl)))
            have NB224_225 := Aside0.mk (Q_NB224_225 (hon 16 (by kernel_rfl)) (hon 17 (by kernel_rfl)))
            have GW224 := Aside0.mk (Q_GW224 (hon 16 (by kernel_rfl)))
            have GE224 := Aside0.mk (Q_GE224 (hon 16 (by kernel_rfl)))
            have NB189_224 := Aside0.mk (Q_NB189_224 (hon 16 (by kernel_rfl)))
            have NB224_189 := Aside0.mk (Q_NB224_189 (hon 16 (by kernel_rfl)))
            have NB190_224 := Aside0.mk (Q_NB190_224 (hon 16 (by kernel_rfl)))
            have NB224_190 := Aside0.mk (Q_NB224_190 (hon 16 (by kernel_rfl)))
            have NB191_224 := Aside0.mk (Q_NB191_224 (hon 16 (by kernel_rfl)))
            have NB224_191 := Aside0.mk (Q_NB224_191 (hon 16 (by kernel_rfl)))
            have NB192_224 := Aside0.mk (Q_NB192_224 (hon 16 (by kernel_rfl)))
            have NB224_192 := Aside0.mk (Q_NB224_192 (hon 16 (by kernel_rfl)))
            have GW225 := Aside0.mk (Q_GW225 (hon 17 (by kernel_rfl)))
            have GE225 := Aside0.mk (Q_GE225 (hon 17 (by kernel_rfl)))
            have NB189_225 := Aside0.mk (Q_NB189_225 (hon 17 (by kernel_rfl)))
            have NB225_189 := Aside0.mk (Q_NB225_189 (hon 17 (by kernel_rfl)))
            have NB190_225 := Aside0.mk (Q_NB190_225 (hon 17 (by kernel_rfl)))
            have NB225_190 := Aside0.mk (Q_NB225_190 (hon 17 (by kernel_rfl)))
            have NB191_225 := Aside0.mk (Q_NB191_225 (hon 17 (by kernel_rfl)))
            have NB225_191 := Aside0.mk (Q_NB225_191 (hon 17 (by kernel_rfl)))
            have NB192_225 := Aside0.mk (Q_NB192_225 (hon 17 (by kernel_rfl)))
            have NB225_192 := Aside0.mk (Q_NB225_192 (hon 17 (by kernel_rfl)))
            have BK224 := Aside0.mk (Q_BK224_e18 (hon 18 (by kernel_rfl)))
            have BK225 := Aside0.mk (Q_BK225_e19 (hon 19 (by kernel_rfl)))
            refine value_ (w1 := w') (v := .bool t223) (by rfl) rfl ?_ ?_
            · go_simp
              (try simp only [i64_w])
              try rfl
            refine hK.out _ _ ⟨gb224, gb225, m16_, m17_, (by rw [ha.out]; exact putSel_upk 15 hb_ rfl rfl rfl), Q_BK189, Q_BK190, Q_BK191, Q_BK192, Q_HB, Q_NB225_224, Q_NB224_225, fun _ h1_ => absurd ((hon 18 (by kernel_rfl)).symm.trans h1_) (by decide), Q_GW224, Q_GE224, Q_NB189_224, Q_NB224_189, Q_NB190_224, Q_NB224_190, Q_NB191_224, Q_NB224_191, Q_NB192_224, Q_NB224_192, fun _ h1_ => absurd ((hon 19 (by kernel_rfl)).symm.trans h1_) (by decide), Q_GW225, Q_GE225, Q_NB189_225, Q_NB225_189, Q_NB190_225, Q_NB225_190, Q_NB191_225, Q_NB225_191, Q_NB192_225, Q_NB225_192, Q_BK224_e18, Q_BK225_e19, Q_X16_, Q_X17_⟩
          exact steps_nil
        rintro b a w43 hall ⟨gb224, gb225, m16_, m17_, ha, Q_BK189, Q_BK190, Q_BK191, Q_BK192, Q_HB, Q_NB225_224, Q_NB224_225, Q_BK224, Q_GW224, Q_GE224, Q_NB189_224, Q_NB224_189, Q_NB190_224, Q_NB224_190, Q_NB191_224, Q_NB224_191, Q_NB192_224, Q_NB224_192, Q_BK225, Q_GW225, Q_GE225, Q_NB189_225, Q_NB225_189, Q_NB190_225, Q_NB225_190, Q_NB191_225, Q_NB225_191, Q_NB192_225, Q_NB225_192, Q_BK224_e18, Q_BK225_e19, Q_X16_, Q_X17_⟩
        clear BK189 BK190 BK191 BK192 HB
        have hb0_ := hall 0 (by kernel_rfl)
        have hb1_ := hall 1 (by kernel_rfl)
        have hb2_ := hall 2 (by kernel_rfl)
        have hb3_ := hall 3 (by kernel_rfl)
        have hb4_ := hall 4 (by kernel_rfl)
        have hb5_ := hall 5 (by kernel_rfl)
        have hb6_ := hall 6 (by kernel_rfl)
        have hb7_ := hall 7 (by kernel_rfl)
        have hb11_ := hall 11 (by kernel_rfl)
        have hb12_ := hall 12 (by kernel_rfl)
        have hb13_ := hall 13 (by kernel_rfl)
        have hb14_ := hall 14 (by kernel_rfl)
        have hb15_ := hall 15 (by kernel_rfl)
        have hb16_ := hall 16 (by kernel_rfl)
        have hb17_ := hall 17 (by kernel_rfl)
        have hb18_ := hall 18 (by kernel_rfl)
        have hb19_ := hall 19 (by kernel_rfl)
        have hb20_ := hall 20 (by kernel_rfl)
        subst ha
        obtain rfl := Q_X16_ hb16_
        obtain rfl := Q_X17_ hb17_
        simp only [putSel, hb0_, hb1_, hb2_, hb3_, hb4_, hb5_, hb6_, hb7_, hb11_, hb12_, hb13_, hb14_, hb15_, hb16_, hb17_, hb18_, hb19_, hb20_, if_true, Act.put, List.setIfInBounds_toArray, List.set_cons_zero, List.set_cons_succ]
        have BK189 := Aside0.mk Q_BK189
        clear Q_BK189
        have BK190 := Aside0.mk Q_BK190
        clear Q_BK190
        have BK191 := Aside0.mk Q_BK191
        clear Q_BK191
        have BK192 := Aside0.mk Q_BK192
        clear Q_BK192
        have HB := Aside0.mk Q_HB
        clear Q_HB
        have NB225_224 := Aside0.mk (Q_NB225_224 hb16_ hb17_)
        clear Q_NB225_224
        have NB224_225 := Aside0.mk (Q_NB224_225 hb16_ hb17_)
        clear Q_NB224_225
        clear Q_BK224
        have GW224 := Aside0.mk (Q_GW224 hb16_)
        clear Q_GW224
        have GE224 := Aside0.mk (Q_GE224 hb16_)
        clear Q_GE224
        have NB189_224 := Aside0.mk (Q_NB189_224 hb16_)
        clear Q_NB189_224
        have NB224_189 := Aside0.mk (Q_NB224_189 hb16_)
        clear Q_NB224_189
        have NB190_224 := Aside0.mk (Q_NB190_224 hb16_)
        clear Q_NB190_224
        have NB224_190 := Aside0.mk (Q_NB224_190 hb16_)
        clear Q_NB224_190
        have NB191_224 := Aside0.mk (Q_NB191_224 hb16_)
        clear Q_NB191_224
        have NB224_191 := Aside0.mk (Q_NB224_191 hb16_)
        clear Q_NB224_191
        have NB192_224 := Aside0.mk (Q_NB192_224 hb16_)
        clear Q_NB192_224
        have NB224_192 := Aside0.mk (Q_NB224_192 hb16_)
        clear Q_NB224_192
        clear Q_BK225
        have GW225 := Aside0.mk (Q_GW225 hb17_)
        clear Q_GW225
        have GE225 := Aside0.mk (Q_GE225 hb17_)
        clear Q_GE225
        have NB189_225 := Aside0.mk (Q_NB189_225 hb17_)
        clear Q_NB189_225
        have NB225_189 := Aside0.mk (Q_NB225_189 hb17_)
        clear Q_NB225_189
        have NB190_225 := Aside0.mk (Q_NB190_225 hb17_)
        clear Q_NB190_225
        have NB225_190 := Aside0.mk (Q_NB225_190 hb17_)
        clear Q_NB225_190
        have NB191_225 := Aside0.mk (Q_NB191_225 hb17_)
        clear Q_NB191_225
        have NB225_191 := Aside0.mk (Q_NB225_191 hb17_)
        clear Q_NB225_191
        have NB192_225 := Aside0.mk (Q_NB192_225 hb17_)
        clear Q_NB192_225
        have NB225_192 := Aside0.mk (Q_NB225_192 hb17_)
        clear Q_NB225_192
        have BK224 := Aside0.mk (Q_BK224_e18 hb18_)
        clear Q_BK224_e18
        have BK225 := Aside0.mk (Q_BK225_e19 hb19_)
        clear Q_BK225_e19
        clear hall hb0_ hb1_ hb2_ hb3_ hb4_ hb5_ hb6_ hb7_ hb11_ hb12_ hb13_ hb14_ hb15_ hb16_ hb17_ hb18_ hb19_ hb20_
        try go_wp2
        have n0_ := Aside0.mk (blk_drew BK189.out)
        have n1_ := Aside0.mk (blk_drew BK190.out)
        have n2_ := Aside0.mk (blk_drew BK191.out)
        have n3_ := Aside0.mk (blk_drew BK192.out)
        have n4_ := Aside0.mk (blk_drew BK224.out)
        have n5_ := Aside0.mk (blk_drew BK225.out)
        have n6_ := Aside0.mk (below_drew1 HB.out)
        clear BK189
        clear BK190
        clear BK191
        clear BK192
        clear BK224
        clear BK225
        clear HB
        have BK189 := n0_
        have BK190 := n1_
        have BK191 := n2_
        have BK192 := n3_
        have BK224 := n4_
        have BK225 := n5_
        have HB := n6_
        clear n0_ n1_ n2_ n3_ n4_ n5_ n6_
        refine start_ (n := 21) (S := fun w' => True) (ds := []) #[false, false, false, false, false, false, false, false, false, false, false, false, false, false, false, false, false, false, false, false, false] (by kernel_rfl) rfl rfl trivial (fun hHeld => ?_); refine with_tabW laws_FnExactCascadeStep.tab2 laws_FnExactCascadeStep.bits2 (fun HT_ HW_ => ?_)
        generalize w43.drew = w44 at BK189 BK190 BK191 BK192 BK224 BK225 HB hHeld ⊢
        refine pure_ (i := 8) (N := some 46) (v := ?_) (a' := ?_) #[false, false, false, false, false, false, false, false, true, false, false, false, false, false, false, false, false, false, false, false, false] rfl rfl (any_of HT_.out (by kernel_rfl)) (fun _ _ _ h => h) (Or.inl ⟨by rfl, ?_⟩) ?_ ?_
        rotate_left
        · intro w'
          go_simp
          with_reducible rfl
        rotate_left
        · simp only [Act.put, List.setIfInBounds_toArray, List.set_cons_zero, List.set_cons_succ, i64_w, i32_w]
          rfl
        refine pure_ (i := 9) (N := some 47) (v := ?_) (a' := ?_) #[false, false, false, false, false, false, false, false, true, true, false, false, false, false, false, false, false, false, false, false, false] rfl rfl (any_of HT_.out (by kernel_rfl)) (fun _ _ _ h => h) (Or.inl ⟨by rfl, ?_⟩) ?_ ?_
        rotate_left
        · intro w'
          go_simp
          with_reducible rfl
        rotate_left
        · simp only [Act.put, List.setIfInBounds_toArray, List.set_cons_zero, List.set_cons_succ, i64_w, i32_w]
          rfl
        refine pure_ (i := 10) (N := some 48) (v := ?_) (a' := ?_) #[false, false, false, false, false, false, false, false, true, true, true, false, false, false, false, false, false, false, false, false, false] rfl rfl (any_of HT_.out (by kernel_rfl)) (fun _ _ _ h => h) (Or.inl ⟨by rfl, ?_⟩) ?_ ?_
        rotate_left
        · intro w'
          go_simp
          with_reducible rfl
        rotate_left
        · simp only [Act.put, List.setIfInBounds_toArray, List.set_cons_zero, List.set_cons_succ, i64_w, i32_w]
          rfl
        refine inv_at [0, 1, 2, 3, 4, 5, 6, 7, 11, 12, 13, 14, 15, 16, 17, 18, 19, 20] (fun a0_ b a w' => ∃ (gb257 : Nat) (gb258 : Nat) (m16_ : Value) (m17_ : Value), a = putSel a0_ b [(0, 38, .agg #[.int .i64 a0_0, .int .i64 a0_1, .int .i64 a0_2, .int .i64 a0_3, .int .i64 a0_4, .int .i64 a0_5, .int .i64 a0_6]), (1, 39, .agg #[.int .i64 t226, .int .i64 t227, .int .i64 t228, .int .i64 t229, .int .i64 t230, .int .i64 t231, .int .i64 t232]), (2, 40, .agg #[.int .i64 a1_0, .int .i64 a1_1, .int .i64 a1_2, .int .i64 a1_3, .int .i64 a1_4, .int .i64 a1_5, .int .i64 a1_6]), (3, 41, .agg #[.int .i64 t233, .int .i64 t234, .int .i64 t235, .int .i64 t236, .int .i64 t237, .int .i64 t238, .int .i64 t239]), (4, 42, .agg #[.bool a2_0, .int .i64 a2_1, .int .i64 a2_2, .int .i64 a2_3]), (5, 43, .agg #[.bool t240, .int .i64 t241, .int .i64 t242, .int .i64 t243]), (6, 44, .agg #[.bool a3_0, .int .i64 a3_1, .int .i64 a3_2, .int .i64 a3_3]), (7, 45, .agg #[.bool t244, .int .i64 t245, .int .i64 t246, .int .i64 t247]), (11, 49, .tuple #[.agg #[.bool t248, .int .i64 t249, .int .i64 t250, .int .i64 t251], .agg #[.bool t252, .int .i64 t253, .int .i64 t254, .int .i64 t255], .bool t256]), (12, 37, .tuple #[.agg #[.bool t248, .int .i64 t249, .int .i64 t250, .int .i64 t251], .agg #[.bool t252, .int .i64 t253, .int .i64 t254, .int .i64 t255], .bool t256]), (13, 50, .agg #[.bool t248, .int .i64 t249, .int .i64 t250, .int .i64 t251]), (14, 51, .agg #[.bool t252, .int .i64 t253, .int .i64 t254, .int .i64 t255]), (15, 52, .bool t256), (16, 18, m16_), (17, 19, m17_), (20, 20, .bool t256)] ∧ (w'.heap[gb189]? = some (.cells #[.int .i64 a0_0, .int .i64 a0_1, .int .i64 a0_2, .int .i64 a0_3, .int .i64 a0_4, .int .i64 a0_5, .int .i64 a0_6] 33 (0, 0))) ∧ (w'.heap[gb190]? = some (.cells #[.int .i64 a1_0, .int .i64 a1_1, .int .i64 a1_2, .int .i64 a1_3, .int .i64 a1_4, .int .i64 a1_5, .int .i64 a1_6] 33 (0, 0))) ∧ (w'.heap[gb191]? = some (.cells #[.bool a2_0, .int .i64 a2_1, .int .i64 a2_2, .int .i64 a2_3] 35 (0, 0))) ∧ (w'.heap[gb192]? = some (.cells #[.bool a3_0, .int .i64 a3_1, .int .i64 a3_2, .int .i64 a3_3] 35 (0, 0))) ∧ (w'.heap[gb224]? = some (.cells #[.bool t215, .int .i64 t216, .int .i64 t217, .int .i64 t218] 36 (0, 0))) ∧ (w'.heap[gb225]? = some (.cells #[.bool t219, .int .i64 t220, .int .i64 t221, .int .i64 t222] 36 (0, 0))) ∧ (Below w.heap.size w w') ∧ (b 16 = true → b 17 = true → gb258 ≠ gb257) ∧ (b 16 = true → b 17 = true → gb257 ≠ gb258) ∧ (b 16 = true → b 18 = false → w'.heap[gb257]? = some (.cells #[.bool false, .int .i64 0, .int .i64 0, .int .i64 0] 36 (0, 0))) ∧ (b 16 = true → w.heap.size ≤ gb257) ∧ (b 16 = true → w.heap.size ≤ gb257) ∧ (b 16 = true → gb189 ≠ gb257) ∧ (b 16 = true → gb257 ≠ gb189) ∧ (b 16 = true → gb190 ≠ gb257) ∧ (b 16 = true → gb257 ≠ gb190) ∧ (b 16 = true → gb191 ≠ gb257) ∧ (b 16 = true → gb257 ≠ gb191) ∧ (b 16 = true → gb192 ≠ gb257) ∧ (b 16 = true → gb257 ≠ gb192) ∧ (b 16 = true → gb224 ≠ gb257) ∧ (b 16 = true → gb257 ≠ gb224) ∧ (b 16 = true → gb225 ≠ gb257) ∧ (b 16 = true → gb257 ≠ gb225) ∧ (b 17 = true → b 19 = false → w'.heap[gb258]? = some (.cells #[.bool false, .int .i64 0, .int .i64 0, .int .i64 0] 36 (0, 0))) ∧ (b 17 = true → w.heap.size ≤ gb258) ∧ (b 17 = true → w.heap.size ≤ gb258) ∧ (b 17 = true → gb189 ≠ gb258) ∧ (b 17 = true → gb258 ≠ gb189) ∧ (b 17 = true → gb190 ≠ gb258) ∧ (b 17 = true → gb258 ≠ gb190) ∧ (b 17 = true → gb191 ≠ gb258) ∧ (b 17 = true → gb258 ≠ gb191) ∧ (b 17 = true → gb192 ≠ gb258) ∧ (b 17 = true → gb258 ≠ gb192) ∧ (b 17 = true → gb224 ≠ gb258) ∧ (b 17 = true → gb258 ≠ gb224) ∧ (b 17 = true → gb225 ≠ gb258) ∧ (b 17 = true → gb258 ≠ gb225) ∧ (b 18 = true → w'.heap[gb257]? = some (.cells #[.bool t248, .int .i64 t249, .int .i64 t250, .int .i64 t251] 36 (0, 0))) ∧ (b 19 = true → w'.heap[gb258]? = some (.cells #[.bool t252, .int .i64 t253, .int .i64 t254, .int .i64 t255] 36 (0, 0))) ∧ (b 16 = true → (m16_ : Value) = .pointer (some ⟨gb257, 0, none⟩)) ∧ (b 17 = true → (m17_ : Value) = .pointer (some ⟨gb258, 0, none⟩))) HT_.out HW_.out (by kernel_rfl) (by kernel_rfl) ?_ ?_ ?_
        · exact ⟨0, 0, .bool false, .bool false, by simp only [putSel, Bool.false_eq_true, if_false], BK189.out, BK190.out, BK191.out, BK192.out, BK224.out, BK225.out, HB.out, fun h_ => absurd h_ (by decide), fun h_ => absurd h_ (by decide), fun h_ => absurd h_ (by decide), fun h_ => absurd h_ (by decide), fun h_ => absurd h_ (by decide), fun h_ => absurd h_ (by decide), fun h_ => absurd h_ (by decide), fun h_ => absurd h_ (by decide), fun h_ => absurd h_ (by decide), fun h_ => absurd h_ (by decide), fun h_ => absurd h_ (by decide), fun h_ => absurd h_ (by decide), fun h_ => absurd h_ (by decide), fun h_ => absurd h_ (by decide), fun h_ => absurd h_ (by decide), fun h_ => absurd h_ (by decide), fun h_ => absurd h_ (by decide), fun h_ => absurd h_ (by decide), fun h_ => absurd h_ (by decide), fun h_ => absurd h_ (by decide), fun h_ => absurd h_ (by decide), fun h_ => absurd h_ (by decide), fun h_ => absurd h_ (by decide), fun h_ => absurd h_ (by decide), fun h_ => absurd h_ (by decide), fun h_ => absurd h_ (by decide), fun h_ => absurd h_ (by decide), fun h_ => absurd h_ (by decide), fun h_ => absurd h_ (by decide), fun h_ => absurd h_ (by decide), fun h_ => absurd h_ (by decide), fun h_ => absurd h_ (by decide), fun h_ => absurd h_ (by decide), fun h_ => absurd h_ (by decide), fun h_ => absurd h_ (by decide), fun h_ => absurd h_ (by decide)⟩
        · skip
          clear BK189 BK190 BK191 BK192 BK224 BK225 HB
          refine steps_cons ?_ ?_
          · rintro b a w' ⟨gb257, gb258, m16_, m17_, ha, Q_BK189, Q_BK190, Q_BK191, Q_BK192, Q_BK224, Q_BK225, Q_HB, Q_NB258_257, Q_NB257_258, Q_BK257, Q_GW257, Q_GE257, Q_NB189_257, Q_NB257_189, Q_NB190_257, Q_NB257_190, Q_NB191_257, Q_NB257_191, Q_NB192_257, Q_NB257_192, Q_NB224_257, Q_NB257_224, Q_NB225_257, Q_NB257_225, Q_BK258, Q_GW258, Q_GE258, Q_NB189_258, Q_NB258_189, Q_NB190_258, Q_NB258_190, Q_NB191_258, Q_NB258_191, Q_NB192_258, Q_NB258_192, Q_NB224_258, Q_NB258_224, Q_NB225_258, Q_NB258_225, Q_BK257_e18, Q_BK258_e19, Q_X16_, Q_X17_⟩ hb_ hon hoff
            refine ⟨_, rfl, fun K hK => ?_⟩
            have e7 : a.tmps[7]? = some (.pointer (some ⟨gb189, 0, none⟩)) := by rw [ha]; exact (putSel_off rfl).trans rfl
            replace ha := Aside0.mk ha
            have BK189 := Aside0.mk Q_BK189
            have BK190 := Aside0.mk Q_BK190
            have BK191 := Aside0.mk Q_BK191
            have BK192 := Aside0.mk Q_BK192
            have BK224 := Aside0.mk Q_BK224
            have BK225 := Aside0.mk Q_BK225
            have HB := Aside0.mk Q_HB
            have hc0_ : w'.cell? ⟨gb189, 0, none⟩ = some (.int .i64 a0_0) := (blk_cell BK189.out 0).trans rfl
            have hc1_ : w'.cell? ⟨gb189, 1, none⟩ = some (.int .i64 a0_1) := (blk_cell BK189.out 1).trans rfl
            have hc2_ : w'.cell? ⟨gb189, 2, none⟩ = some (.int .i64 a0_2) := (blk_cell BK189.out 2).trans rfl
            have hc3_ : w'.cell? ⟨gb189, 3, none⟩ = some (.int .i64 a0_3) := (blk_cell BK189.out 3).trans rfl
            have hc4_ : w'.cell? ⟨gb189, 4, none⟩ = some (.int .i64 a0_4) := (blk_cell BK189.out 4).trans rfl
            have hc5_ : w'.cell? ⟨gb189, 5, none⟩ = some (.int .i64 a0_5) := (blk_cell BK189.out 5).trans rfl
            have hc6_ : w'.cell? ⟨gb189, 6, none⟩ = some (.int .i64 a0_6) := (blk_cell BK189.out 6).trans rfl
            refine value_ (w1 := w') (v := .agg #[.int .i64 a0_0, .int .i64 a0_1, .int .i64 a0_2, .int .i64 a0_3, .int .i64 a0_4, .int .i64 a0_5, .int .i64 a0_6]) (by rfl) rfl ?_ ?_
            · go_simp
              (try simp only [i64_w])
              try rfl
            refine hK.out _ _ ⟨gb257, gb258, m16_, m17_, (by rw [ha.out]; exact putSel_upk 0 hb_ rfl rfl rfl), Q_BK189, Q_BK190, Q_BK191, Q_BK192, Q_BK224, Q_BK225, Q_HB, Q_NB258_257, Q_NB257_258, Q_BK257, Q_GW257, Q_GE257, Q_NB189_257, Q_NB257_189, Q_NB190_257, Q_NB257_190, Q_NB191_257, Q_NB257_191, Q_NB192_257, Q_NB257_192, Q_NB224_257, Q_NB257_224, Q_NB225_257, Q_NB257_225, Q_BK258, Q_GW258, Q_GE258, Q_NB189_258, Q_NB258_189, Q_NB190_258, Q_NB258_190, Q_NB191_258, Q_NB258_191, Q_NB192_258, Q_NB258_192, Q_NB224_258, Q_NB258_224, Q_NB225_258, Q_NB258_225, fun h0_ => absurd ((hoff 18 (by kernel_rfl)).symm.trans h0_) (by decide), fun h0_ => absurd ((hoff 19 (by kernel_rfl)).symm.trans h0_) (by decide), Q_X16_, Q_X17_⟩
          refine steps_cons ?_ ?_
          · rintro b a w' ⟨gb257, gb258, m16_, m17_, ha, Q_BK189, Q_BK190, Q_BK191, Q_BK192, Q_BK224, Q_BK225, Q_HB, Q_NB258_257, Q_NB257_258, Q_BK257, Q_GW257, Q_GE257, Q_NB189_257, Q_NB257_189, Q_NB190_257, Q_NB257_190, Q_NB191_257, Q_NB257_191, Q_NB192_257, Q_NB257_192, Q_NB224_257, Q_NB257_224, Q_NB225_257, Q_NB257_225, Q_BK258, Q_GW258, Q_GE258, Q_NB189_258, Q_NB258_189, Q_NB190_258, Q_NB258_190, Q_NB191_258, Q_NB258_191, Q_NB192_258, Q_NB258_192, Q_NB224_258, Q_NB258_224, Q_NB225_258, Q_NB258_225, Q_BK257_e18, Q_BK258_e19, Q_X16_, Q_X17_⟩ hb_ hon hoff
            refine ⟨_, rfl, fun K hK => ?_⟩
            have e38 : a.tmps[38]? = some (.agg #[.int .i64 a0_0, .int .i64 a0_1, .int .i64 a0_2, .int .i64 a0_3, .int .i64 a0_4, .int .i64 a0_5, .int .i64 a0_6]) := by rw [ha]; exact putSel_on (e := (0, 38, .agg #[.int .i64 a0_0, .int .i64 a0_1, .int .i64 a0_2, .int .i64 a0_3, .int .i64 a0_4, .int .i64 a0_5, .int .i64 a0_6])) 0 rfl rfl (hon 0 (by kernel_rfl)) rfl
            replace ha := Aside0.mk ha
            have BK189 := Aside0.mk Q_BK189
            have BK190 := Aside0.mk Q_BK190
            have BK191 := Aside0.mk Q_BK191
            have BK192 := Aside0.mk Q_BK192
            have BK224 := Aside0.mk Q_BK224
            have BK225 := Aside0.mk Q_BK225
            have HB := Aside0.mk Q_HB
            refine goes_ Try.func18 (by kernel_rfl) rfl #[.agg #[.int .i64 a0_0, .int .i64 a0_1, .int .i64 a0_2, .int .i64 a0_3, .int .i64 a0_4, .int .i64 a0_5, .int .i64 a0_6]] (by rfl) rfl rfl (by first | (simp only [List.map_toArray, List.map_cons, List.map_nil, Act.eval, Array.getD_eq_getD_getElem?, Option.getD_some, e38]; done) | (simp only [List.map_toArray, List.map_cons, List.map_nil, Act.eval, Array.getD_eq_getD_getElem?, Option.getD_some, e38]; rfl)) ?_
            with_reducible refine (laws_toLoop.calls a0_0 a0_1 a0_2 a0_3 a0_4 a0_5 a0_6 t226 t227 t228 t229 t230 t231 t232 _ A13.out).mono ?_
            rintro e w45 ⟨rfl, hb⟩
            refine ⟨_, rfl, ?_⟩
            have n0_ := Aside0.mk (blk_below (g := gb189) (o := .cells #[.int .i64 a0_0, .int .i64 a0_1, .int .i64 a0_2, .int .i64 a0_3, .int .i64 a0_4, .int .i64 a0_5, .int .i64 a0_6] 33 (0, 0)) (by (with_reducible repeat (first | refine blk_drewN ?_ _ | refine blk_drew ?_ | refine blk_alloc ?_ _)); exact BK189.out) hb)
            have n1_ := Aside0.mk (blk_below (g := gb190) (o := .cells #[.int .i64 a1_0, .int .i64 a1_1, .int .i64 a1_2, .int .i64 a1_3, .int .i64 a1_4, .int .i64 a1_5, .int .i64 a1_6] 33 (0, 0)) (by (with_reducible repeat (first | refine blk_drewN ?_ _ | refine blk_drew ?_ | refine blk_alloc ?_ _)); exact BK190.out) hb)
            have n2_ := Aside0.mk (blk_below (g := gb191) (o := .cells #[.bool a2_0, .int .i64 a2_1, .int .i64 a2_2, .int .i64 a2_3] 35 (0, 0)) (by (with_reducible repeat (first | refine blk_drewN ?_ _ | refine blk_drew ?_ | refine blk_alloc ?_ _)); exact BK191.out) hb)
            have n3_ := Aside0.mk (blk_below (g := gb192) (o := .cells #[.bool a3_0, .int .i64 a3_1, .int .i64 a3_2, .int .i64 a3_3] 35 (0, 0)) (by (with_reducible repeat (first | refine blk_drewN ?_ _ | refine blk_drew ?_ | refine blk_alloc ?_ _)); exact BK192.out) hb)
            have n4_ := Aside0.mk (blk_below (g := gb224) (o := .cells #[.bool t215, .int .i64 t216, .int .i64 t217, .int .i64 t218] 36 (0, 0)) (by (with_reducible repeat (first | refine blk_drewN ?_ _ | refine blk_drew ?_ | refine blk_alloc ?_ _)); exact BK224.out) hb)
            have n5_ := Aside0.mk (blk_below (g := gb225) (o := .cells #[.bool t219, .int .i64 t220, .int .i64 t221, .int .i64 t222] 36 (0, 0)) (by (with_reducible repeat (first | refine blk_drewN ?_ _ | refine blk_drew ?_ | refine blk_alloc ?_ _)); exact BK225.out) hb)
            have n6_ := Aside0.mk (below_step (by repeat (first | (with_reducible first | exact HB.out | apply below_alloc | apply pw_below_drewN | apply below_drew1 | refine below_set ?_ GE189.out | refine below_set ?_ GE190.out | refine below_set ?_ GE191.out | refine below_set ?_ GE192.out | refine below_set ?_ GE224.out | refine below_set ?_ GE225.out) | exact HB.out)) hb)
            have z_BK257 := fun (h0_ : b 16 = true) (h1_ : b 18 = false) => (show w45.heap[gb257]? = some (.cells #[.bool false, .int .i64 0, .int .i64 0, .int .i64 0] 36 (0, 0)) from by first | exact (blk_below (g := gb257) (o := .cells #[.bool false, .int .i64 0, .int .i64 0, .int .i64 0] 36 (0, 0)) (by (with_reducible repeat (first | refine blk_drewN ?_ _ | refine blk_drew ?_ | refine blk_alloc ?_ _)); exact (Q_BK257 h0_ h1_)) hb))
            have z_BK258 := fun (h0_ : b 17 = true) (h1_ : b 19 = false) => (show w45.heap[gb258]? = some (.cells #[.bool false, .int .i64 0, .int .i64 0, .int .i64 0] 36 (0, 0)) from by first | exact (blk_below (g := gb258) (o := .cells #[.bool false, .int .i64 0, .int .i64 0, .int .i64 0] 36 (0, 0)) (by (with_reducible repeat (first | refine blk_drewN ?_ _ | refine blk_drew ?_ | refine blk_alloc ?_ _)); exact (Q_BK258 h0_ h1_)) hb))
            clear BK189
            clear BK190
            clear BK191
            clear BK192
            clear BK224
            clear BK225
            clear HB
            have BK189 := n0_
            have BK190 := n1_
            have BK191 := n2_
            have BK192 := n3_
            have BK224 := n4_
            have BK225 := n5_
            have HB := n6_
            clear n0_ n1_ n2_ n3_ n4_ n5_ n6_
            (try clear hb)
            (try clear hb2)
            (try clear hk)
            (try clear hi)
            refine hK.out _ _ ⟨gb257, gb258, m16_, m17_, (by rw [ha.out]; exact putSel_upk 1 hb_ rfl rfl rfl), (by (with_reducible repeat (first | refine blk_drewN ?_ _ | refine blk_drew ?_ | refine blk_alloc ?_ _)); exact BK189.out), (by (with_reducible repeat (first | refine blk_drewN ?_ _ | refine blk_drew ?_ | refine blk_alloc ?_ _)); exact BK190.out), (by (with_reducible repeat (first | refine blk_drewN ?_ _ | refine blk_drew ?_ | refine blk_alloc ?_ _)); exact BK191.out), (by (with_reducible repeat (first | refine blk_drewN ?_ _ | refine blk_drew ?_ | refine blk_alloc ?_ _)); exact BK192.out), (by (with_reducible repeat (first | refine blk_drewN ?_ _ | refine blk_drew ?_ | refine blk_alloc ?_ _)); exact BK224.out), (by (with_reducible repeat (first | refine blk_drewN ?_ _ | refine blk_drew ?_ | refine blk_alloc ?_ _)); exact BK225.out), (by repeat (first | (with_reducible first | exact HB.out | apply below_alloc | apply pw_below_drewN | apply below_drew1 | refine below_set ?_ GE189.out | refine below_set ?_ GE190.out | refine below_set ?_ GE191.out | refine below_set ?_ GE192.out | refine below_set ?_ GE224.out | refine below_set ?_ GE225.out) | exact HB.out)), Q_NB258_257, Q_NB257_258, z_BK257, Q_GW257, Q_GE257, Q_NB189_257, Q_NB257_189, Q_NB190_257, Q_NB257_190, Q_NB191_257, Q_NB257_191, Q_NB192_257, Q_NB257_192, Q_NB224_257, Q_NB257_224, Q_NB225_257, Q_NB257_225, z_BK258, Q_GW258, Q_GE258, Q_NB189_258, Q_NB258_189, Q_NB190_258, Q_NB258_190, Q_NB191_258, Q_NB258_191, Q_NB192_258, Q_NB258_192, Q_NB224_258, Q_NB258_224, Q_NB225_258, Q_NB258_225, fun h0_ => absurd ((hoff 18 (by kernel_rfl)).symm.trans h0_) (by decide), fun h0_ => absurd ((hoff 19 (by kernel_rfl)).symm.trans h0_) (by decide), Q_X16_, Q_X17_⟩
          refine steps_cons ?_ ?_
          · rintro b a w' ⟨gb257, gb258, m16_, m17_, ha, Q_BK189, Q_BK190, Q_BK191, Q_BK192, Q_BK224, Q_BK225, Q_HB, Q_NB258_257, Q_NB257_258, Q_BK257, Q_GW257, Q_GE257, Q_NB189_257, Q_NB257_189, Q_NB190_257, Q_NB257_190, Q_NB191_257, Q_NB257_191, Q_NB192_257, Q_NB257_192, Q_NB224_257, Q_NB257_224, Q_NB225_257, Q_NB257_225, Q_BK258, Q_GW258, Q_GE258, Q_NB189_258, Q_NB258_189, Q_NB190_258, Q_NB258_190, Q_NB191_258, Q_NB258_191, Q_NB192_258, Q_NB258_192, Q_NB224_258, Q_NB258_224, Q_NB225_258, Q_NB258_225, Q_BK257_e18, Q_BK258_e19, Q_X16_, Q_X17_⟩ hb_ hon hoff
            refine ⟨_, rfl, fun K hK => ?_⟩
            have e8 : a.tmps[8]? = some (.pointer (some ⟨gb190, 0, none⟩)) := by rw [ha]; exact (putSel_off rfl).trans rfl
            replace ha := Aside0.mk ha
            have BK189 := Aside0.mk Q_BK189
            have BK190 := Aside0.mk Q_BK190
            have BK191 := Aside0.mk Q_BK191
            have BK192 := Aside0.mk Q_BK192
            have BK224 := Aside0.mk Q_BK224
            have BK225 := Aside0.mk Q_BK225
            have HB := Aside0.mk Q_HB
            have hc0_ : w'.cell? ⟨gb190, 0, none⟩ = some (.int .i64 a1_0) := (blk_cell BK190.out 0).trans rfl
            have hc1_ : w'.cell? ⟨gb190, 1, none⟩ = some (.int .i64 a1_1) := (blk_cell BK190.out 1).trans rfl
            have hc2_ : w'.cell? ⟨gb190, 2, none⟩ = some (.int .i64 a1_2) := (blk_cell BK190.out 2).trans rfl
            have hc3_ : w'.cell? ⟨gb190, 3, none⟩ = some (.int .i64 a1_3) := (blk_cell BK190.out 3).trans rfl
            have hc4_ : w'.cell? ⟨gb190, 4, none⟩ = some (.int .i64 a1_4) := (blk_cell BK190.out 4).trans rfl
            have hc5_ : w'.cell? ⟨gb190, 5, none⟩ = some (.int .i64 a1_5) := (blk_cell BK190.out 5).trans rfl
            have hc6_ : w'.cell? ⟨gb190, 6, none⟩ = some (.int .i64 a1_6) := (blk_cell BK190.out 6).trans rfl
            refine value_ (w1 := w') (v := .agg #[.int .i64 a1_0, .int .i64 a1_1, .int .i64 a1_2, .int .i64 a1_3, .int .i64 a1_4, .int .i64 a1_5, .int .i64 a1_6]) (by rfl) rfl ?_ ?_
            · go_simp
              (try simp only [i64_w])
              try rfl
            refine hK.out _ _ ⟨gb257, gb258, m16_, m17_, (by rw [ha.out]; exact putSel_upk 2 hb_ rfl rfl rfl), Q_BK189, Q_BK190, Q_BK191, Q_BK192, Q_BK224, Q_BK225, Q_HB, Q_NB258_257, Q_NB257_258, Q_BK257, Q_GW257, Q_GE257, Q_NB189_257, Q_NB257_189, Q_NB190_257, Q_NB257_190, Q_NB191_257, Q_NB257_191, Q_NB192_257, Q_NB257_192, Q_NB224_257, Q_NB257_224, Q_NB225_257, Q_NB257_225, Q_BK258, Q_GW258, Q_GE258, Q_NB189_258, Q_NB258_189, Q_NB190_258, Q_NB258_190, Q_NB191_258, Q_NB258_191, Q_NB192_258, Q_NB258_192, Q_NB224_258, Q_NB258_224, Q_NB225_258, Q_NB258_225, fun h0_ => absurd ((hoff 18 (by kernel_rfl)).symm.trans h0_) (by decide), fun h0_ => absurd ((hoff 19 (by kernel_rfl)).symm.trans h0_) (by decide), Q_X16_, Q_X17_⟩
          refine steps_cons ?_ ?_
          · rintro b a w' ⟨gb257, gb258, m16_, m17_, ha, Q_BK189, Q_BK190, Q_BK191, Q_BK192, Q_BK224, Q_BK225, Q_HB, Q_NB258_257, Q_NB257_258, Q_BK257, Q_GW257, Q_GE257, Q_NB189_257, Q_NB257_189, Q_NB190_257, Q_NB257_190, Q_NB191_257, Q_NB257_191, Q_NB192_257, Q_NB257_192, Q_NB224_257, Q_NB257_224, Q_NB225_257, Q_NB257_225, Q_BK258, Q_GW258, Q_GE258, Q_NB189_258, Q_NB258_189, Q_NB190_258, Q_NB258_190, Q_NB191_258, Q_NB258_191, Q_NB192_258, Q_NB258_192, Q_NB224_258, Q_NB258_224, Q_NB225_258, Q_NB258_225, Q_BK257_e18, Q_BK258_e19, Q_X16_, Q_X17_⟩ hb_ hon hoff
            refine ⟨_, rfl, fun K hK => ?_⟩
            have e40 : a.tmps[40]? = some (.agg #[.int .i64 a1_0, .int .i64 a1_1, .int .i64 a1_2, .int .i64 a1_3, .int .i64 a1_4, .int .i64 a1_5, .int .i64 a1_6]) := by rw [ha]; exact putSel_on (e := (2, 40, .agg #[.int .i64 a1_0, .int .i64 a1_1, .int .i64 a1_2, .int .i64 a1_3, .int .i64 a1_4, .int .i64 a1_5, .int .i64 a1_6])) 2 rfl rfl (hon 2 (by kernel_rfl)) rfl
            replace ha := Aside0.mk ha
            have BK189 := Aside0.mk Q_BK189
            have BK190 := Aside0.mk Q_BK190
            have BK191 := Aside0.mk Q_BK191
            have BK192 := Aside0.mk Q_BK192
            have BK224 := Aside0.mk Q_BK224
            have BK225 := Aside0.mk Q_BK225
            have HB := Aside0.mk Q_HB
            refine goes_ Try.func18 (by kernel_rfl) rfl #[.agg #[.int .i64 a1_0, .int .i64 a1_1, .int .i64 a1_2, .int .i64 a1_3, .int .i64 a1_4, .int .i64 a1_5, .int .i64 a1_6]] (by rfl) rfl rfl (by first | (simp only [List.map_toArray, List.map_cons, List.map_nil, Act.eval, Array.getD_eq_getD_getElem?, Option.getD_some, e40]; done) | (simp only [List.map_toArray, List.map_cons, List.map_nil, Act.eval, Array.getD_eq_getD_getElem?, Option.getD_some, e40]; rfl)) ?_
            with_reducible refine (laws_toLoop.calls a1_0 a1_1 a1_2 a1_3 a1_4 a1_5 a1_6 t233 t234 t235 t236 t237 t238 t239 _ A14.out).mono ?_
            rintro e w47 ⟨rfl, hb⟩
            refine ⟨_, rfl, ?_⟩
            have n0_ := Aside0.mk (blk_below (g := gb189) (o := .cells #[.int .i64 a0_0, .int .i64 a0_1, .int .i64 a0_2, .int .i64 a0_3, .int .i64 a0_4, .int .i64 a0_5, .int .i64 a0_6] 33 (0, 0)) (by (with_reducible repeat (first | refine blk_drewN ?_ _ | refine blk_drew ?_ | refine blk_alloc ?_ _)); exact BK189.out) hb)
            have n1_ := Aside0.mk (blk_below (g := gb190) (o := .cells #[.int .i64 a1_0, .int .i64 a1_1, .int .i64 a1_2, .int .i64 a1_3, .int .i64 a1_4, .int .i64 a1_5, .int .i64 a1_6] 33 (0, 0)) (by (with_reducible repeat (first | refine blk_drewN ?_ _ | refine blk_drew ?_ | refine blk_alloc ?_ _)); exact BK190.out) hb)
            have n2_ := Aside0.mk (blk_below (g := gb191) (o := .cells #[.bool a2_0, .int .i64 a2_1, .int .i64 a2_2, .int .i64 a2_3] 35 (0, 0)) (by (with_reducible repeat (first | refine blk_drewN ?_ _ | refine blk_drew ?_ | refine blk_alloc ?_ _)); exact BK191.out) hb)
            have n3_ := Aside0.mk (blk_below (g := gb192) (o := .cells #[.bool a3_0, .int .i64 a3_1, .int .i64 a3_2, .int .i64 a3_3] 35 (0, 0)) (by (with_reducible repeat (first | refine blk_drewN ?_ _ | refine blk_drew ?_ | refine blk_alloc ?_ _)); exact BK192.out) hb)
            have n4_ := Aside0.mk (blk_below (g := gb224) (o := .cells #[.bool t215, .int .i64 t216, .int .i64 t217, .int .i64 t218] 36 (0, 0)) (by (with_reducible repeat (first | refine blk_drewN ?_ _ | refine blk_drew ?_ | refine blk_alloc ?_ _)); exact BK224.out) hb)
            have n5_ := Aside0.mk (blk_below (g := gb225) (o := .cells #[.bool t219, .int .i64 t220, .int .i64 t221, .int .i64 t222] 36 (0, 0)) (by (with_reducible repeat (first | refine blk_drewN ?_ _ | refine blk_drew ?_ | refine blk_alloc ?_ _)); exact BK225.out) hb)
            have n6_ := Aside0.mk (below_step (by repeat (first | (with_reducible first | exact HB.out | apply below_alloc | apply pw_below_drewN | apply below_drew1 | refine below_set ?_ GE189.out | refine below_set ?_ GE190.out | refine below_set ?_ GE191.out | refine below_set ?_ GE192.out | refine below_set ?_ GE224.out | refine below_set ?_ GE225.out) | exact HB.out)) hb)
            have z_BK257 := fun (h0_ : b 16 = true) (h1_ : b 18 = false) => (show w47.heap[gb257]? = some (.cells #[.bool false, .int .i64 0, .int .i64 0, .int .i64 0] 36 (0, 0)) from by first | exact (blk_below (g := gb257) (o := .cells #[.bool false, .int .i64 0, .int .i64 0, .int .i64 0] 36 (0, 0)) (by (with_reducible repeat (first | refine blk_drewN ?_ _ | refine blk_drew ?_ | refine blk_alloc ?_ _)); exact (Q_BK257 h0_ h1_)) hb))
            have z_BK258 := fun (h0_ : b 17 = true) (h1_ : b 19 = false) => (show w47.heap[gb258]? = some (.cells #[.bool false, .int .i64 0, .int .i64 0, .int .i64 0] 36 (0, 0)) from by first | exact (blk_below (g := gb258) (o := .cells #[.bool false, .int .i64 0, .int .i64 0, .int .i64 0] 36 (0, 0)) (by (with_reducible repeat (first | refine blk_drewN ?_ _ | refine blk_drew ?_ | refine blk_alloc ?_ _)); exact (Q_BK258 h0_ h1_)) hb))
            clear BK189
            clear BK190
            clear BK191
            clear BK192
            clear BK224
            clear BK225
            clear HB
            have BK189 := n0_
            have BK190 := n1_
            have BK191 := n2_
            have BK192 := n3_
            have BK224 := n4_
            have BK225 := n5_
            have HB := n6_
            clear n0_ n1_ n2_ n3_ n4_ n5_ n6_
            (try clear hb)
            (try clear hb2)
            (try clear hk)
            (try clear hi)
            refine hK.out _ _ ⟨gb257, gb258, m16_, m17_, (by rw [ha.out]; exact putSel_upk 3 hb_ rfl rfl rfl), (by (with_reducible repeat (first | refine blk_drewN ?_ _ | refine blk_drew ?_ | refine blk_alloc ?_ _)); exact BK189.out), (by (with_reducible repeat (first | refine blk_drewN ?_ _ | refine blk_drew ?_ | refine blk_alloc ?_ _)); exact BK190.out), (by (with_reducible repeat (first | refine blk_drewN ?_ _ | refine blk_drew ?_ | refine blk_alloc ?_ _)); exact BK191.out), (by (with_reducible repeat (first | refine blk_drewN ?_ _ | refine blk_drew ?_ | refine blk_alloc ?_ _)); exact BK192.out), (by (with_reducible repeat (first | refine blk_drewN ?_ _ | refine blk_drew ?_ | refine blk_alloc ?_ _)); exact BK224.out), (by (with_reducible repeat (first | refine blk_drewN ?_ _ | refine blk_drew ?_ | refine blk_alloc ?_ _)); exact BK225.out), (by repeat (first | (with_reducible first | exact HB.out | apply below_alloc | apply pw_below_drewN | apply below_drew1 | refine below_set ?_ GE189.out | refine below_set ?_ GE190.out | refine below_set ?_ GE191.out | refine below_set ?_ GE192.out | refine below_set ?_ GE224.out | refine below_set ?_ GE225.out) | exact HB.out)), Q_NB258_257, Q_NB257_258, z_BK257, Q_GW257, Q_GE257, Q_NB189_257, Q_NB257_189, Q_NB190_257, Q_NB257_190, Q_NB191_257, Q_NB257_191, Q_NB192_257, Q_NB257_192, Q_NB224_257, Q_NB257_224, Q_NB225_257, Q_NB257_225, z_BK258, Q_GW258, Q_GE258, Q_NB189_258, Q_NB258_189, Q_NB190_258, Q_NB258_190, Q_NB191_258, Q_NB258_191, Q_NB192_258, Q_NB258_192, Q_NB224_258, Q_NB258_224, Q_NB225_258, Q_NB258_225, fun h0_ => absurd ((hoff 18 (by kernel_rfl)).symm.trans h0_) (by decide), fun h0_ => absurd ((hoff 19 (by kernel_rfl)).symm.trans h0_) (by decide), Q_X16_, Q_X17_⟩
          refine steps_cons ?_ ?_
          · rintro b a w' ⟨gb257, gb258, m16_, m17_, ha, Q_BK189, Q_BK190, Q_BK191, Q_BK192, Q_BK224, Q_BK225, Q_HB, Q_NB258_257, Q_NB257_258, Q_BK257, Q_GW257, Q_GE257, Q_NB189_257, Q_NB257_189, Q_NB190_257, Q_NB257_190, Q_NB191_257, Q_NB257_191, Q_NB192_257, Q_NB257_192, Q_NB224_257, Q_NB257_224, Q_NB225_257, Q_NB257_225, Q_BK258, Q_GW258, Q_GE258, Q_NB189_258, Q_NB258_189, Q_NB190_258, Q_NB258_190, Q_NB191_258, Q_NB258_191, Q_NB192_258, Q_NB258_192, Q_NB224_258, Q_NB258_224, Q_NB225_258, Q_NB258_225, Q_BK257_e18, Q_BK258_e19, Q_X16_, Q_X17_⟩ hb_ hon hoff
            refine ⟨_, rfl, fun K hK => ?_⟩
            have e9 : a.tmps[9]? = some (.pointer (some ⟨gb191, 0, none⟩)) := by rw [ha]; exact (putSel_off rfl).trans rfl
            replace ha := Aside0.mk ha
            have BK189 := Aside0.mk Q_BK189
            have BK190 := Aside0.mk Q_BK190
            have BK191 := Aside0.mk Q_BK191
            have BK192 := Aside0.mk Q_BK192
            have BK224 := Aside0.mk Q_BK224
            have BK225 := Aside0.mk Q_BK225
            have HB := Aside0.mk Q_HB
            have hc0_ : w'.cell? ⟨gb191, 0, none⟩ = some (.bool a2_0) := (blk_cell BK191.out 0).trans rfl
            have hc1_ : w'.cell? ⟨gb191, 1, none⟩ = some (.int .i64 a2_1) := (blk_cell BK191.out 1).trans rfl
            have hc2_ : w'.cell? ⟨gb191, 2, none⟩ = some (.int .i64 a2_2) := (blk_cell BK191.out 2).trans rfl
            have hc3_ : w'.cell? ⟨gb191, 3, none⟩ = some (.int .i64 a2_3) := (blk_cell BK191.out 3).trans rfl
            refine value_ (w1 := w') (v := .agg #[.bool a2_0, .int .i64 a2_1, .int .i64 a2_2, .int .i64 a2_3]) (by rfl) rfl ?_ ?_
            · go_simp
              (try simp only [i64_w])
              try rfl
            refine hK.out _ _ ⟨gb257, gb258, m16_, m17_, (by rw [ha.out]; exact putSel_upk 4 hb_ rfl rfl rfl), Q_BK189, Q_BK190, Q_BK191, Q_BK192, Q_BK224, Q_BK225, Q_HB, Q_NB258_257, Q_NB257_258, Q_BK257, Q_GW257, Q_GE257, Q_NB189_257, Q_NB257_189, Q_NB190_257, Q_NB257_190, Q_NB191_257, Q_NB257_191, Q_NB192_257, Q_NB257_192, Q_NB224_257, Q_NB257_224, Q_NB225_257, Q_NB257_225, Q_BK258, Q_GW258, Q_GE258, Q_NB189_258, Q_NB258_189, Q_NB190_258, Q_NB258_190, Q_NB191_258, Q_NB258_191, Q_NB192_258, Q_NB258_192, Q_NB224_258, Q_NB258_224, Q_NB225_258, Q_NB258_225, fun h0_ => absurd ((hoff 18 (by kernel_rfl)).symm.trans h0_) (by decide), fun h0_ => absurd ((hoff 19 (by kernel_rfl)).symm.trans h0_) (by decide), Q_X16_, Q_X17_⟩
          refine steps_cons ?_ ?_
          · rintro b a w' ⟨gb257, gb258, m16_, m17_, ha, Q_BK189, Q_BK190, Q_BK191, Q_BK192, Q_BK224, Q_BK225, Q_HB, Q_NB258_257, Q_NB257_258, Q_BK257, Q_GW257, Q_GE257, Q_NB189_257, Q_NB257_189, Q_NB190_257, Q_NB257_190, Q_NB191_257, Q_NB257_191, Q_NB192_257, Q_NB257_192, Q_NB224_257, Q_NB257_224, Q_NB225_257, Q_NB257_225, Q_BK258, Q_GW258, Q_GE258, Q_NB189_258, Q_NB258_189, Q_NB190_258, Q_NB258_190, Q_NB191_258, Q_NB258_191, Q_NB192_258, Q_NB258_192, Q_NB224_258, Q_NB258_224, Q_NB225_258, Q_NB258_225, Q_BK257_e18, Q_BK258_e19, Q_X16_, Q_X17_⟩ hb_ hon hoff
            refine ⟨_, rfl, fun K hK => ?_⟩
            have e42 : a.tmps[42]? = some (.agg #[.bool a2_0, .int .i64 a2_1, .int .i64 a2_2, .int .i64 a2_3]) := by rw [ha]; exact putSel_on (e := (4, 42, .agg #[.bool a2_0, .int .i64 a2_1, .int .i64 a2_2, .int .i64 a2_3])) 4 rfl rfl (hon 4 (by kernel_rfl)) rfl
            replace ha := Aside0.mk ha
            have BK189 := Aside0.mk Q_BK189
            have BK190 := Aside0.mk Q_BK190
            have BK191 := Aside0.mk Q_BK191
            have BK192 := Aside0.mk Q_BK192
            have BK224 := Aside0.mk Q_BK224
            have BK225 := Aside0.mk Q_BK225
            have HB := Aside0.mk Q_HB
            refine goes_ Try.func19 (by kernel_rfl) rfl #[.agg #[.bool a2_0, .int .i64 a2_1, .int .i64 a2_2, .int .i64 a2_3]] (by rfl) rfl rfl (by first | (simp only [List.map_toArray, List.map_cons, List.map_nil, Act.eval, Array.getD_eq_getD_getElem?, Option.getD_some, e42]; done) | (simp only [List.map_toArray, List.map_cons, List.map_nil, Act.eval, Array.getD_eq_getD_getElem?, Option.getD_some, e42]; rfl)) ?_
            with_reducible refine (laws_toHold.calls a2_0 a2_1 a2_2 a2_3 t240 t241 t242 t243 _ A15.out).mono ?_
            rintro e w48 ⟨rfl, hb⟩
            refine ⟨_, rfl, ?_⟩
            have n0_ := Aside0.mk (blk_below (g := gb189) (o := .cells #[.int .i64 a0_0, .int .i64 a0_1, .int .i64 a0_2, .int .i64 a0_3, .int .i64 a0_4, .int .i64 a0_5, .int .i64 a0_6] 33 (0, 0)) (by (with_reducible repeat (first | refine blk_drewN ?_ _ | refine blk_drew ?_ | refine blk_alloc ?_ _)); exact BK189.out) hb)
            have n1_ := Aside0.mk (blk_below (g := gb190) (o := .cells #[.int .i64 a1_0, .int .i64 a1_1, .int .i64 a1_2, .int .i64 a1_3, .int .i64 a1_4, .int .i64 a1_5, .int .i64 a1_6] 33 (0, 0)) (by (with_reducible repeat (first | refine blk_drewN ?_ _ | refine blk_drew ?_ | refine blk_alloc ?_ _)); exact BK190.out) hb)
            have n2_ := Aside0.mk (blk_below (g := gb191) (o := .cells #[.bool a2_0, .int .i64 a2_1, .int .i64 a2_2, .int .i64 a2_3] 35 (0, 0)) (by (with_reducible repeat (first | refine blk_drewN ?_ _ | refine blk_drew ?_ | refine blk_alloc ?_ _)); exact BK191.out) hb)
            have n3_ := Aside0.mk (blk_below (g := gb192) (o := .cells #[.bool a3_0, .int .i64 a3_1, .int .i64 a3_2, .int .i64 a3_3] 35 (0, 0)) (by (with_reducible repeat (first | refine blk_drewN ?_ _ | refine blk_drew ?_ | refine blk_alloc ?_ _)); exact BK192.out) hb)
            have n4_ := Aside0.mk (blk_below (g := gb224) (o := .cells #[.bool t215, .int .i64 t216, .int .i64 t217, .int .i64 t218] 36 (0, 0)) (by (with_reducible repeat (first | refine blk_drewN ?_ _ | refine blk_drew ?_ | refine blk_alloc ?_ _)); exact BK224.out) hb)
            have n5_ := Aside0.mk (blk_below (g := gb225) (o := .cells #[.bool t219, .int .i64 t220, .int .i64 t221, .int .i64 t222] 36 (0, 0)) (by (with_reducible repeat (first | refine blk_drewN ?_ _ | refine blk_drew ?_ | refine blk_alloc ?_ _)); exact BK225.out) hb)
            have n6_ := Aside0.mk (below_step (by repeat (first | (with_reducible first | exact HB.out | apply below_alloc | apply pw_below_drewN | apply below_drew1 | refine below_set ?_ GE189.out | refine below_set ?_ GE190.out | refine below_set ?_ GE191.out | refine below_set ?_ GE192.out | refine below_set ?_ GE224.out | refine below_set ?_ GE225.out) | exact HB.out)) hb)
            have z_BK257 := fun (h0_ : b 16 = true) (h1_ : b 18 = false) => (show w48.heap[gb257]? = some (.cells #[.bool false, .int .i64 0, .int .i64 0, .int .i64 0] 36 (0, 0)) from by first | exact (blk_below (g := gb257) (o := .cells #[.bool false, .int .i64 0, .int .i64 0, .int .i64 0] 36 (0, 0)) (by (with_reducible repeat (first | refine blk_drewN ?_ _ | refine blk_drew ?_ | refine blk_alloc ?_ _)); exact (Q_BK257 h0_ h1_)) hb))
            have z_BK258 := fun (h0_ : b 17 = true) (h1_ : b 19 = false) => (show w48.heap[gb258]? = some (.cells #[.bool false, .int .i64 0, .int .i64 0, .int .i64 0] 36 (0, 0)) from by first | exact (blk_below (g := gb258) (o := .cells #[.bool false, .int .i64 0, .int .i64 0, .int .i64 0] 36 (0, 0)) (by (with_reducible repeat (first | refine blk_drewN ?_ _ | refine blk_drew ?_ | refine blk_alloc ?_ _)); exact (Q_BK258 h0_ h1_)) hb))
            clear BK189
            clear BK190
            clear BK191
            clear BK192
            clear BK224
            clear BK225
            clear HB
            have BK189 := n0_
            have BK190 := n1_
            have BK191 := n2_
            have BK192 := n3_
            have BK224 := n4_
            have BK225 := n5_
            have HB := n6_
            clear n0_ n1_ n2_ n3_ n4_ n5_ n6_
            (try clear hb)
            (try clear hb2)
            (try clear hk)
            (try clear hi)
            refine hK.out _ _ ⟨gb257, gb258, m16_, m17_, (by rw [ha.out]; exact putSel_upk 5 hb_ rfl rfl rfl), (by (with_reducible repeat (first | refine blk_drewN ?_ _ | refine blk_drew ?_ | refine blk_alloc ?_ _)); exact BK189.out), (by (with_reducible repeat (first | refine blk_drewN ?_ _ | refine blk_drew ?_ | refine blk_alloc ?_ _)); exact BK190.out), (by (with_reducible repeat (first | refine blk_drewN ?_ _ | refine blk_drew ?_ | refine blk_alloc ?_ _)); exact BK191.out), (by (with_reducible repeat (first | refine blk_drewN ?_ _ | refine blk_drew ?_ | refine blk_alloc ?_ _)); exact BK192.out), (by (with_reducible repeat (first | refine blk_drewN ?_ _ | refine blk_drew ?_ | refine blk_alloc ?_ _)); exact BK224.out), (by (with_reducible repeat (first | refine blk_drewN ?_ _ | refine blk_drew ?_ | refine blk_alloc ?_ _)); exact BK225.out), (by repeat (first | (with_reducible first | exact HB.out | apply below_alloc | apply pw_below_drewN | apply below_drew1 | refine below_set ?_ GE189.out | refine below_set ?_ GE190.out | refine below_set ?_ GE191.out | refine below_set ?_ GE192.out | refine below_set ?_ GE224.out | refine below_set ?_ GE225.out) | exact HB.out)), Q_NB258_257, Q_NB257_258, z_BK257, Q_GW257, Q_GE257, Q_NB189_257, Q_NB257_189, Q_NB190_257, Q_NB257_190, Q_NB191_257, Q_NB257_191, Q_NB192_257, Q_NB257_192, Q_NB224_257, Q_NB257_224, Q_NB225_257, Q_NB257_225, z_BK258, Q_GW258, Q_GE258, Q_NB189_258, Q_NB258_189, Q_NB190_258, Q_NB258_190, Q_NB191_258, Q_NB258_191, Q_NB192_258, Q_NB258_192, Q_NB224_258, Q_NB258_224, Q_NB225_258, Q_NB258_225, fun h0_ => absurd ((hoff 18 (by kernel_rfl)).symm.trans h0_) (by decide), fun h0_ => absurd ((hoff 19 (by kernel_rfl)).symm.trans h0_) (by decide), Q_X16_, Q_X17_⟩
          refine steps_cons ?_ ?_
          · rintro b a w' ⟨gb257, gb258, m16_, m17_, ha, Q_BK189, Q_BK190, Q_BK191, Q_BK192, Q_BK224, Q_BK225, Q_HB, Q_NB258_257, Q_NB257_258, Q_BK257, Q_GW257, Q_GE257, Q_NB189_257, Q_NB257_189, Q_NB190_257, Q_NB257_190, Q_NB191_257, Q_NB257_191, Q_NB192_257, Q_NB257_192, Q_NB224_257, Q_NB257_224, Q_NB225_257, Q_NB257_225, Q_BK258, Q_GW258, Q_GE258, Q_NB189_258, Q_NB258_189, Q_NB190_258, Q_NB258_190, Q_NB191_258, Q_NB258_191, Q_NB192_258, Q_NB258_192, Q_NB224_258, Q_NB258_224, Q_NB225_258, Q_NB258_225, Q_BK257_e18, Q_BK258_e19, Q_X16_, Q_X17_⟩ hb_ hon hoff
            refine ⟨_, rfl, fun K hK => ?_⟩
            have e10 : a.tmps[10]? = some (.pointer (some ⟨gb192, 0, none⟩)) := by rw [ha]; exact (putSel_off rfl).trans rfl
            replace ha := Aside0.mk ha
            have BK189 := Aside0.mk Q_BK189
            have BK190 := Aside0.mk Q_BK190
            have BK191 := Aside0.mk Q_BK191
            have BK192 := Aside0.mk Q_BK192
            have BK224 := Aside0.mk Q_BK224
            have BK225 := Aside0.mk Q_BK225
            have HB := Aside0.mk Q_HB
            have hc0_ : w'.cell? ⟨gb192, 0, none⟩ = some (.bool a3_0) := (blk_cell BK192.out 0).trans rfl
            have hc1_ : w'.cell? ⟨gb192, 1, none⟩ = some (.int .i64 a3_1) := (blk_cell BK192.out 1).trans rfl
            have hc2_ : w'.cell? ⟨gb192, 2, none⟩ = some (.int .i64 a3_2) := (blk_cell BK192.out 2).trans rfl
            have hc3_ : w'.cell? ⟨gb192, 3, none⟩ = some (.int .i64 a3_3) := (blk_cell BK192.out 3).trans rfl
            refine value_ (w1 := w') (v := .agg #[.bool a3_0, .int .i64 a3_1, .int .i64 a3_2, .int .i64 a3_3]) (by rfl) rfl ?_ ?_
            · go_simp
              (try simp only [i64_w])
              try rfl
            refine hK.out _ _ ⟨gb257, gb258, m16_, m17_, (by rw [ha.out]; exact putSel_upk 6 hb_ rfl rfl rfl), Q_BK189, Q_BK190, Q_BK191, Q_BK192, Q_BK224, Q_BK225, Q_HB, Q_NB258_257, Q_NB257_258, Q_BK257, Q_GW257, Q_GE257, Q_NB189_257, Q_NB257_189, Q_NB190_257, Q_NB257_190, Q_NB191_257, Q_NB257_191, Q_NB192_257, Q_NB257_192, Q_NB224_257, Q_NB257_224, Q_NB225_257, Q_NB257_225, Q_BK258, Q_GW258, Q_GE258, Q_NB189_258, Q_NB258_189, Q_NB190_258, Q_NB258_190, Q_NB191_258, Q_NB258_191, Q_NB192_258, Q_NB258_192, Q_NB224_258, Q_NB258_224, Q_NB225_258, Q_NB258_225, fun h0_ => absurd ((hoff 18 (by kernel_rfl)).symm.trans h0_) (by decide), fun h0_ => absurd ((hoff 19 (by kernel_rfl)).symm.trans h0_) (by decide), Q_X16_, Q_X17_⟩
          refine steps_cons ?_ ?_
          · rintro b a w' ⟨gb257, gb258, m16_, m17_, ha, Q_BK189, Q_BK190, Q_BK191, Q_BK192, Q_BK224, Q_BK225, Q_HB, Q_NB258_257, Q_NB257_258, Q_BK257, Q_GW257, Q_GE257, Q_NB189_257, Q_NB257_189, Q_NB190_257, Q_NB257_190, Q_NB191_257, Q_NB257_191, Q_NB192_257, Q_NB257_192, Q_NB224_257, Q_NB257_224, Q_NB225_257, Q_NB257_225, Q_BK258, Q_GW258, Q_GE258, Q_NB189_258, Q_NB258_189, Q_NB190_258, Q_NB258_190, Q_NB191_258, Q_NB258_191, Q_NB192_258, Q_NB258_192, Q_NB224_258, Q_NB258_224, Q_NB225_258, Q_NB258_225, Q_BK257_e18, Q_BK258_e19, Q_X16_, Q_X17_⟩ hb_ hon hoff
            refine ⟨_, rfl, fun K hK => ?_⟩
            have e44 : a.tmps[44]? = some (.agg #[.bool a3_0, .int .i64 a3_1, .int .i64 a3_2, .int .i64 a3_3]) := by rw [ha]; exact putSel_on (e := (6, 44, .agg #[.bool a3_0, .int .i64 a3_1, .int .i64 a3_2, .int .i64 a3_3])) 6 rfl rfl (hon 6 (by kernel_rfl)) rfl
            replace ha := Aside0.mk ha
            have BK189 := Aside0.mk Q_BK189
            have BK190 := Aside0.mk Q_BK190
            have BK191 := Aside0.mk Q_BK191
            have BK192 := Aside0.mk Q_BK192
            have BK224 := Aside0.mk Q_BK224
            have BK225 := Aside0.mk Q_BK225
            have HB := Aside0.mk Q_HB
            refine goes_ Try.func19 (by kernel_rfl) rfl #[.agg #[.bool a3_0, .int .i64 a3_1, .int .i64 a3_2, .int .i64 a3_3]] (by rfl) rfl rfl (by first | (simp only [List.map_toArray, List.map_cons, List.map_nil, Act.eval, Array.getD_eq_getD_getElem?, Option.getD_some, e44]; done) | (simp only [List.map_toArray, List.map_cons, List.map_nil, Act.eval, Array.getD_eq_getD_getElem?, Option.getD_some, e44]; rfl)) ?_
            with_reducible refine (laws_toHold.calls a3_0 a3_1 a3_2 a3_3 t244 t245 t246 t247 _ A16.out).mono ?_
            rintro e w49 ⟨rfl, hb⟩
            refine ⟨_, rfl, ?_⟩
            have n0_ := Aside0.mk (blk_below (g := gb189) (o := .cells #[.int .i64 a0_0, .int .i64 a0_1, .int .i64 a0_2, .int .i64 a0_3, .int .i64 a0_4, .int .i64 a0_5, .int .i64 a0_6] 33 (0, 0)) (by (with_reducible repeat (first | refine blk_drewN ?_ _ | refine blk_drew ?_ | refine blk_alloc ?_ _)); exact BK189.out) hb)
            have n1_ := Aside0.mk (blk_below (g := gb190) (o := .cells #[.int .i64 a1_0, .int .i64 a1_1, .int .i64 a1_2, .int .i64 a1_3, .int .i64 a1_4, .int .i64 a1_5, .int .i64 a1_6] 33 (0, 0)) (by (with_reducible repeat (first | refine blk_drewN ?_ _ | refine blk_drew ?_ | refine blk_alloc ?_ _)); exact BK190.out) hb)
            have n2_ := Aside0.mk (blk_below (g := gb191) (o := .cells #[.bool a2_0, .int .i64 a2_1, .int .i64 a2_2, .int .i64 a2_3] 35 (0, 0)) (by (with_reducible repeat (first | refine blk_drewN ?_ _ | refine blk_drew ?_ | refine blk_alloc ?_ _)); exact BK191.out) hb)
            have n3_ := Aside0.mk (blk_below (g := gb192) (o := .cells #[.bool a3_0, .int .i64 a3_1, .int .i64 a3_2, .int .i64 a3_3] 35 (0, 0)) (by (with_reducible repeat (first | refine blk_drewN ?_ _ | refine blk_drew ?_ | refine blk_alloc ?_ _)); exact BK192.out) hb)
            have n4_ := Aside0.mk (blk_below (g := gb224) (o := .cells #[.bool t215, .int .i64 t216, .int .i64 t217, .int .i64 t218] 36 (0, 0)) (by (with_reducible repeat (first | refine blk_drewN ?_ _ | refine blk_drew ?_ | refine blk_alloc ?_ _)); exact BK224.out) hb)
            have n5_ := Aside0.mk (blk_below (g := gb225) (o := .cells #[.bool t219, .int .i64 t220, .int .i64 t221, .int .i64 t222] 36 (0, 0)) (by (with_reducible repeat (first | refine blk_drewN ?_ _ | refine blk_drew ?_ | refine blk_alloc ?_ _)); exact BK225.out) hb)
            have n6_ := Aside0.mk (below_step (by repeat (first | (with_reducible first | exact HB.out | apply below_alloc | apply pw_below_drewN | apply below_drew1 | refine below_set ?_ GE189.out | refine below_set ?_ GE190.out | refine below_set ?_ GE191.out | refine below_set ?_ GE192.out | refine below_set ?_ GE224.out | refine below_set ?_ GE225.out) | exact HB.out)) hb)
            have z_BK257 := fun (h0_ : b 16 = true) (h1_ : b 18 = false) => (show w49.heap[gb257]? = some (.cells #[.bool false, .int .i64 0, .int .i64 0, .int .i64 0] 36 (0, 0)) from by first | exact (blk_below (g := gb257) (o := .cells #[.bool false, .int .i64 0, .int .i64 0, .int .i64 0] 36 (0, 0)) (by (with_reducible repeat (first | refine blk_drewN ?_ _ | refine blk_drew ?_ | refine blk_alloc ?_ _)); exact (Q_BK257 h0_ h1_)) hb))
            have z_BK258 := fun (h0_ : b 17 = true) (h1_ : b 19 = false) => (show w49.heap[gb258]? = some (.cells #[.bool false, .int .i64 0, .int .i64 0, .int .i64 0] 36 (0, 0)) from by first | exact (blk_below (g := gb258) (o := .cells #[.bool false, .int .i64 0, .int .i64 0, .int .i64 0] 36 (0, 0)) (by (with_reducible repeat (first | refine blk_drewN ?_ _ | refine blk_drew ?_ | refine blk_alloc ?_ _)); exact (Q_BK258 h0_ h1_)) hb))
            clear BK189
            clear BK190
            clear BK191
            clear BK192
            clear BK224
            clear BK225
            clear HB
            have BK189 := n0_
            have BK190 := n1_
            have BK191 := n2_
            have BK192 := n3_
            have BK224 := n4_
            have BK225 := n5_
            have HB := n6_
            clear n0_ n1_ n2_ n3_ n4_ n5_ n6_
            (try clear hb)
            (try clear hb2)
            (try clear hk)
            (try clear hi)
            refine hK.out _ _ ⟨gb257, gb258, m16_, m17_, (by rw [ha.out]; exact putSel_upk 7 hb_ rfl rfl rfl), (by (with_reducible repeat (first | refine blk_drewN ?_ _ | refine blk_drew ?_ | refine blk_alloc ?_ _)); exact BK189.out), (by (with_reducible repeat (first | refine blk_drewN ?_ _ | refine blk_drew ?_ | refine blk_alloc ?_ _)); exact BK190.out), (by (with_reducible repeat (first | refine blk_drewN ?_ _ | refine blk_drew ?_ | refine blk_alloc ?_ _)); exact BK191.out), (by (with_reducible repeat (first | refine blk_drewN ?_ _ | refine blk_drew ?_ | refine blk_alloc ?_ _)); exact BK192.out), (by (with_reducible repeat (first | refine blk_drewN ?_ _ | refine blk_drew ?_ | refine blk_alloc ?_ _)); exact BK224.out), (by (with_reducible repeat (first | refine blk_drewN ?_ _ | refine blk_drew ?_ | refine blk_alloc ?_ _)); exact BK225.out), (by repeat (first | (with_reducible first | exact HB.out | apply below_alloc | apply pw_below_drewN | apply below_drew1 | refine below_set ?_ GE189.out | refine below_set ?_ GE190.out | refine below_set ?_ GE191.out | refine below_set ?_ GE192.out | refine below_set ?_ GE224.out | refine below_set ?_ GE225.out) | exact HB.out)), Q_NB258_257, Q_NB257_258, z_BK257, Q_GW257, Q_GE257, Q_NB189_257, Q_NB257_189, Q_NB190_257, Q_NB257_190, Q_NB191_257, Q_NB257_191, Q_NB192_257, Q_NB257_192, Q_NB224_257, Q_NB257_224, Q_NB225_257, Q_NB257_225, z_BK258, Q_GW258, Q_GE258, Q_NB189_258, Q_NB258_189, Q_NB190_258, Q_NB258_190, Q_NB191_258, Q_NB258_191, Q_NB192_258, Q_NB258_192, Q_NB224_258, Q_NB258_224, Q_NB225_258, Q_NB258_225, fun h0_ => absurd ((hoff 18 (by kernel_rfl)).symm.trans h0_) (by decide), fun h0_ => absurd ((hoff 19 (by kernel_rfl)).symm.trans h0_) (by decide), Q_X16_, Q_X17_⟩
          refine steps_cons ?_ ?_
          · rintro b a w' ⟨gb257, gb258, m16_, m17_, ha, Q_BK189, Q_BK190, Q_BK191, Q_BK192, Q_BK224, Q_BK225, Q_HB, Q_NB258_257, Q_NB257_258, Q_BK257, Q_GW257, Q_GE257, Q_NB189_257, Q_NB257_189, Q_NB190_257, Q_NB257_190, Q_NB191_257, Q_NB257_191, Q_NB192_257, Q_NB257_192, Q_NB224_257, Q_NB257_224, Q_NB225_257, Q_NB257_225, Q_BK258, Q_GW258, Q_GE258, Q_NB189_258, Q_NB258_189, Q_NB190_258, Q_NB258_190, Q_NB191_258, Q_NB258_191, Q_NB192_258, Q_NB258_192, Q_NB224_258, Q_NB258_224, Q_NB225_258, Q_NB258_225, Q_BK257_e18, Q_BK258_e19, Q_X16_, Q_X17_⟩ hb_ hon hoff
            refine ⟨_, rfl, fun K hK => ?_⟩
            have e39 : a.tmps[39]? = some (.agg #[.int .i64 t226, .int .i64 t227, .int .i64 t228, .int .i64 t229, .int .i64 t230, .int .i64 t231, .int .i64 t232]) := by rw [ha]; exact putSel_on (e := (1, 39, .agg #[.int .i64 t226, .int .i64 t227, .int .i64 t228, .int .i64 t229, .int .i64 t230, .int .i64 t231, .int .i64 t232])) 1 rfl rfl (hon 1 (by kernel_rfl)) rfl
            have e41 : a.tmps[41]? = some (.agg #[.int .i64 t233, .int .i64 t234, .int .i64 t235, .int .i64 t236, .int .i64 t237, .int .i64 t238, .int .i64 t239]) := by rw [ha]; exact putSel_on (e := (3, 41, .agg #[.int .i64 t233, .int .i64 t234, .int .i64 t235, .int .i64 t236, .int .i64 t237, .int .i64 t238, .int .i64 t239])) 3 rfl rfl (hon 3 (by kernel_rfl)) rfl
            have e43 : a.tmps[43]? = some (.agg #[.bool t240, .int .i64 t241, .int .i64 t242, .int .i64 t243]) := by rw [ha]; exact putSel_on (e := (5, 43, .agg #[.bool t240, .int .i64 t241, .int .i64 t242, .int .i64 t243])) 5 rfl rfl (hon 5 (by kernel_rfl)) rfl
            have e45 : a.tmps[45]? = some (.agg #[.bool t244, .int .i64 t245, .int .i64 t246, .int .i64 t247]) := by rw [ha]; exact putSel_on (e := (7, 45, .agg #[.bool t244, .int .i64 t245, .int .i64 t246, .int .i64 t247])) 7 rfl rfl (hon 7 (by kernel_rfl)) rfl
            have e46 : a.tmps[46]? = some (.int .i64 a4) := by rw [ha]; exact (putSel_off rfl).trans rfl
            have e47 : a.tmps[47]? = some (.int .i64 a5) := by rw [ha]; exact (putSel_off rfl).trans rfl
            have e48 : a.tmps[48]? = some (.int .i64 a6) := by rw [ha]; exact (putSel_off rfl).trans rfl
            replace ha := Aside0.mk ha
            have BK189 := Aside0.mk Q_BK189
            have BK190 := Aside0.mk Q_BK190
            have BK191 := Aside0.mk Q_BK191
            have BK192 := Aside0.mk Q_BK192
            have BK224 := Aside0.mk Q_BK224
            have BK225 := Aside0.mk Q_BK225
            have HB := Aside0.mk Q_HB
            refine goes_ Try.func23 (by kernel_rfl) rfl #[.agg #[.int .i64 t226, .int .i64 t227, .int .i64 t228, .int .i64 t229, .int .i64 t230, .int .i64 t231, .int .i64 t232], .agg #[.int .i64 t233, .int .i64 t234, .int .i64 t235, .int .i64 t236, .int .i64 t237, .int .i64 t238, .int .i64 t239], .agg #[.bool t240, .int .i64 t241, .int .i64 t242, .int .i64 t243], .agg #[.bool t244, .int .i64 t245, .int .i64 t246, .int .i64 t247], .int .i64 a4, .int .i64 a5, .int .i64 a6] (by rfl) rfl rfl (by first | (simp only [List.map_toArray, List.map_cons, List.map_nil, Act.eval, Array.getD_eq_getD_getElem?, Option.getD_some, e39, e41, e43, e45, e46, e47, e48]; done) | (simp only [List.map_toArray, List.map_cons, List.map_nil, Act.eval, Array.getD_eq_getD_getElem?, Option.getD_some, e39, e41, e43, e45, e46, e47, e48]; rfl)) ?_
            with_reducible refine (impl_CascadeStep.calls k t226 t227 t228 t229 t230 t231 t232 t233 t234 t235 t236 t237 t238 t239 t240 t241 t242 t243 t244 t245 t246 t247 a4 a5 a6 t248 t249 t250 t251 t252 t253 t254 t255 t256 _ A17.out).mono ?_
            rintro e w50 ⟨rfl, hb⟩
            refine ⟨_, rfl, ?_⟩
            have n0_ := Aside0.mk (blk_below (g := gb189) (o := .cells #[.int .i64 a0_0, .int .i64 a0_1, .int .i64 a0_2, .int .i64 a0_3, .int .i64 a0_4, .int .i64 a0_5, .int .i64 a0_6] 33 (0, 0)) (by (with_reducible repeat (first | refine blk_drewN ?_ _ | refine blk_drew ?_ | refine blk_alloc ?_ _)); exact BK189.out) hb)
            have n1_ := Aside0.mk (blk_below (g := gb190) (o := .cells #[.int .i64 a1_0, .int .i64 a1_1, .int .i64 a1_2, .int .i64 a1_3, .int .i64 a1_4, .int .i64 a1_5, .int .i64 a1_6] 33 (0, 0)) (by (with_reducible repeat (first | refine blk_drewN ?_ _ | refine blk_drew ?_ | refine blk_alloc ?_ _)); exact BK190.out) hb)
            have n2_ := Aside0.mk (blk_below (g := gb191) (o := .cells #[.bool a2_0, .int .i64 a2_1, .int .i64 a2_2, .int .i64 a2_3] 35 (0, 0)) (by (with_reducible repeat (first | refine blk_drewN ?_ _ | refine blk_drew ?_ | refine blk_alloc ?_ _)); exact BK191.out) hb)
            have n3_ := Aside0.mk (blk_below (g := gb192) (o := .cells #[.bool a3_0, .int .i64 a3_1, .int .i64 a3_2, .int .i64 a3_3] 35 (0, 0)) (by (with_reducible repeat (first | refine blk_drewN ?_ _ | refine blk_drew ?_ | refine blk_alloc ?_ _)); exact BK192.out) hb)
            have n4_ := Aside0.mk (blk_below (g := gb224) (o := .cells #[.bool t215, .int .i64 t216, .int .i64 t217, .int .i64 t218] 36 (0, 0)) (by (with_reducible repeat (first | refine blk_drewN ?_ _ | refine blk_drew ?_ | refine blk_alloc ?_ _)); exact BK224.out) hb)
            have n5_ := Aside0.mk (blk_below (g := gb225) (o := .cells #[.bool t219, .int .i64 t220, .int .i64 t221, .int .i64 t222] 36 (0, 0)) (by (with_reducible repeat (first | refine blk_drewN ?_ _ | refine blk_drew ?_ | refine blk_alloc ?_ _)); exact BK225.out) hb)
            have n6_ := Aside0.mk (below_step (by repeat (first | (with_reducible first | exact HB.out | apply below_alloc | apply pw_below_drewN | apply below_drew1 | refine below_set ?_ GE189.out | refine below_set ?_ GE190.out | refine below_set ?_ GE191.out | refine below_set ?_ GE192.out | refine below_set ?_ GE224.out | refine below_set ?_ GE225.out) | exact HB.out)) hb)
            have z_BK257 := fun (h0_ : b 16 = true) (h1_ : b 18 = false) => (show w50.heap[gb257]? = some (.cells #[.bool false, .int .i64 0, .int .i64 0, .int .i64 0] 36 (0, 0)) from by first | exact (blk_below (g := gb257) (o := .cells #[.bool false, .int .i64 0, .int .i64 0, .int .i64 0] 36 (0, 0)) (by (with_reducible repeat (first | refine blk_drewN ?_ _ | refine blk_drew ?_ | refine blk_alloc ?_ _)); exact (Q_BK257 h0_ h1_)) hb))
            have z_BK258 := fun (h0_ : b 17 = true) (h1_ : b 19 = false) => (show w50.heap[gb258]? = some (.cells #[.bool false, .int .i64 0, .int .i64 0, .int .i64 0] 36 (0, 0)) from by first | exact (blk_below (g := gb258) (o := .cells #[.bool false, .int .i64 0, .int .i64 0, .int .i64 0] 36 (0, 0)) (by (with_reducible repeat (first | refine blk_drewN ?_ _ | refine blk_drew ?_ | refine blk_alloc ?_ _)); exact (Q_BK258 h0_ h1_)) hb))
            clear BK189
            clear BK190
            clear BK191
            clear BK192
            clear BK224
            clear BK225
            clear HB
            have BK189 := n0_
            have BK190 := n1_
            have BK191 := n2_
            have BK192 := n3_
            have BK224 := n4_
            have BK225 := n5_
            have HB := n6_
            clear n0_ n1_ n2_ n3_ n4_ n5_ n6_
            (try clear hb)
            (try clear hb2)
            (try clear hk)
            (try clear hi)
            refine hK.out _ _ ⟨gb257, gb258, m16_, m17_, (by rw [ha.out]; exact putSel_upk 8 hb_ rfl rfl rfl), (by (with_reducible repeat (first | refine blk_drewN ?_ _ | refine blk_drew ?_ | refine blk_alloc ?_ _)); exact BK189.out), (by (with_reducible repeat (first | refine blk_drewN ?_ _ | refine blk_drew ?_ | refine blk_alloc ?_ _)); exact BK190.out), (by (with_reducible repeat (first | refine blk_drewN ?_ _ | refine blk_drew ?_ | refine blk_alloc ?_ _)); exact BK191.out), (by (with_reducible repeat (first | refine blk_drewN ?_ _ | refine blk_drew ?_ | refine blk_alloc ?_ _)); exact BK192.out), (by (with_reducible repeat (first | refine blk_drewN ?_ _ | refine blk_drew ?_ | refine blk_alloc ?_ _)); exact BK224.out), (by (with_reducible repeat (first | refine blk_drewN ?_ _ | refine blk_drew ?_ | refine blk_alloc ?_ _)); exact BK225.out), (by repeat (first | (with_reducible first | exact HB.out | apply below_alloc | apply pw_below_drewN | apply below_drew1 | refine below_set ?_ GE189.out | refine below_set ?_ GE190.out | refine below_set ?_ GE191.out | refine below_set ?_ GE192.out | refine below_set ?_ GE224.out | refine below_set ?_ GE225.out) | exact HB.out)), Q_NB258_257, Q_NB257_258, z_BK257, Q_GW257, Q_GE257, Q_NB189_257, Q_NB257_189, Q_NB190_257, Q_NB257_190, Q_NB191_257, Q_NB257_191, Q_NB192_257, Q_NB257_192, Q_NB224_257, Q_NB257_224, Q_NB225_257, Q_NB257_225, z_BK258, Q_GW258, Q_GE258, Q_NB189_258, Q_NB258_189, Q_NB190_258, Q_NB258_190, Q_NB191_258, Q_NB258_191, Q_NB192_258, Q_NB258_192, Q_NB224_258, Q_NB258_224, Q_NB225_258, Q_NB258_225, fun h0_ => absurd ((hoff 18 (by kernel_rfl)).symm.trans h0_) (by decide), fun h0_ => absurd ((hoff 19 (by kernel_rfl)).symm.trans h0_) (by decide), Q_X16_, Q_X17_⟩
          refine steps_cons ?_ ?_
          · rintro b a w' ⟨gb257, gb258, m16_, m17_, ha, Q_BK189, Q_BK190, Q_BK191, Q_BK192, Q_BK224, Q_BK225, Q_HB, Q_NB258_257, Q_NB257_258, Q_BK257, Q_GW257, Q_GE257, Q_NB189_257, Q_NB257_189, Q_NB190_257, Q_NB257_190, Q_NB191_257, Q_NB257_191, Q_NB192_257, Q_NB257_192, Q_NB224_257, Q_NB257_224, Q_NB225_257, Q_NB257_225, Q_BK258, Q_GW258, Q_GE258, Q_NB189_258, Q_NB258_189, Q_NB190_258, Q_NB258_190, Q_NB191_258, Q_NB258_191, Q_NB192_258, Q_NB258_192, Q_NB224_258, Q_NB258_224, Q_NB225_258, Q_NB258_225, Q_BK257_e18, Q_BK258_e19, Q_X16_, Q_X17_⟩ hb_ hon hoff
            refine ⟨_, rfl, fun K hK => ?_⟩
            have e49 : a.tmps[49]? = some (.tuple #[.agg #[.bool t248, .int .i64 t249, .int .i64 t250, .int .i64 t251], .agg #[.bool t252, .int .i64 t253, .int .i64 t254, .int .i64 t255], .bool t256]) := by rw [ha]; exact putSel_on (e := (11, 49, .tuple #[.agg #[.bool t248, .int .i64 t249, .int .i64 t250, .int .i64 t251], .agg #[.bool t252, .int .i64 t253, .int .i64 t254, .int .i64 t255], .bool t256])) 8 rfl rfl (hon 11 (by kernel_rfl)) rfl
            replace ha := Aside0.mk ha
            have BK189 := Aside0.mk Q_BK189
            have BK190 := Aside0.mk Q_BK190
            have BK191 := Aside0.mk Q_BK191
            have BK192 := Aside0.mk Q_BK192
            have BK224 := Aside0.mk Q_BK224
            have BK225 := Aside0.mk Q_BK225
            have HB := Aside0.mk Q_HB
            refine value_ (w1 := w') (v := .tuple #[.agg #[.bool t248, .int .i64 t249, .int .i64 t250, .int .i64 t251], .agg #[.bool t252, .int .i64 t253, .int .i64 t254, .int .i64 t255], .bool t256]) (by rfl) rfl ?_ ?_
            · go_simp
              (try simp only [i64_w])
              try rfl
            refine hK.out _ _ ⟨gb257, gb258, m16_, m17_, (by rw [ha.out]; exact putSel_upk 9 hb_ rfl rfl rfl), Q_BK189, Q_BK190, Q_BK191, Q_BK192, Q_BK224, Q_BK225, Q_HB, Q_NB258_257, Q_NB257_258, Q_BK257, Q_GW257, Q_GE257, Q_NB189_257, Q_NB257_189, Q_NB190_257, Q_NB257_190, Q_NB191_257, Q_NB257_191, Q_NB192_257, Q_NB257_192, Q_NB224_257, Q_NB257_224, Q_NB225_257, Q_NB257_225, Q_BK258, Q_GW258, Q_GE258, Q_NB189_258, Q_NB258_189, Q_NB190_258, Q_NB258_190, Q_NB191_258, Q_NB258_191, Q_NB192_258, Q_NB258_192, Q_NB224_258, Q_NB258_224, Q_NB225_258, Q_NB258_225, fun h0_ => absurd ((hoff 18 (by kernel_rfl)).symm.trans h0_) (by decide), fun h0_ => absurd ((hoff 19 (by kernel_rfl)).symm.trans h0_) (by decide), Q_X16_, Q_X17_⟩
          refine steps_cons ?_ ?_
          · rintro b a w' ⟨gb257, gb258, m16_, m17_, ha, Q_BK189, Q_BK190, Q_BK191, Q_BK192, Q_BK224, Q_BK225, Q_HB, Q_NB258_257, Q_NB257_258, Q_BK257, Q_GW257, Q_GE257, Q_NB189_257, Q_NB257_189, Q_NB190_257, Q_NB257_190, Q_NB191_257, Q_NB257_191, Q_NB192_257, Q_NB257_192, Q_NB224_257, Q_NB257_224, Q_NB225_257, Q_NB257_225, Q_BK258, Q_GW258, Q_GE258, Q_NB189_258, Q_NB258_189, Q_NB190_258, Q_NB258_190, Q_NB191_258, Q_NB258_191, Q_NB192_258, Q_NB258_192, Q_NB224_258, Q_NB258_224, Q_NB225_258, Q_NB258_225, Q_BK257_e18, Q_BK258_e19, Q_X16_, Q_X17_⟩ hb_ hon hoff
            refine ⟨_, rfl, fun K hK => ?_⟩
            have e37 : a.tmps[37]? = some (.tuple #[.agg #[.bool t248, .int .i64 t249, .int .i64 t250, .int .i64 t251], .agg #[.bool t252, .int .i64 t253, .int .i64 t254, .int .i64 t255], .bool t256]) := by rw [ha]; exact putSel_on (e := (12, 37, .tuple #[.agg #[.bool t248, .int .i64 t249, .int .i64 t250, .int .i64 t251], .agg #[.bool t252, .int .i64 t253, .int .i64 t254, .int .i64 t255], .bool t256])) 9 rfl rfl (hon 12 (by kernel_rfl)) rfl
            replace ha := Aside0.mk ha
            have BK189 := Aside0.mk Q_BK189
            have BK190 := Aside0.mk Q_BK190
            have BK191 := Aside0.mk Q_BK191
            have BK192 := Aside0.mk Q_BK192
            have BK224 := Aside0.mk Q_BK224
            have BK225 := Aside0.mk Q_BK225
            have HB := Aside0.mk Q_HB
            refine value_ (w1 := w') (v := .agg #[.bool t248, .int .i64 t249, .int .i64 t250, .int .i64 t251]) (by rfl) rfl ?_ ?_
            · go_simp
              (try simp only [i64_w])
              try rfl
            refine hK.out _ _ ⟨gb257, gb258, m16_, m17_, (by rw [ha.out]; exact putSel_upk 10 hb_ rfl rfl rfl), Q_BK189, Q_BK190, Q_BK191, Q_BK192, Q_BK224, Q_BK225, Q_HB, Q_NB258_257, Q_NB257_258, Q_BK257, Q_GW257, Q_GE257, Q_NB189_257, Q_NB257_189, Q_NB190_257, Q_NB257_190, Q_NB191_257, Q_NB257_191, Q_NB192_257, Q_NB257_192, Q_NB224_257, Q_NB257_224, Q_NB225_257, Q_NB257_225, Q_BK258, Q_GW258, Q_GE258, Q_NB189_258, Q_NB258_189, Q_NB190_258, Q_NB258_190, Q_NB191_258, Q_NB258_191, Q_NB192_258, Q_NB258_192, Q_NB224_258, Q_NB258_224, Q_NB225_258, Q_NB258_225, fun h0_ => absurd ((hoff 18 (by kernel_rfl)).symm.trans h0_) (by decide), fun h0_ => absurd ((hoff 19 (by kernel_rfl)).symm.trans h0_) (by decide), Q_X16_, Q_X17_⟩
          refine steps_cons ?_ ?_
          · rintro b a w' ⟨gb257, gb258, m16_, m17_, ha, Q_BK189, Q_BK190, Q_BK191, Q_BK192, Q_BK224, Q_BK225, Q_HB, Q_NB258_257, Q_NB257_258, Q_BK257, Q_GW257, Q_GE257, Q_NB189_257, Q_NB257_189, Q_NB190_257, Q_NB257_190, Q_NB191_257, Q_NB257_191, Q_NB192_257, Q_NB257_192, Q_NB224_257, Q_NB257_224, Q_NB225_257, Q_NB257_225, Q_BK258, Q_GW258, Q_GE258, Q_NB189_258, Q_NB258_189, Q_NB190_258, Q_NB258_190, Q_NB191_258, Q_NB258_191, Q_NB192_258, Q_NB258_192, Q_NB224_258, Q_NB258_224, Q_NB225_258, Q_NB258_225, Q_BK257_e18, Q_BK258_e19, Q_X16_, Q_X17_⟩ hb_ hon hoff
            refine ⟨_, rfl, fun K hK => ?_⟩
            have e37 : a.tmps[37]? = some (.tuple #[.agg #[.bool t248, .int .i64 t249, .int .i64 t250, .int .i64 t251], .agg #[.bool t252, .int .i64 t253, .int .i64 t254, .int .i64 t255], .bool t256]) := by rw [ha]; exact putSel_on (e := (12, 37, .tuple #[.agg #[.bool t248, .int .i64 t249, .int .i64 t250, .int .i64 t251], .agg #[.bool t252, .int .i64 t253, .int .i64 t254, .int .i64 t255], .bool t256])) 9 rfl rfl (hon 12 (by kernel_rfl)) rfl
            replace ha := Aside0.mk ha
            have BK189 := Aside0.mk Q_BK189
            have BK190 := Aside0.mk Q_BK190
            have BK191 := Aside0.mk Q_BK191
            have BK192 := Aside0.mk Q_BK192
            have BK224 := Aside0.mk Q_BK224
            have BK225 := Aside0.mk Q_BK225
            have HB := Aside0.mk Q_HB
            refine value_ (w1 := w') (v := .agg #[.bool t252, .int .i64 t253, .int .i64 t254, .int .i64 t255]) (by rfl) rfl ?_ ?_
            · go_simp
              (try simp only [i64_w])
              try rfl
            refine hK.out _ _ ⟨gb257, gb258, m16_, m17_, (by rw [ha.out]; exact putSel_upk 11 hb_ rfl rfl rfl), Q_BK189, Q_BK190, Q_BK191, Q_BK192, Q_BK224, Q_BK225, Q_HB, Q_NB258_257, Q_NB257_258, Q_BK257, Q_GW257, Q_GE257, Q_NB189_257, Q_NB257_189, Q_NB190_257, Q_NB257_190, Q_NB191_257, Q_NB257_191, Q_NB192_257, Q_NB257_192, Q_NB224_257, Q_NB257_224, Q_NB225_257, Q_NB257_225, Q_BK258, Q_GW258, Q_GE258, Q_NB189_258, Q_NB258_189, Q_NB190_258, Q_NB258_190, Q_NB191_258, Q_NB258_191, Q_NB192_258, Q_NB258_192, Q_NB224_258, Q_NB258_224, Q_NB225_258, Q_NB258_225, Q_BK257_e18, fun h0_ => absurd ((hoff 19 (by kernel_rfl)).symm.trans h0_) (by decide), Q_X16_, Q_X17_⟩
          refine steps_cons ?_ ?_
          · rintro b a w' ⟨gb257, gb258, m16_, m17_, ha, Q_BK189, Q_BK190, Q_BK191, Q_BK192, Q_BK224, Q_BK225, Q_HB, Q_NB258_257, Q_NB257_258, Q_BK257, Q_GW257, Q_GE257, Q_NB189_257, Q_NB257_189, Q_NB190_257, Q_NB257_190, Q_NB191_257, Q_NB257_191, Q_NB192_257, Q_NB257_192, Q_NB224_257, Q_NB257_224, Q_NB225_257, Q_NB257_225, Q_BK258, Q_GW258, Q_GE258, Q_NB189_258, Q_NB258_189, Q_NB190_258, Q_NB258_190, Q_NB191_258, Q_NB258_191, Q_NB192_258, Q_NB258_192, Q_NB224_258, Q_NB258_224, Q_NB225_258, Q_NB258_225, Q_BK257_e18, Q_BK258_e19, Q_X16_, Q_X17_⟩ hb_ hon hoff
            refine ⟨_, rfl, fun K hK => ?_⟩
            have e37 : a.tmps[37]? = some (.tuple #[.agg #[.bool t248, .int .i64 t249, .int .i64 t250, .int .i64 t251], .agg #[.bool t252, .int .i64 t253, .int .i64 t254, .int .i64 t255], .bool t256]) := by rw [ha]; exact putSel_on (e := (12, 37, .tuple #[.agg #[.bool t248, .int .i64 t249, .int .i64 t250, .int .i64 t251], .agg #[.bool t252, .int .i64 t253, .int .i64 t254, .int .i64 t255], .bool t256])) 9 rfl rfl (hon 12 (by kernel_rfl)) rfl
            replace ha := Aside0.mk ha
            have BK189 := Aside0.mk Q_BK189
            have BK190 := Aside0.mk Q_BK190
            have BK191 := Aside0.mk Q_BK191
            have BK192 := Aside0.mk Q_BK192
            have BK224 := Aside0.mk Q_BK224
            have BK225 := Aside0.mk Q_BK225
            have HB := Aside0.mk Q_HB
            refine value_ (w1 := w') (v := .bool t256) (by rfl) rfl ?_ ?_
            · go_simp
              (try simp only [i64_w])
              try rfl
            refine hK.out _ _ ⟨gb257, gb258, m16_, m17_, (by rw [ha.out]; exact putSel_upk 12 hb_ rfl rfl rfl), Q_BK189, Q_BK190, Q_BK191, Q_BK192, Q_BK224, Q_BK225, Q_HB, Q_NB258_257, Q_NB257_258, Q_BK257, Q_GW257, Q_GE257, Q_NB189_257, Q_NB257_189, Q_NB190_257, Q_NB257_190, Q_NB191_257, Q_NB257_191, Q_NB192_257, Q_NB257_192, Q_NB224_257, Q_NB257_224, Q_NB225_257, Q_NB257_225, Q_BK258, Q_GW258, Q_GE258, Q_NB189_258, Q_NB258_189, Q_NB190_258, Q_NB258_190, Q_NB191_258, Q_NB258_191, Q_NB192_258, Q_NB258_192, Q_NB224_258, Q_NB258_224, Q_NB225_258, Q_NB258_225, Q_BK257_e18, Q_BK258_e19, Q_X16_, Q_X17_⟩
          refine steps_cons ?_ ?_
          · rintro b a w' ⟨gb257, gb258, m16_, m17_, ha, Q_BK189, Q_BK190, Q_BK191, Q_BK192, Q_BK224, Q_BK225, Q_HB, Q_NB258_257, Q_NB257_258, Q_BK257, Q_GW257, Q_GE257, Q_NB189_257, Q_NB257_189, Q_NB190_257, Q_NB257_190, Q_NB191_257, Q_NB257_191, Q_NB192_257, Q_NB257_192, Q_NB224_257, Q_NB257_224, Q_NB225_257, Q_NB257_225, Q_BK258, Q_GW258, Q_GE258, Q_NB189_258, Q_NB258_189, Q_NB190_258, Q_NB258_190, Q_NB191_258, Q_NB258_191, Q_NB192_258, Q_NB258_192, Q_NB224_258, Q_NB258_224, Q_NB225_258, Q_NB258_225, Q_BK257_e18, Q_BK258_e19, Q_X16_, Q_X17_⟩ hb_ hon hoff
            refine ⟨_, rfl, fun K hK => ?_⟩
            replace ha := Aside0.mk ha
            have BK189 := Aside0.mk Q_BK189
            have BK190 := Aside0.mk Q_BK190
            have BK191 := Aside0.mk Q_BK191
            have BK192 := Aside0.mk Q_BK192
            have BK224 := Aside0.mk Q_BK224
            have BK225 := Aside0.mk Q_BK225
            have HB := Aside0.mk Q_HB
            refine box_step ?hg (N := 18) ?hd (cs := #[.bool false, .int .i64 0, .int .i64 0, .int .i64 0]) (t := 36) ?hr ?_; (case hd => rfl); (case hg => rfl); (case hr => first | (go_simp; done) | (go_simp; rfl))
            intro gb257 hg w45 hbox hb
            have n0_ := Aside0.mk (blk_below (g := gb189) (o := .cells #[.int .i64 a0_0, .int .i64 a0_1, .int .i64 a0_2, .int .i64 a0_3, .int .i64 a0_4, .int .i64 a0_5, .int .i64 a0_6] 33 (0, 0)) (by (with_reducible repeat (first | refine blk_drewN ?_ _ | refine blk_drew ?_ | refine blk_alloc ?_ _)); exact BK189.out) hb)
            have n1_ := Aside0.mk (blk_below (g := gb190) (o := .cells #[.int .i64 a1_0, .int .i64 a1_1, .int .i64 a1_2, .int .i64 a1_3, .int .i64 a1_4, .int .i64 a1_5, .int .i64 a1_6] 33 (0, 0)) (by (with_reducible repeat (first | refine blk_drewN ?_ _ | refine blk_drew ?_ | refine blk_alloc ?_ _)); exact BK190.out) hb)
            have n2_ := Aside0.mk (blk_below (g := gb191) (o := .cells #[.bool a2_0, .int .i64 a2_1, .int .i64 a2_2, .int .i64 a2_3] 35 (0, 0)) (by (with_reducible repeat (first | refine blk_drewN ?_ _ | refine blk_drew ?_ | refine blk_alloc ?_ _)); exact BK191.out) hb)
            have n3_ := Aside0.mk (blk_below (g := gb192) (o := .cells #[.bool a3_0, .int .i64 a3_1, .int .i64 a3_2, .int .i64 a3_3] 35 (0, 0)) (by (with_reducible repeat (first | refine blk_drewN ?_ _ | refine blk_drew ?_ | refine blk_alloc ?_ _)); exact BK192.out) hb)
            have n4_ := Aside0.mk (blk_below (g := gb224) (o := .cells #[.bool t215, .int .i64 t216, .int .i64 t217, .int .i64 t218] 36 (0, 0)) (by (with_reducible repeat (first | refine blk_drewN ?_ _ | refine blk_drew ?_ | refine blk_alloc ?_ _)); exact BK224.out) hb)
            have n5_ := Aside0.mk (blk_below (g := gb225) (o := .cells #[.bool t219, .int .i64 t220, .int .i64 t221, .int .i64 t222] 36 (0, 0)) (by (with_reducible repeat (first | refine blk_drewN ?_ _ | refine blk_drew ?_ | refine blk_alloc ?_ _)); exact BK225.out) hb)
            have n6_ := Aside0.mk (below_step (by repeat (first | (with_reducible first | exact HB.out | apply below_alloc | apply pw_below_drewN | apply below_drew1 | refine below_set ?_ GE189.out | refine below_set ?_ GE190.out | refine below_set ?_ GE191.out | refine below_set ?_ GE192.out | refine below_set ?_ GE224.out | refine below_set ?_ GE225.out) | exact HB.out)) hb)
            have n7_ := Aside0.mk (hbox)
            have n8_ := Aside0.mk ((by rw [hg]; exact (below_size (by repeat (first | (with_reducible first | exact HB.out | apply below_alloc | apply pw_below_drewN | apply below_drew1 | refine below_set ?_ GE189.out | refine below_set ?_ GE190.out | refine below_set ?_ GE191.out | refine below_set ?_ GE192.out | refine below_set ?_ GE224.out | refine below_set ?_ GE225.out) | exact HB.out))) : w.heap.size ≤ gb257))
            have n9_ := Aside0.mk ((by rw [hg]; exact (below_size (by repeat (first | (with_reducible first | exact HB.out | apply below_alloc | apply pw_below_drewN | apply below_drew1 | refine below_set ?_ GE189.out | refine below_set ?_ GE190.out | refine below_set ?_ GE191.out | refine below_set ?_ GE192.out | refine below_set ?_ GE224.out | refine below_set ?_ GE225.out) | exact HB.out))) : w.heap.size ≤ gb257))
            have n10_ := Aside0.mk ((by rw [hg]; exact Nat.ne_of_lt (blk_lt (g := gb189) (o := .cells #[.int .i64 a0_0, .int .i64 a0_1, .int .i64 a0_2, .int .i64 a0_3, .int .i64 a0_4, .int .i64 a0_5, .int .i64 a0_6] 33 (0, 0)) (by (with_reducible repeat (first | refine blk_drewN ?_ _ | refine blk_drew ?_ | refine blk_alloc ?_ _)); exact BK189.out)) : gb189 ≠ gb257))
            have n11_ := Aside0.mk ((by rw [hg]; exact Nat.ne_of_gt (blk_lt (g := gb189) (o := .cells #[.int .i64 a0_0, .int .i64 a0_1, .int .i64 a0_2, .int .i64 a0_3, .int .i64 a0_4, .int .i64 a0_5, .int .i64 a0_6] 33 (0, 0)) (by (with_reducible repeat (first | refine blk_drewN ?_ _ | refine blk_drew ?_ | refine blk_alloc ?_ _)); exact BK189.out)) : gb257 ≠ gb189))
            have n12_ := Aside0.mk ((by rw [hg]; exact Nat.ne_of_lt (blk_lt (g := gb190) (o := .cells #[.int .i64 a1_0, .int .i64 a1_1, .int .i64 a1_2, .int .i64 a1_3, .int .i64 a1_4, .int .i64 a1_5, .int .i64 a1_6] 33 (0, 0)) (by (with_reducible repeat (first | refine blk_drewN ?_ _ | refine blk_drew ?_ | refine blk_alloc ?_ _)); exact BK190.out)) : gb190 ≠ gb257))
            have n13_ := Aside0.mk ((by rw [hg]; exact Nat.ne_of_gt (blk_lt (g := gb190) (o := .cells #[.int .i64 a1_0, .int .i64 a1_1, .int .i64 a1_2, .int .i64 a1_3, .int .i64 a1_4, .int .i64 a1_5, .int .i64 a1_6] 33 (0, 0)) (by (with_reducible repeat (first | refine blk_drewN ?_ _ | refine blk_drew ?_ | refine blk_alloc ?_ _)); exact BK190.out)) : gb257 ≠ gb190))
            have n14_ := Aside0.mk ((by rw [hg]; exact Nat.ne_of_lt (blk_lt (g := gb191) (o := .cells #[.bool a2_0, .int .i64 a2_1, .int .i64 a2_2, .int .i64 a2_3] 35 (0, 0)) (by (with_reducible repeat (first | refine blk_drewN ?_ _ | refine blk_drew ?_ | refine blk_alloc ?_ _)); exact BK191.out)) : gb191 ≠ gb257))
            have n15_ := Aside0.mk ((by rw [hg]; exact Nat.ne_of_gt (blk_lt (g := gb191) (o := .cells #[.bool a2_0, .int .i64 a2_1, .int .i64 a2_2, .int .i64 a2_3] 35 (0, 0)) (by (with_reducible repeat (first | refine blk_drewN ?_ _ | refine blk_drew ?_ | refine blk_alloc ?_ _)); exact BK191.out)) : gb257 ≠ gb191))
            have n16_ := Aside0.mk ((by rw [hg]; exact Nat.ne_of_lt (blk_lt (g := gb192) (o := .cells #[.bool a3_0, .int .i64 a3_1, .int .i64 a3_2, .int .i64 a3_3] 35 (0, 0)) (by (with_reducible repeat (first | refine blk_drewN ?_ _ | refine blk_drew ?_ | refine blk_alloc ?_ _)); exact BK192.out)) : gb192 ≠ gb257))
            have n17_ := Aside0.mk ((by rw [hg]; exact Nat.ne_of_gt (blk_lt (g := gb192) (o := .cells #[.bool a3_0, .int .i64 a3_1, .int .i64 a3_2, .int .i64 a3_3] 35 (0, 0)) (by (with_reducible repeat (first | refine blk_drewN ?_ _ | refine blk_drew ?_ | refine blk_alloc ?_ _)); exact BK192.out)) : gb257 ≠ gb192))
            have n18_ := Aside0.mk ((by rw [hg]; exact Nat.ne_of_lt (blk_lt (g := gb224) (o := .cells #[.bool t215, .int .i64 t216, .int .i64 t217, .int .i64 t218] 36 (0, 0)) (by (with_reducible repeat (first | refine blk_drewN ?_ _ | refine blk_drew ?_ | refine blk_alloc ?_ _)); exact BK224.out)) : gb224 ≠ gb257))
            have n19_ := Aside0.mk ((by rw [hg]; exact Nat.ne_of_gt (blk_lt (g := gb224) (o := .cells #[.bool t215, .int .i64 t216, .int .i64 t217, .int .i64 t218] 36 (0, 0)) (by (with_reducible repeat (first | refine blk_drewN ?_ _ | refine blk_drew ?_ | refine blk_alloc ?_ _)); exact BK224.out)) : gb257 ≠ gb224))
            have n20_ := Aside0.mk ((by rw [hg]; exact Nat.ne_of_lt (blk_lt (g := gb225) (o := .cells #[.bool t219, .int .i64 t220, .int .i64 t221, .int .i64 t222] 36 (0, 0)) (by (with_reducible repeat (first | refine blk_drewN ?_ _ | refine blk_drew ?_ | refine blk_alloc ?_ _)); exact BK225.out)) : gb225 ≠ gb257))
            have n21_ := Aside0.mk ((by rw [hg]; exact Nat.ne_of_gt (blk_lt (g := gb225) (o := .cells #[.bool t219, .int .i64 t220, .int .i64 t221, .int .i64 t222] 36 (0, 0)) (by (with_reducible repeat (first | refine blk_drewN ?_ _ | refine blk_drew ?_ | refine blk_alloc ?_ _)); exact BK225.out)) : gb257 ≠ gb225))
            have z_NB258_257 := fun (h0_ : up b 16 16 = true) (h1_ : up b 16 17 = true) => (show gb258 ≠ gb257 from ((by rw [hg]; cases e_ : b 19 with | false => (refine Nat.ne_of_lt (blk_lt (g := gb258) (o := .cells #[.bool false, .int .i64 0, .int .i64 0, .int .i64 0] 36 (0, 0)) ?_); ((with_reducible repeat (first | refine blk_drewN ?_ _ | refine blk_drew ?_ | refine blk_alloc ?_ _)); exact (Q_BK258 h1_ e_))) | true => (refine Nat.ne_of_lt (blk_lt (g := gb258) (o := .cells #[.bool t252, .int .i64 t253, .int .i64 t254, .int .i64 t255] 36 (0, 0)) ?_); ((with_reducible repeat (first | refine blk_drewN ?_ _ | refine blk_drew ?_ | refine blk_alloc ?_ _)); exact (Q_BK258_e19 e_))) : gb258 ≠ gb257)))
            have z_NB257_258 := fun (h0_ : up b 16 16 = true) (h1_ : up b 16 17 = true) => (show gb257 ≠ gb258 from ((by rw [hg]; cases e_ : b 19 with | false => (refine Nat.ne_of_gt (blk_lt (g := gb258) (o := .cells #[.bool false, .int .i64 0, .int .i64 0, .int .i64 0] 36 (0, 0)) ?_); ((with_reducible repeat (first | refine blk_drewN ?_ _ | refine blk_drew ?_ | refine blk_alloc ?_ _)); exact (Q_BK258 h1_ e_))) | true => (refine Nat.ne_of_gt (blk_lt (g := gb258) (o := .cells #[.bool t252, .int .i64 t253, .int .i64 t254, .int .i64 t255] 36 (0, 0)) ?_); ((with_reducible repeat (first | refine blk_drewN ?_ _ | refine blk_drew ?_ | refine blk_alloc ?_ _)); exact (Q_BK258_e19 e_))) : gb257 ≠ gb258)))
            have z_BK258 := fun (h0_ : b 17 = true) (h1_ : b 19 = false) => (show w45.heap[gb258]? = some (.cells #[.bool false, .int .i64 0, .int .i64 0, .int .i64 0] 36 (0, 0)) from by first | exact (blk_below (g := gb258) (o := .cells #[.bool false, .int .i64 0, .int .i64 0, .int .i64 0] 36 (0, 0)) (by (with_reducible repeat (first | refine blk_drewN ?_ _ | refine blk_drew ?_ | refine blk_alloc ?_ _)); exact (Q_BK258 h0_ h1_)) hb))
            clear BK189
            clear BK190
            clear BK191
            clear BK192
            clear BK224
            clear BK225
            clear HB
            have BK189 := n0_
            have BK190 := n1_
            have BK191 := n2_
            have BK192 := n3_
            have BK224 := n4_
            have BK225 := n5_
            have HB := n6_
            have BK257 := n7_
            have GW257 := n8_
            have GE257 := n9_
            have NB189_257 := n10_
            have NB257_189 := n11_
            have NB190_257 := n12_
            have NB257_190 := n13_
            have NB191_257 := n14_
            have NB257_191 := n15_
            have NB192_257 := n16_
            have NB257_192 := n17_
            have NB224_257 := n18_
            have NB257_224 := n19_
            have NB225_257 := n20_
            have NB257_225 := n21_
            clear n0_ n1_ n2_ n3_ n4_ n5_ n6_ n7_ n8_ n9_ n10_ n11_ n12_ n13_ n14_ n15_ n16_ n17_ n18_ n19_ n20_ n21_
            clear hb hbox hg
            refine hK.out _ _ ⟨gb257, gb258, (.pointer (some ⟨gb257, 0, none⟩)), m17_, (by rw [ha.out]; exact putSel_upk 13 hb_ rfl rfl rfl), (by (with_reducible repeat (first | refine blk_drewN ?_ _ | refine blk_drew ?_ | refine blk_alloc ?_ _)); exact BK189.out), (by (with_reducible repeat (first | refine blk_drewN ?_ _ | refine blk_drew ?_ | refine blk_alloc ?_ _)); exact BK190.out), (by (with_reducible repeat (first | refine blk_drewN ?_ _ | refine blk_drew ?_ | refine blk_alloc ?_ _)); exact BK191.out), (by (with_reducible repeat (first | refine blk_drewN ?_ _ | refine blk_drew ?_ | refine blk_alloc ?_ _)); exact BK192.out), (by (with_reducible repeat (first | refine blk_drewN ?_ _ | refine blk_drew ?_ | refine blk_alloc ?_ _)); exact BK224.out), (by (with_reducible repeat (first | refine blk_drewN ?_ _ | refine blk_drew ?_ | refine blk_alloc ?_ _)); exact BK225.out), (by repeat (first | (with_reducible first | exact HB.out | apply below_alloc | apply pw_below_drewN | apply below_drew1 | refine below_set ?_ GE189.out | refine below_set ?_ GE190.out | refine below_set ?_ GE191.out | refine below_set ?_ GE192.out | refine below_set ?_ GE224.out | refine below_set ?_ GE225.out | refine below_set ?_ GE257.out) | exact HB.out)), z_NB258_257, z_NB257_258, fun _ _ => (by (with_reducible repeat (first | refine blk_drewN ?_ _ | refine blk_drew ?_ | refine blk_alloc ?_ _)); exact BK257.out), fun _ => GW257.out, fun _ => GE257.out, fun _ => NB189_257.out, fun _ => NB257_189.out, fun _ => NB190_257.out, fun _ => NB257_190.out, fun _ => NB191_257.out, fun _ => NB257_191.out, fun _ => NB192_257.out, fun _ => NB257_192.out, fun _ => NB224_257.out, fun _ => NB257_224.out, fun _ => NB225_257.out, fun _ => NB257_225.out, z_BK258, Q_GW258, Q_GE258, Q_NB189_258, Q_NB258_189, Q_NB190_258, Q_NB258_190, Q_NB191_258, Q_NB258_191, Q_NB192_258, Q_NB258_192, Q_NB224_258, Q_NB258_224, Q_NB225_258, Q_NB258_225, fun h0_ => absurd ((hoff 18 (by kernel_rfl)).symm.trans h0_) (by decide), fun h0_ => absurd ((hoff 19 (by kernel_rfl)).symm.trans h0_) (by decide), fun _ => rfl, Q_X17_⟩
          refine steps_cons ?_ ?_
          · rintro b a w' ⟨gb257, gb258, m16_, m17_, ha, Q_BK189, Q_BK190, Q_BK191, Q_BK192, Q_BK224, Q_BK225, Q_HB, Q_NB258_257, Q_NB257_258, Q_BK257, Q_GW257, Q_GE257, Q_NB189_257, Q_NB257_189, Q_NB190_257, Q_NB257_190, Q_NB191_257, Q_NB257_191, Q_NB192_257, Q_NB257_192, Q_NB224_257, Q_NB257_224, Q_NB225_257, Q_NB257_225, Q_BK258, Q_GW258, Q_GE258, Q_NB189_258, Q_NB258_189, Q_NB190_258, Q_NB258_190, Q_NB191_258, Q_NB258_191, Q_NB192_258, Q_NB258_192, Q_NB224_258, Q_NB258_224, Q_NB225_258, Q_NB258_225, Q_BK257_e18, Q_BK258_e19, Q_X16_, Q_X17_⟩ hb_ hon hoff
            refine ⟨_, rfl, fun K hK => ?_⟩
            replace ha := Aside0.mk ha
            have BK189 := Aside0.mk Q_BK189
            have BK190 := Aside0.mk Q_BK190
            have BK191 := Aside0.mk Q_BK191
            have BK192 := Aside0.mk Q_BK192
            have BK224 := Aside0.mk Q_BK224
            have BK225 := Aside0.mk Q_BK225
            have HB := Aside0.mk Q_HB
            refine box_step ?hg (N := 19) ?hd (cs := #[.bool false, .int .i64 0, .int .i64 0, .int .i64 0]) (t := 36) ?hr ?_; (case hd => rfl); (case hg => rfl); (case hr => first | (go_simp; done) | (go_simp; rfl))
            intro gb258 hg w45 hbox hb
            have n0_ := Aside0.mk (blk_below (g := gb189) (o := .cells #[.int .i64 a0_0, .int .i64 a0_1, .int .i64 a0_2, .int .i64 a0_3, .int .i64 a0_4, .int .i64 a0_5, .int .i64 a0_6] 33 (0, 0)) (by (with_reducible repeat (first | refine blk_drewN ?_ _ | refine blk_drew ?_ | refine blk_alloc ?_ _)); exact BK189.out) hb)
            have n1_ := Aside0.mk (blk_below (g := gb190) (o := .cells #[.int .i64 a1_0, .int .i64 a1_1, .int .i64 a1_2, .int .i64 a1_3, .int .i64 a1_4, .int .i64 a1_5, .int .i64 a1_6] 33 (0, 0)) (by (with_reducible repeat (first | refine blk_drewN ?_ _ | refine blk_drew ?_ | refine blk_alloc ?_ _)); exact BK190.out) hb)
            have n2_ := Aside0.mk (blk_below (g := gb191) (o := .cells #[.bool a2_0, .int .i64 a2_1, .int .i64 a2_2, .int .i64 a2_3] 35 (0, 0)) (by (with_reducible repeat (first | refine blk_drewN ?_ _ | refine blk_drew ?_ | refine blk_alloc ?_ _)); exact BK191.out) hb)
            have n3_ := Aside0.mk (blk_below (g := gb192) (o := .cells #[.bool a3_0, .int .i64 a3_1, .int .i64 a3_2, .int .i64 a3_3] 35 (0, 0)) (by (with_reducible repeat (first | refine blk_drewN ?_ _ | refine blk_drew ?_ | refine blk_alloc ?_ _)); exact BK192.out) hb)
            have n4_ := Aside0.mk (blk_below (g := gb224) (o := .cells #[.bool t215, .int .i64 t216, .int .i64 t217, .int .i64 t218] 36 (0, 0)) (by (with_reducible repeat (first | refine blk_drewN ?_ _ | refine blk_drew ?_ | refine blk_alloc ?_ _)); exact BK224.out) hb)
            have n5_ := Aside0.mk (blk_below (g := gb225) (o := .cells #[.bool t219, .int .i64 t220, .int .i64 t221, .int .i64 t222] 36 (0, 0)) (by (with_reducible repeat (first | refine blk_drewN ?_ _ | refine blk_drew ?_ | refine blk_alloc ?_ _)); exact BK225.out) hb)
            have n6_ := Aside0.mk (below_step (by repeat (first | (with_reducible first | exact HB.out | apply below_alloc | apply pw_below_drewN | apply below_drew1 | refine below_set ?_ GE189.out | refine below_set ?_ GE190.out | refine below_set ?_ GE191.out | refine below_set ?_ GE192.out | refine below_set ?_ GE224.out | refine below_set ?_ GE225.out) | exact HB.out)) hb)
            have n7_ := Aside0.mk (hbox)
            have n8_ := Aside0.mk ((by rw [hg]; exact (below_size (by repeat (first | (with_reducible first | exact HB.out | apply below_alloc | apply pw_below_drewN | apply below_drew1 | refine below_set ?_ GE189.out | refine below_set ?_ GE190.out | refine below_set ?_ GE191.out | refine below_set ?_ GE192.out | refine below_set ?_ GE224.out | refine below_set ?_ GE225.out) | exact HB.out))) : w.heap.size ≤ gb258))
            have n9_ := Aside0.mk ((by rw [hg]; exact (below_size (by repeat (first | (with_reducible first | exact HB.out | apply below_alloc | apply pw_below_drewN | apply below_drew1 | refine below_set ?_ GE189.out | refine below_set ?_ GE190.out | refine below_set ?_ GE191.out | refine below_set ?_ GE192.out | refine below_set ?_ GE224.out | refine below_set ?_ GE225.out) | exact HB.out))) : w.heap.size ≤ gb258))
            have n10_ := Aside0.mk ((by rw [hg]; exact Nat.ne_of_lt (blk_lt (g := gb189) (o := .cells #[.int .i64 a0_0, .int .i64 a0_1, .int .i64 a0_2, .int .i64 a0_3, .int .i64 a0_4, .int .i64 a0_5, .int .i64 a0_6] 33 (0, 0)) (by (with_reducible repeat (first | refine blk_drewN ?_ _ | refine blk_drew ?_ | refine blk_alloc ?_ _)); exact BK189.out)) : gb189 ≠ gb258))
            have n11_ := Aside0.mk ((by rw [hg]; exact Nat.ne_of_gt (blk_lt (g := gb189) (o := .cells #[.int .i64 a0_0, .int .i64 a0_1, .int .i64 a0_2, .int .i64 a0_3, .int .i64 a0_4, .int .i64 a0_5, .int .i64 a0_6] 33 (0, 0)) (by (with_reducible repeat (first | refine blk_drewN ?_ _ | refine blk_drew ?_ | refine blk_alloc ?_ _)); exact BK189.out)) : gb258 ≠ gb189))
            have n12_ := Aside0.mk ((by rw [hg]; exact Nat.ne_of_lt (blk_lt (g := gb190) (o := .cells #[.int .i64 a1_0, .int .i64 a1_1, .int .i64 a1_2, .int .i64 a1_3, .int .i64 a1_4, .int .i64 a1_5, .int .i64 a1_6] 33 (0, 0)) (by (with_reducible repeat (first | refine blk_drewN ?_ _ | refine blk_drew ?_ | refine blk_alloc ?_ _)); exact BK190.out)) : gb190 ≠ gb258))
            have n13_ := Aside0.mk ((by rw [hg]; exact Nat.ne_of_gt (blk_lt (g := gb190) (o := .cells #[.int .i64 a1_0, .int .i64 a1_1, .int .i64 a1_2, .int .i64 a1_3, .int .i64 a1_4, .int .i64 a1_5, .int .i64 a1_6] 33 (0, 0)) (by (with_reducible repeat (first | refine blk_drewN ?_ _ | refine blk_drew ?_ | refine blk_alloc ?_ _)); exact BK190.out)) : gb258 ≠ gb190))
            have n14_ := Aside0.mk ((by rw [hg]; exact Nat.ne_of_lt (blk_lt (g := gb191) (o := .cells #[.bool a2_0, .int .i64 a2_1, .int .i64 a2_2, .int .i64 a2_3] 35 (0, 0)) (by (with_reducible repeat (first | refine blk_drewN ?_ _ | refine blk_drew ?_ | refine blk_alloc ?_ _)); exact BK191.out)) : gb191 ≠ gb258))
            have n15_ := Aside0.mk ((by rw [hg]; exact Nat.ne_of_gt (blk_lt (g := gb191) (o := .cells #[.bool a2_0, .int .i64 a2_1, .int .i64 a2_2, .int .i64 a2_3] 35 (0, 0)) (by (with_reducible repeat (first | refine blk_drewN ?_ _ | refine blk_drew ?_ | refine blk_alloc ?_ _)); exact BK191.out)) : gb258 ≠ gb191))
            have n16_ := Aside0.mk ((by rw [hg]; exact Nat.ne_of_lt (blk_lt (g := gb192) (o := .cells #[.bool a3_0, .int .i64 a3_1, .int .i64 a3_2, .int .i64 a3_3] 35 (0, 0)) (by (with_reducible repeat (first | refine blk_drewN ?_ _ | refine blk_drew ?_ | refine blk_alloc ?_ _)); exact BK192.out)) : gb192 ≠ gb258))
            have n17_ := Aside0.mk ((by rw [hg]; exact Nat.ne_of_gt (blk_lt (g := gb192) (o := .cells #[.bool a3_0, .int .i64 a3_1, .int .i64 a3_2, .int .i64 a3_3] 35 (0, 0)) (by (with_reducible repeat (first | refine blk_drewN ?_ _ | refine blk_drew ?_ | refine blk_alloc ?_ _)); exact BK192.out)) : gb258 ≠ gb192))
            have n18_ := Aside0.mk ((by rw [hg]; exact Nat.ne_of_lt (blk_lt (g := gb224) (o := .cells #[.bool t215, .int .i64 t216, .int .i64 t217, .int .i64 t218] 36 (0, 0)) (by (with_reducible repeat (first | refine blk_drewN ?_ _ | refine blk_drew ?_ | refine blk_alloc ?_ _)); exact BK224.out)) : gb224 ≠ gb258))
            have n19_ := Aside0.mk ((by rw [hg]; exact Nat.ne_of_gt (blk_lt (g := gb224) (o := .cells #[.bool t215, .int .i64 t216, .int .i64 t217, .int .i64 t218] 36 (0, 0)) (by (with_reducible repeat (first | refine blk_drewN ?_ _ | refine blk_drew ?_ | refine blk_alloc ?_ _)); exact BK224.out)) : gb258 ≠ gb224))
            have n20_ := Aside0.mk ((by rw [hg]; exact Nat.ne_of_lt (blk_lt (g := gb225) (o := .cells #[.bool t219, .int .i64 t220, .int .i64 t221, .int .i64 t222] 36 (0, 0)) (by (with_reducible repeat (first | refine blk_drewN ?_ _ | refine blk_drew ?_ | refine blk_alloc ?_ _)); exact BK225.out)) : gb225 ≠ gb258))
            have n21_ := Aside0.mk ((by rw [hg]; exact Nat.ne_of_gt (blk_lt (g := gb225) (o := .cells #[.bool t219, .int .i64 t220, .int .i64 t221, .int .i64 t222] 36 (0, 0)) (by (with_reducible repeat (first | refine blk_drewN ?_ _ | refine blk_drew ?_ | refine blk_alloc ?_ _)); exact BK225.out)) : gb258 ≠ gb225))
            have z_NB258_257 := fun (h0_ : up b 17 16 = true) (h1_ : up b 17 17 = true) => (show gb258 ≠ gb257 from ((by rw [hg]; cases e_ : b 18 with | false => (refine Nat.ne_of_gt (blk_lt (g := gb257) (o := .cells #[.bool false, .int .i64 0, .int .i64 0, .int .i64 0] 36 (0, 0)) ?_); ((with_reducible repeat (first | refine blk_drewN ?_ _ | refine blk_drew ?_ | refine blk_alloc ?_ _)); exact (Q_BK257 h0_ e_))) | true => (refine Nat.ne_of_gt (blk_lt (g := gb257) (o := .cells #[.bool t248, .int .i64 t249, .int .i64 t250, .int .i64 t251] 36 (0, 0)) ?_); ((with_reducible repeat (first | refine blk_drewN ?_ _ | refine blk_drew ?_ | refine blk_alloc ?_ _)); exact (Q_BK257_e18 e_))) : gb258 ≠ gb257)))
            have z_NB257_258 := fun (h0_ : up b 17 16 = true) (h1_ : up b 17 17 = true) => (show gb257 ≠ gb258 from ((by rw [hg]; cases e_ : b 18 with | false => (refine Nat.ne_of_lt (blk_lt (g := gb257) (o := .cells #[.bool false, .int .i64 0, .int .i64 0, .int .i64 0] 36 (0, 0)) ?_); ((with_reducible repeat (first | refine blk_drewN ?_ _ | refine blk_drew ?_ | refine blk_alloc ?_ _)); exact (Q_BK257 h0_ e_))) | true => (refine Nat.ne_of_lt (blk_lt (g := gb257) (o := .cells #[.bool t248, .int .i64 t249, .int .i64 t250, .int .i64 t251] 36 (0, 0)) ?_); ((with_reducible repeat (first | refine blk_drewN ?_ _ | refine blk_drew ?_ | refine blk_alloc ?_ _)); exact (Q_BK257_e18 e_))) : gb257 ≠ gb258)))
            have z_BK257 := fun (h0_ : b 16 = true) (h1_ : b 18 = false) => (show w45.heap[gb257]? = some (.cells #[.bool false, .int .i64 0, .int .i64 0, .int .i64 0] 36 (0, 0)) from by first | exact (blk_below (g := gb257) (o := .cells #[.bool false, .int .i64 0, .int .i64 0, .int .i64 0] 36 (0, 0)) (by (with_reducible repeat (first | refine blk_drewN ?_ _ | refine blk_drew ?_ | refine blk_alloc ?_ _)); exact (Q_BK257 h0_ h1_)) hb))
            clear BK189
            clear BK190
            clear BK191
            clear BK192
            clear BK224
            clear BK225
            clear HB
            have BK189 := n0_
            have BK190 := n1_
            have BK191 := n2_
            have BK192 := n3_
            have BK224 := n4_
            have BK225 := n5_
            have HB := n6_
            have BK258 := n7_
            have GW258 := n8_
            have GE258 := n9_
            have NB189_258 := n10_
            have NB258_189 := n11_
            have NB190_258 := n12_
            have NB258_190 := n13_
            have NB191_258 := n14_
            have NB258_191 := n15_
            have NB192_258 := n16_
            have NB258_192 := n17_
            have NB224_258 := n18_
            have NB258_224 := n19_
            have NB225_258 := n20_
            have NB258_225 := n21_
            clear n0_ n1_ n2_ n3_ n4_ n5_ n6_ n7_ n8_ n9_ n10_ n11_ n12_ n13_ n14_ n15_ n16_ n17_ n18_ n19_ n20_ n21_
            clear hb hbox hg
            refine hK.out _ _ ⟨gb257, gb258, m16_, (.pointer (some ⟨gb258, 0, none⟩)), (by rw [ha.out]; exact putSel_upk 14 hb_ rfl rfl rfl), (by (with_reducible repeat (first | refine blk_drewN ?_ _ | refine blk_drew ?_ | refine blk_alloc ?_ _)); exact BK189.out), (by (with_reducible repeat (first | refine blk_drewN ?_ _ | refine blk_drew ?_ | refine blk_alloc ?_ _)); exact BK190.out), (by (with_reducible repeat (first | refine blk_drewN ?_ _ | refine blk_drew ?_ | refine blk_alloc ?_ _)); exact BK191.out), (by (with_reducible repeat (first | refine blk_drewN ?_ _ | refine blk_drew ?_ | refine blk_alloc ?_ _)); exact BK192.out), (by (with_reducible repeat (first | refine blk_drewN ?_ _ | refine blk_drew ?_ | refine blk_alloc ?_ _)); exact BK224.out), (by (with_reducible repeat (first | refine blk_drewN ?_ _ | refine blk_drew ?_ | refine blk_alloc ?_ _)); exact BK225.out), (by repeat (first | (with_reducible first | exact HB.out | apply below_alloc | apply pw_below_drewN | apply below_drew1 | refine below_set ?_ GE189.out | refine below_set ?_ GE190.out | refine below_set ?_ GE191.out | refine below_set ?_ GE192.out | refine below_set ?_ GE224.out | refine below_set ?_ GE225.out | refine below_set ?_ GE258.out) | exact HB.out)), z_NB258_257, z_NB257_258, z_BK257, Q_GW257, Q_GE257, Q_NB189_257, Q_NB257_189, Q_NB190_257, Q_NB257_190, Q_NB191_257, Q_NB257_191, Q_NB192_257, Q_NB257_192, Q_NB224_257, Q_NB257_224, Q_NB225_257, Q_NB257_225, fun _ _ => (by (with_reducible repeat (first | refine blk_drewN ?_ _ | refine blk_drew ?_ | refine blk_alloc ?_ _)); exact BK258.out), fun _ => GW258.out, fun _ => GE258.out, fun _ => NB189_258.out, fun _ => NB258_189.out, fun _ => NB190_258.out, fun _ => NB258_190.out, fun _ => NB191_258.out, fun _ => NB258_191.out, fun _ => NB192_258.out, fun _ => NB258_192.out, fun _ => NB224_258.out, fun _ => NB258_224.out, fun _ => NB225_258.out, fun _ => NB258_225.out, fun h0_ => absurd ((hoff 18 (by kernel_rfl)).symm.trans h0_) (by decide), fun h0_ => absurd ((hoff 19 (by kernel_rfl)).symm.trans h0_) (by decide), Q_X16_, fun _ => rfl⟩
          refine steps_cons ?_ ?_
          · rintro b a w' ⟨gb257, gb258, m16_, m17_, ha, Q_BK189, Q_BK190, Q_BK191, Q_BK192, Q_BK224, Q_BK225, Q_HB, Q_NB258_257, Q_NB257_258, Q_BK257, Q_GW257, Q_GE257, Q_NB189_257, Q_NB257_189, Q_NB190_257, Q_NB257_190, Q_NB191_257, Q_NB257_191, Q_NB192_257, Q_NB257_192, Q_NB224_257, Q_NB257_224, Q_NB225_257, Q_NB257_225, Q_BK258, Q_GW258, Q_GE258, Q_NB189_258, Q_NB258_189, Q_NB190_258, Q_NB258_190, Q_NB191_258, Q_NB258_191, Q_NB192_258, Q_NB258_192, Q_NB224_258, Q_NB258_224, Q_NB225_258, Q_NB258_225, Q_BK257_e18, Q_BK258_e19, Q_X16_, Q_X17_⟩ hb_ hon hoff
            refine ⟨_, rfl, fun K hK => ?_⟩
            have e18 : a.tmps[18]? = some (m16_) := by rw [ha]; exact putSel_on (e := (16, 18, m16_)) 13 rfl rfl (hon 16 (by kernel_rfl)) rfl
            rw [Q_X16_ (hon 16 (by kernel_rfl))] at e18
            have e50 : a.tmps[50]? = some (.agg #[.bool t248, .int .i64 t249, .int .i64 t250, .int .i64 t251]) := by rw [ha]; exact putSel_on (e := (13, 50, .agg #[.bool t248, .int .i64 t249, .int .i64 t250, .int .i64 t251])) 10 rfl rfl (hon 13 (by kernel_rfl)) rfl
            replace ha := Aside0.mk ha
            have BK189 := Aside0.mk Q_BK189
            have BK190 := Aside0.mk Q_BK190
            have BK191 := Aside0.mk Q_BK191
            have BK192 := Aside0.mk Q_BK192
            have BK224 := Aside0.mk Q_BK224
            have BK225 := Aside0.mk Q_BK225
            have HB := Aside0.mk Q_HB
            have NB258_257 := Aside0.mk (Q_NB258_257 (hon 16 (by kernel_rfl)) (hon 17 (by kernel_rfl)))
            have NB257_258 := Aside0.mk (Q_NB257_258 (hon 16 (by kernel_rfl)) (hon 17 (by kernel_rfl)))
            have BK257 := Aside0.mk (Q_BK257 (hon 16 (by kernel_rfl)) hb_)
            have GW257 := Aside0.mk (Q_GW257 (hon 16 (by kernel_rfl)))
            have GE257 := Aside0.mk (Q_GE257 (hon 16 (by kernel_rfl)))
            have NB189_257 := Aside0.mk (Q_NB189_257 (hon 16 (by kernel_rfl)))
            have NB257_189 := Aside0.mk (Q_NB257_189 (hon 16 (by kernel_rfl)))
            have NB190_257 := Aside0.mk (Q_NB190_257 (hon 16 (by kernel_rfl)))
            have NB257_190 := Aside0.mk (Q_NB257_190 (hon 16 (by kernel_rfl)))
            have NB191_257 := Aside0.mk (Q_NB191_257 (hon 16 (by kernel_rfl)))
            have NB257_191 := Aside0.mk (Q_NB257_191 (hon 16 (by kernel_rfl)))
            have NB192_257 := Aside0.mk (Q_NB192_257 (hon 16 (by kernel_rfl)))
            have NB257_192 := Aside0.mk (Q_NB257_192 (hon 16 (by kernel_rfl)))
            have NB224_257 := Aside0.mk (Q_NB224_257 (hon 16 (by kernel_rfl)))
            have NB257_224 := Aside0.mk (Q_NB257_224 (hon 16 (by kernel_rfl)))
            have NB225_257 := Aside0.mk (Q_NB225_257 (hon 16 (by kernel_rfl)))
            have NB257_225 := Aside0.mk (Q_NB257_225 (hon 16 (by kernel_rfl)))
            have BK258 := Aside0.mk (Q_BK258 (hon 17 (by kernel_rfl)) (hoff 19 (by kernel_rfl)))
            have GW258 := Aside0.mk (Q_GW258 (hon 17 (by kernel_rfl)))
            have GE258 := Aside0.mk (Q_GE258 (hon 17 (by kernel_rfl)))
            have NB189_258 := Aside0.mk (Q_NB189_258 (hon 17 (by kernel_rfl)))
            have NB258_189 := Aside0.mk (Q_NB258_189 (hon 17 (by kernel_rfl)))
            have NB190_258 := Aside0.mk (Q_NB190_258 (hon 17 (by kernel_rfl)))
            have NB258_190 := Aside0.mk (Q_NB258_190 (hon 17 (by kernel_rfl)))
            have NB191_258 := Aside0.mk (Q_NB191_258 (hon 17 (by kernel_rfl)))
            have NB258_191 := Aside0.mk (Q_NB258_191 (hon 17 (by kernel_rfl)))
            have NB192_258 := Aside0.mk (Q_NB192_258 (hon 17 (by kernel_rfl)))
            have NB258_192 := Aside0.mk (Q_NB258_192 (hon 17 (by kernel_rfl)))
            have NB224_258 := Aside0.mk (Q_NB224_258 (hon 17 (by kernel_rfl)))
            have NB258_224 := Aside0.mk (Q_NB258_224 (hon 17 (by kernel_rfl)))
            have NB225_258 := Aside0.mk (Q_NB225_258 (hon 17 (by kernel_rfl)))
            have NB258_225 := Aside0.mk (Q_NB258_225 (hon 17 (by kernel_rfl)))
            have hs53 : w'.cell? ⟨gb257, 0, none⟩ = some (.bool false) := (blk_cell BK257.out 0).trans rfl
            have hfs53 := blk_frozen BK257.out 0
            have hns53_0 := NB189_257.out
            have hns53_1 := NB190_257.out
            have hns53_2 := NB191_257.out
            have hns53_3 := NB192_257.out
            have hns53_4 := NB224_257.out
            have hns53_5 := NB225_257.out
            have hns53_7 := NB258_257.out
            have hms53_0 := NB257_189.out
            have hms53_1 := NB257_190.out
            have hms53_2 := NB257_191.out
            have hms53_3 := NB257_192.out
            have hms53_4 := NB257_224.out
            have hms53_5 := NB257_225.out
            have hms53_7 := NB257_258.out
            have hs54 : w'.cell? ⟨gb257, 1, none⟩ = some (.int .i64 0) := (blk_cell BK257.out 1).trans rfl
            have hfs54 := blk_frozen BK257.out 1
            have hns54_0 := NB189_257.out
            have hns54_1 := NB190_257.out
            have hns54_2 := NB191_257.out
            have hns54_3 := NB192_257.out
            have hns54_4 := NB224_257.out
            have hns54_5 := NB225_257.out
            have hns54_7 := NB258_257.out
            have hms54_0 := NB257_189.out
            have hms54_1 := NB257_190.out
            have hms54_2 := NB257_191.out
            have hms54_3 := NB257_192.out
            have hms54_4 := NB257_224.out
            have hms54_5 := NB257_225.out
            have hms54_7 := NB257_258.out
            have hs55 : w'.cell? ⟨gb257, 2, none⟩ = some (.int .i64 0) := (blk_cell BK257.out 2).trans rfl
            have hfs55 := blk_frozen BK257.out 2
            have hns55_0 := NB189_257.out
            have hns55_1 := NB190_257.out
            have hns55_2 := NB191_257.out
            have hns55_3 := NB192_257.out
            have hns55_4 := NB224_257.out
            have hns55_5 := NB225_257.out
            have hns55_7 := NB258_257.out
            have hms55_0 := NB257_189.out
            have hms55_1 := NB257_190.out
            have hms55_2 := NB257_191.out
            have hms55_3 := NB257_192.out
            have hms55_4 := NB257_224.out
            have hms55_5 := NB257_225.out
            have hms55_7 := NB257_258.out
            have hs56 : w'.cell? ⟨gb257, 3, none⟩ = some (.int .i64 0) := (blk_cell BK257.out 3).trans rfl
            have hfs56 := blk_frozen BK257.out 3
            have hns56_0 := NB189_257.out
            have hns56_1 := NB190_257.out
            have hns56_2 := NB191_257.out
            have hns56_3 := NB192_257.out
            have hns56_4 := NB224_257.out
            have hns56_5 := NB225_257.out
            have hns56_7 := NB258_257.out
            have hms56_0 := NB257_189.out
            have hms56_1 := NB257_190.out
            have hms56_2 := NB257_191.out
            have hms56_3 := NB257_192.out
            have hms56_4 := NB257_224.out
            have hms56_5 := NB257_225.out
            have hms56_7 := NB257_258.out
            refine skip_ (w1 := ?_) (by rfl) rfl ?_ ?_
            rotate_left
            · go_simp
              rfl
            refine hK.out _ _ ⟨gb257, gb258, m16_, m17_, (by rw [ha.out]; exact putSel_none (v := undef) rfl), (by (with_reducible repeat (first | refine blk_drewN ?_ _ | refine blk_drew ?_ | refine blk_alloc ?_ _)); refine blk_far ?_ NB189_257.out _; (with_reducible repeat (first | refine blk_drewN ?_ _ | refine blk_drew ?_ | refine blk_alloc ?_ _)); refine blk_far ?_ NB189_257.out _; (with_reducible repeat (first | refine blk_drewN ?_ _ | refine blk_drew ?_ | refine blk_alloc ?_ _)); refine blk_far ?_ NB189_257.out _; (with_reducible repeat (first | refine blk_drewN ?_ _ | refine blk_drew ?_ | refine blk_alloc ?_ _)); refine blk_far ?_ NB189_257.out _; (with_reducible repeat (first | refine blk_drewN ?_ _ | refine blk_drew ?_ | refine blk_alloc ?_ _)); exact BK189.out), (by (with_reducible repeat (first | refine blk_drewN ?_ _ | refine blk_drew ?_ | refine blk_alloc ?_ _)); refine blk_far ?_ NB190_257.out _; (with_reducible repeat (first | refine blk_drewN ?_ _ | refine blk_drew ?_ | refine blk_alloc ?_ _)); refine blk_far ?_ NB190_257.out _; (with_reducible repeat (first | refine blk_drewN ?_ _ | refine blk_drew ?_ | refine blk_alloc ?_ _)); refine blk_far ?_ NB190_257.out _; (with_reducible repeat (first | refine blk_drewN ?_ _ | refine blk_drew ?_ | refine blk_alloc ?_ _)); refine blk_far ?_ NB190_257.out _; (with_reducible repeat (first | refine blk_drewN ?_ _ | refine blk_drew ?_ | refine blk_alloc ?_ _)); exact BK190.out), (by (with_reducible repeat (first | refine blk_drewN ?_ _ | refine blk_drew ?_ | refine blk_alloc ?_ _)); refine blk_far ?_ NB191_257.out _; (with_reducible repeat (first | refine blk_drewN ?_ _ | refine blk_drew ?_ | refine blk_alloc ?_ _)); refine blk_far ?_ NB191_257.out _; (with_reducible repeat (first | refine blk_drewN ?_ _ | refine blk_drew ?_ | refine blk_alloc ?_ _)); refine blk_far ?_ NB191_257.out _; (with_reducible repeat (first | refine blk_drewN ?_ _ | refine blk_drew ?_ | refine blk_alloc ?_ _)); refine blk_far ?_ NB191_257.out _; (with_reducible repeat (first | refine blk_drewN ?_ _ | refine blk_drew ?_ | refine blk_alloc ?_ _)); exact BK191.out), (by (with_reducible repeat (first | refine blk_drewN ?_ _ | refine blk_drew ?_ | refine blk_alloc ?_ _)); refine blk_far ?_ NB192_257.out _; (with_reducible repeat (first | refine blk_drewN ?_ _ | refine blk_drew ?_ | refine blk_alloc ?_ _)); refine blk_far ?_ NB192_257.out _; (with_reducible repeat (first | refine blk_drewN ?_ _ | refine blk_drew ?_ | refine blk_alloc ?_ _)); refine blk_far ?_ NB192_257.out _; (with_reducible repeat (first | refine blk_drewN ?_ _ | refine blk_drew ?_ | refine blk_alloc ?_ _)); refine blk_far ?_ NB192_257.out _; (with_reducible repeat (first | refine blk_drewN ?_ _ | refine blk_drew ?_ | refine blk_alloc ?_ _)); exact BK192.out), (by (with_reducible repeat (first | refine blk_drewN ?_ _ | refine blk_drew ?_ | refine blk_alloc ?_ _)); refine blk_far ?_ NB224_257.out _; (with_reducible repeat (first | refine blk_drewN ?_ _ | refine blk_drew ?_ | refine blk_alloc ?_ _)); refine blk_far ?_ NB224_257.out _; (with_reducible repeat (first | refine blk_drewN ?_ _ | refine blk_drew ?_ | refine blk_alloc ?_ _)); refine blk_far ?_ NB224_257.out _; (with_reducible repeat (first | refine blk_drewN ?_ _ | refine blk_drew ?_ | refine blk_alloc ?_ _)); refine blk_far ?_ NB224_257.out _; (with_reducible repeat (first | refine blk_drewN ?_ _ | refine blk_drew ?_ | refine blk_alloc ?_ _)); exact BK224.out), (by (with_reducible repeat (first | refine blk_drewN ?_ _ | refine blk_drew ?_ | refine blk_alloc ?_ _)); refine blk_far ?_ NB225_257.out _; (with_reducible repeat (first | refine blk_drewN ?_ _ | refine blk_drew ?_ | refine blk_alloc ?_ _)); refine blk_far ?_ NB225_257.out _; (with_reducible repeat (first | refine blk_drewN ?_ _ | refine blk_drew ?_ | refine blk_alloc ?_ _)); refine blk_far ?_ NB225_257.out _; (with_reducible repeat (first | refine blk_drewN ?_ _ | refine blk_drew ?_ | refine blk_alloc ?_ _)); refine blk_far ?_ NB225_257.out _; (with_reducible repeat (first | refine blk_drewN ?_ _ | refine blk_drew ?_ | refine blk_alloc ?_ _)); exact BK225.out), (by repeat (first | (with_reducible first | exact HB.out | apply below_alloc | apply pw_below_drewN | apply below_drew1 | refine below_set ?_ GE189.out | refine below_set ?_ GE190.out | refine below_set ?_ GE191.out | refine below_set ?_ GE192.out | refine below_set ?_ GE224.out | refine below_set ?_ GE225.out | refine below_set ?_ GE257.out | refine below_set ?_ GE258.out) | exact HB.out)), fun _ _ => NB258_257.out, fun _ _ => NB257_258.out, fun _ h1_ => absurd ((up_self b 18).symm.trans h1_) (by decide), fun _ => GW257.out, fun _ => GE257.out, fun _ => NB189_257.out, fun _ => NB257_189.out, fun _ => NB190_257.out, fun _ => NB257_190.out, fun _ => NB191_257.out, fun _ => NB257_191.out, fun _ => NB192_257.out, fun _ => NB257_192.out, fun _ => NB224_257.out, fun _ => NB257_224.out, fun _ => NB225_257.out, fun _ => NB257_225.out, fun _ _ => (by (with_reducible repeat (first | refine blk_drewN ?_ _ | refine blk_drew ?_ | refine blk_alloc ?_ _)); refine blk_far ?_ NB258_257.out _; (with_reducible repeat (first | refine blk_drewN ?_ _ | refine blk_drew ?_ | refine blk_alloc ?_ _)); refine blk_far ?_ NB258_257.out _; (with_reducible repeat (first | refine blk_drewN ?_ _ | refine blk_drew ?_ | refine blk_alloc ?_ _)); refine blk_far ?_ NB258_257.out _; (with_reducible repeat (first | refine blk_drewN ?_ _ | refine blk_drew ?_ | refine blk_alloc ?_ _)); refine blk_far ?_ NB258_257.out _; (with_reducible repeat (first | refine blk_drewN ?_ _ | refine blk_drew ?_ | refine blk_alloc ?_ _)); exact BK258.out), fun _ => GW258.out, fun _ => GE258.out, fun _ => NB189_258.out, fun _ => NB258_189.out, fun _ => NB190_258.out, fun _ => NB258_190.out, fun _ => NB191_258.out, fun _ => NB258_191.out, fun _ => NB192_258.out, fun _ => NB258_192.out, fun _ => NB224_258.out, fun _ => NB258_224.out, fun _ => NB225_258.out, fun _ => NB258_225.out, fun _ => (by (with_reducible repeat (first | refine blk_drewN ?_ _ | refine blk_drew ?_ | refine blk_alloc ?_ _)); refine blk_put (cs := #[.bool t248, .int .i64 t249, .int .i64 t250, .int .i64 0]) ?_ 3 _ rfl; (with_reducible repeat (first | refine blk_drewN ?_ _ | refine blk_drew ?_ | refine blk_alloc ?_ _)); refine blk_put (cs := #[.bool t248, .int .i64 t249, .int .i64 0, .int .i64 0]) ?_ 2 _ rfl; (with_reducible repeat (first | refine blk_drewN ?_ _ | refine blk_drew ?_ | refine blk_alloc ?_ _)); refine blk_put (cs := #[.bool t248, .int .i64 0, .int .i64 0, .int .i64 0]) ?_ 1 _ rfl; (with_reducible repeat (first | refine blk_drewN ?_ _ | refine blk_drew ?_ | refine blk_alloc ?_ _)); refine blk_put (cs := #[.bool false, .int .i64 0, .int .i64 0, .int .i64 0]) ?_ 0 _ rfl; (with_reducible repeat (first | refine blk_drewN ?_ _ | refine blk_drew ?_ | refine blk_alloc ?_ _)); exact BK257.out), fun h0_ => absurd ((hoff 19 (by kernel_rfl)).symm.trans h0_) (by decide), Q_X16_, Q_X17_⟩
          refine steps_cons ?_ ?_
          · rintro b a w' ⟨gb257, gb258, m16_, m17_, ha, Q_BK189, Q_BK190, Q_BK191, Q_BK192, Q_BK224, Q_BK225, Q_HB, Q_NB258_257, Q_NB257_258, Q_BK257, Q_GW257, Q_GE257, Q_NB189_257, Q_NB257_189, Q_NB190_257, Q_NB257_190, Q_NB191_257, Q_NB257_191, Q_NB192_257, Q_NB257_192, Q_NB224_257, Q_NB257_224, Q_NB225_257, Q_NB257_225, Q_BK258, Q_GW258, Q_GE258, Q_NB189_258, Q_NB258_189, Q_NB190_258, Q_NB258_190, Q_NB191_258, Q_NB258_191, Q_NB192_258, Q_NB258_192, Q_NB224_258, Q_NB258_224, Q_NB225_258, Q_NB258_225, Q_BK257_e18, Q_BK258_e19, Q_X16_, Q_X17_⟩ hb_ hon hoff
            refine ⟨_, rfl, fun K hK => ?_⟩
            have e19 : a.tmps[19]? = some (m17_) := by rw [ha]; exact putSel_on (e := (17, 19, m17_)) 14 rfl rfl (hon 17 (by kernel_rfl)) rfl
            rw [Q_X17_ (hon 17 (by kernel_rfl))] at e19
            have e51 : a.tmps[51]? = some (.agg #[.bool t252, .int .i64 t253, .int .i64 t254, .int .i64 t255]) := by rw [ha]; exact putSel_on (e := (14, 51, .agg #[.bool t252, .int .i64 t253, .int .i64 t254, .int .i64 t255])) 11 rfl rfl (hon 14 (by kernel_rfl)) rfl
            replace ha := Aside0.mk ha
            have BK189 := Aside0.mk Q_BK189
            have BK190 := Aside0.mk Q_BK190
            have BK191 := Aside0.mk Q_BK191
            have BK192 := Aside0.mk Q_BK192
            have BK224 := Aside0.mk Q_BK224
            have BK225 := Aside0.mk Q_BK225
            have HB := Aside0.mk Q_HB
            have NB258_257 := Aside0.mk (Q_NB258_257 (hon 16 (by kernel_rfl)) (hon 17 (by kernel_rfl)))
            have NB257_258 := Aside0.mk (Q_NB257_258 (hon 16 (by kernel_rfl)) (hon 17 (by kernel_rfl)))
            have GW257 := Aside0.mk (Q_GW257 (hon 16 (by kernel_rfl)))
            have GE257 := Aside0.mk (Q_GE257 (hon 16 (by kernel_rfl)))
            have NB189_257 := Aside0.mk (Q_NB189_257 (hon 16 (by kernel_rfl)))
            have NB257_189 := Aside0.mk (Q_NB257_189 (hon 16 (by kernel_rfl)))
            have NB190_257 := Aside0.mk (Q_NB190_257 (hon 16 (by kernel_rfl)))
            have NB257_190 := Aside0.mk (Q_NB257_190 (hon 16 (by kernel_rfl)))
            have NB191_257 := Aside0.mk (Q_NB191_257 (hon 16 (by kernel_rfl)))
            have NB257_191 := Aside0.mk (Q_NB257_191 (hon 16 (by kernel_rfl)))
            have NB192_257 := Aside0.mk (Q_NB192_257 (hon 16 (by kernel_rfl)))
            have NB257_192 := Aside0.mk (Q_NB257_192 (hon 16 (by kernel_rfl)))
            have NB224_257 := Aside0.mk (Q_NB224_257 (hon 16 (by kernel_rfl)))
            have NB257_224 := Aside0.mk (Q_NB257_224 (hon 16 (by kernel_rfl)))
            have NB225_257 := Aside0.mk (Q_NB225_257 (hon 16 (by kernel_rfl)))
            have NB257_225 := Aside0.mk (Q_NB257_225 (hon 16 (by kernel_rfl)))
            have BK258 := Aside0.mk (Q_BK258 (hon 17 (by kernel_rfl)) hb_)
            have GW258 := Aside0.mk (Q_GW258 (hon 17 (by kernel_rfl)))
            have GE258 := Aside0.mk (Q_GE258 (hon 17 (by kernel_rfl)))
            have NB189_258 := Aside0.mk (Q_NB189_258 (hon 17 (by kernel_rfl)))
            have NB258_189 := Aside0.mk (Q_NB258_189 (hon 17 (by kernel_rfl)))
            have NB190_258 := Aside0.mk (Q_NB190_258 (hon 17 (by kernel_rfl)))
            have NB258_190 := Aside0.mk (Q_NB258_190 (hon 17 (by kernel_rfl)))
            have NB191_258 := Aside0.mk (Q_NB191_258 (hon 17 (by kernel_rfl)))
            have NB258_191 := Aside0.mk (Q_NB258_191 (hon 17 (by kernel_rfl)))
            have NB192_258 := Aside0.mk (Q_NB192_258 (hon 17 (by kernel_rfl)))
            have NB258_192 := Aside0.mk (Q_NB258_192 (hon 17 (by kernel_rfl)))
            have NB224_258 := Aside0.mk (Q_NB224_258 (hon 17 (by kernel_rfl)))
            have NB258_224 := Aside0.mk (Q_NB258_224 (hon 17 (by kernel_rfl)))
            have NB225_258 := Aside0.mk (Q_NB225_258 (hon 17 (by kernel_rfl)))
            have NB258_225 := Aside0.mk (Q_NB258_225 (hon 17 (by kernel_rfl)))
            have BK257 := Aside0.mk (Q_BK257_e18 (hon 18 (by kernel_rfl)))
            have hs57 : w'.cell? ⟨gb258, 0, none⟩ = some (.bool false) := (blk_cell BK258.out 0).trans rfl
            have hfs57 := blk_frozen BK258.out 0
            have hns57_0 := NB189_258.out
            have hns57_1 := NB190_258.out
            have hns57_2 := NB191_258.out
            have hns57_3 := NB192_258.out
            have hns57_4 := NB224_258.out
            have hns57_5 := NB225_258.out
            have hns57_6 := NB257_258.out
            have hms57_0 := NB258_189.out
            have hms57_1 := NB258_190.out
            have hms57_2 := NB258_191.out
            have hms57_3 := NB258_192.out
            have hms57_4 := NB258_224.out
            have hms57_5 := NB258_225.out
            have hms57_6 := NB258_257.out
            have hs58 : w'.cell? ⟨gb258, 1, none⟩ = some (.int .i64 0) := (blk_cell BK258.out 1).trans rfl
            have hfs58 := blk_frozen BK258.out 1
            have hns58_0 := NB189_258.out
            have hns58_1 := NB190_258.out
            have hns58_2 := NB191_258.out
            have hns58_3 := NB192_258.out
            have hns58_4 := NB224_258.out
            have hns58_5 := NB225_258.out
            have hns58_6 := NB257_258.out
            have hms58_0 := NB258_189.out
            have hms58_1 := NB258_190.out
            have hms58_2 := NB258_191.out
            have hms58_3 := NB258_192.out
            have hms58_4 := NB258_224.out
            have hms58_5 := NB258_225.out
            have hms58_6 := NB258_257.out
            have hs59 : w'.cell? ⟨gb258, 2, none⟩ = some (.int .i64 0) := (blk_cell BK258.out 2).trans rfl
            have hfs59 := blk_frozen BK258.out 2
            have hns59_0 := NB189_258.out
            have hns59_1 := NB190_258.out
            have hns59_2 := NB191_258.out
            have hns59_3 := NB192_258.out
            have hns59_4 := NB224_258.out
            have hns59_5 := NB225_258.out
            have hns59_6 := NB257_258.out
            have hms59_0 := NB258_189.out
            have hms59_1 := NB258_190.out
            have hms59_2 := NB258_191.out
            have hms59_3 := NB258_192.out
            have hms59_4 := NB258_224.out
            have hms59_5 := NB258_225.out
            have hms59_6 := NB258_257.out
            have hs60 : w'.cell? ⟨gb258, 3, none⟩ = some (.int .i64 0) := (blk_cell BK258.out 3).trans rfl
            have hfs60 := blk_frozen BK258.out 3
            have hns60_0 := NB189_258.out
            have hns60_1 := NB190_258.out
            have hns60_2 := NB191_258.out
            have hns60_3 := NB192_258.out
            have hns60_4 := NB224_258.out
            have hns60_5 := NB225_258.out
            have hns60_6 := NB257_258.out
            have hms60_0 := NB258_189.out
            have hms60_1 := NB258_190.out
            have hms60_2 := NB258_191.out
            have hms60_3 := NB258_192.out
            have hms60_4 := NB258_224.out
            have hms60_5 := NB258_225.out
            have hms60_6 := NB258_257.out
            refine skip_ (w1 := ?_) (by rfl) rfl ?_ ?_
            rotate_left
            · go_simp
              rfl
            refine hK.out _ _ ⟨gb257, gb258, m16_, m17_, (by rw [ha.out]; exact putSel_none (v := undef) rfl), (by (with_reducible repeat (first | refine blk_drewN ?_ _ | refine blk_drew ?_ | refine blk_alloc ?_ _)); refine blk_far ?_ NB189_258.out _; (with_reducible repeat (first | refine blk_drewN ?_ _ | refine blk_drew ?_ | refine blk_alloc ?_ _)); refine blk_far ?_ NB189_258.out _; (with_reducible repeat (first | refine blk_drewN ?_ _ | refine blk_drew ?_ | refine blk_alloc ?_ _)); refine blk_far ?_ NB189_258.out _; (with_reducible repeat (first | refine blk_drewN ?_ _ | refine blk_drew ?_ | refine blk_alloc ?_ _)); refine blk_far ?_ NB189_258.out _; (with_reducible repeat (first | refine blk_drewN ?_ _ | refine blk_drew ?_ | refine blk_alloc ?_ _)); exact BK189.out), (by (with_reducible repeat (first | refine blk_drewN ?_ _ | refine blk_drew ?_ | refine blk_alloc ?_ _)); refine blk_far ?_ NB190_258.out _; (with_reducible repeat (first | refine blk_drewN ?_ _ | refine blk_drew ?_ | refine blk_alloc ?_ _)); refine blk_far ?_ NB190_258.out _; (with_reducible repeat (first | refine blk_drewN ?_ _ | refine blk_drew ?_ | refine blk_alloc ?_ _)); refine blk_far ?_ NB190_258.out _; (with_reducible repeat (first | refine blk_drewN ?_ _ | refine blk_drew ?_ | refine blk_alloc ?_ _)); refine blk_far ?_ NB190_258.out _; (with_reducible repeat (first | refine blk_drewN ?_ _ | refine blk_drew ?_ | refine blk_alloc ?_ _)); exact BK190.out), (by (with_reducible repeat (first | refine blk_drewN ?_ _ | refine blk_drew ?_ | refine blk_alloc ?_ _)); refine blk_far ?_ NB191_258.out _; (with_reducible repeat (first | refine blk_drewN ?_ _ | refine blk_drew ?_ | refine blk_alloc ?_ _)); refine blk_far ?_ NB191_258.out _; (with_reducible repeat (first | refine blk_drewN ?_ _ | refine blk_drew ?_ | refine blk_alloc ?_ _)); refine blk_far ?_ NB191_258.out _; (with_reducible repeat (first | refine blk_drewN ?_ _ | refine blk_drew ?_ | refine blk_alloc ?_ _)); refine blk_far ?_ NB191_258.out _; (with_reducible repeat (first | refine blk_drewN ?_ _ | refine blk_drew ?_ | refine blk_alloc ?_ _)); exact BK191.out), (by (with_reducible repeat (first | refine blk_drewN ?_ _ | refine blk_drew ?_ | refine blk_alloc ?_ _)); refine blk_far ?_ NB192_258.out _; (with_reducible repeat (first | refine blk_drewN ?_ _ | refine blk_drew ?_ | refine blk_alloc ?_ _)); refine blk_far ?_ NB192_258.out _; (with_reducible repeat (first | refine blk_drewN ?_ _ | refine blk_drew ?_ | refine blk_alloc ?_ _)); refine blk_far ?_ NB192_258.out _; (with_reducible repeat (first | refine blk_drewN ?_ _ | refine blk_drew ?_ | refine blk_alloc ?_ _)); refine blk_far ?_ NB192_258.out _; (with_reducible repeat (first | refine blk_drewN ?_ _ | refine blk_drew ?_ | refine blk_alloc ?_ _)); exact BK192.out), (by (with_reducible repeat (first | refine blk_drewN ?_ _ | refine blk_drew ?_ | refine blk_alloc ?_ _)); refine blk_far ?_ NB224_258.out _; (with_reducible repeat (first | refine blk_drewN ?_ _ | refine blk_drew ?_ | refine blk_alloc ?_ _)); refine blk_far ?_ NB224_258.out _; (with_reducible repeat (first | refine blk_drewN ?_ _ | refine blk_drew ?_ | refine blk_alloc ?_ _)); refine blk_far ?_ NB224_258.out _; (with_reducible repeat (first | refine blk_drewN ?_ _ | refine blk_drew ?_ | refine blk_alloc ?_ _)); refine blk_far ?_ NB224_258.out _; (with_reducible repeat (first | refine blk_drewN ?_ _ | refine blk_drew ?_ | refine blk_alloc ?_ _)); exact BK224.out), (by (with_reducible repeat (first | refine blk_drewN ?_ _ | refine blk_drew ?_ | refine blk_alloc ?_ _)); refine blk_far ?_ NB225_258.out _; (with_reducible repeat (first | refine blk_drewN ?_ _ | refine blk_drew ?_ | refine blk_alloc ?_ _)); refine blk_far ?_ NB225_258.out _; (with_reducible repeat (first | refine blk_drewN ?_ _ | refine blk_drew ?_ | refine blk_alloc ?_ _)); refine blk_far ?_ NB225_258.out _; (with_reducible repeat (first | refine blk_drewN ?_ _ | refine blk_drew ?_ | refine blk_alloc ?_ _)); refine blk_far ?_ NB225_258.out _; (with_reducible repeat (first | refine blk_drewN ?_ _ | refine blk_drew ?_ | refine blk_alloc ?_ _)); exact BK225.out), (by repeat (first | (with_reducible first | exact HB.out | apply below_alloc | apply pw_below_drewN | apply below_drew1 | refine below_set ?_ GE189.out | refine below_set ?_ GE190.out | refine below_set ?_ GE191.out | refine below_set ?_ GE192.out | refine below_set ?_ GE224.out | refine below_set ?_ GE225.out | refine below_set ?_ GE257.out | refine below_set ?_ GE258.out) | exact HB.out)), fun _ _ => NB258_257.out, fun _ _ => NB257_258.out, fun _ h1_ => absurd ((hon 18 (by kernel_rfl)).symm.trans h1_) (by decide), fun _ => GW257.out, fun _ => GE257.out, fun _ => NB189_257.out, fun _ => NB257_189.out, fun _ => NB190_257.out, fun _ => NB257_190.out, fun _ => NB191_257.out, fun _ => NB257_191.out, fun _ => NB192_257.out, fun _ => NB257_192.out, fun _ => NB224_257.out, fun _ => NB257_224.out, fun _ => NB225_257.out, fun _ => NB257_225.out, fun _ h1_ => absurd ((up_self b 19).symm.trans h1_) (by decide), fun _ => GW258.out, fun _ => GE258.out, fun _ => NB189_258.out, fun _ => NB258_189.out, fun _ => NB190_258.out, fun _ => NB258_190.out, fun _ => NB191_258.out, fun _ => NB258_191.out, fun _ => NB192_258.out, fun _ => NB258_192.out, fun _ => NB224_258.out, fun _ => NB258_224.out, fun _ => NB225_258.out, fun _ => NB258_225.out, fun _ => (by (with_reducible repeat (first | refine blk_drewN ?_ _ | refine blk_drew ?_ | refine blk_alloc ?_ _)); refine blk_far ?_ NB257_258.out _; (with_reducible repeat (first | refine blk_drewN ?_ _ | refine blk_drew ?_ | refine blk_alloc ?_ _)); refine blk_far ?_ NB257_258.out _; (with_reducible repeat (first | refine blk_drewN ?_ _ | refine blk_drew ?_ | refine blk_alloc ?_ _)); refine blk_far ?_ NB257_258.out _; (with_reducible repeat (first | refine blk_drewN ?_ _ | refine blk_drew ?_ | refine blk_alloc ?_ _)); refine blk_far ?_ NB257_258.out _; (with_reducible repeat (first | refine blk_drewN ?_ _ | refine blk_drew ?_ | refine blk_alloc ?_ _)); exact BK257.out), fun _ => (by (with_reducible repeat (first | refine blk_drewN ?_ _ | refine blk_drew ?_ | refine blk_alloc ?_ _)); refine blk_put (cs := #[.bool t252, .int .i64 t253, .int .i64 t254, .int .i64 0]) ?_ 3 _ rfl; (with_reducible repeat (first | refine blk_drewN ?_ _ | refine blk_drew ?_ | refine blk_alloc ?_ _)); refine blk_put (cs := #[.bool t252, .int .i64 t253, .int .i64 0, .int .i64 0]) ?_ 2 _ rfl; (with_reducible repeat (first | refine blk_drewN ?_ _ | refine blk_drew ?_ | refine blk_alloc ?_ _)); refine blk_put (cs := #[.bool t252, .int .i64 0, .int .i64 0, .int .i64 0]) ?_ 1 _ rfl; (with_reducible repeat (first | refine blk_drewN ?_ _ | refine blk_drew ?_ | refine blk_alloc ?_ _)); refine blk_put (cs := #[.bool false, .int .i64 0, .int .i64 0, .int .i64 0]) ?_ 0 _ rfl; (with_reducible repeat (first | refine blk_drewN ?_ _ | refine blk_drew ?_ | refine blk_alloc ?_ _)); exact BK258.out), Q_X16_, Q_X17_⟩
          refine steps_cons ?_ ?_
          · rintro b a w' ⟨gb257, gb258, m16_, m17_, ha, Q_BK189, Q_BK190, Q_BK191, Q_BK192, Q_BK224, Q_BK225, Q_HB, Q_NB258_257, Q_NB257_258, Q_BK257, Q_GW257, Q_GE257, Q_NB189_257, Q_NB257_189, Q_NB190_257, Q_NB257_190, Q_NB191_257, Q_NB257_191, Q_NB192_257, Q_NB257_192, Q_NB224_257, Q_NB257_224, Q_NB225_257, Q_NB257_225, Q_BK258, Q_GW258, Q_GE258, Q_NB189_258, Q_NB258_189, Q_NB190_258, Q_NB258_190, Q_NB191_258, Q_NB258_191, Q_NB192_258, Q_NB258_192, Q_NB224_258, Q_NB258_224, Q_NB225_258, Q_NB258_225, Q_BK257_e18, Q_BK258_e19, Q_X16_, Q_X17_⟩ hb_ hon hoff
            refine ⟨_, rfl, fun K hK => ?_⟩
            have e52 : a.tmps[52]? = some (.bool t256) := by rw [ha]; exact putSel_on (e := (15, 52, .bool t256)) 12 rfl rfl (hon 15 (by kernel_rfl)) rfl
            replace ha := Aside0.mk ha
            have BK189 := Aside0.mk Q_BK189
            have BK190 := Aside0.mk Q_BK190
            have BK191 := Aside0.mk Q_BK191
            have BK192 := Aside0.mk Q_BK192
            have BK224 := Aside0.mk Q_BK224
            have BK225 := Aside0.mk Q_BK225
            have HB := Aside0.mk Q_HB
            have NB258_257 := Aside0.mk (Q_NB258_257 (hon 16 (by kernel_rfl)) (hon 17 (by kernel_rfl)))
            have NB257_258 := Aside0.mk (Q_NB257_258 (hon 16 (by kernel_rfl)) (hon 17 (by kernel_rfl)))
            have GW257 := Aside0.mk (Q_GW257 (hon 16 (by kernel_rfl)))
            have GE257 := Aside0.mk (Q_GE257 (hon 16 (by kernel_rfl)))
            have NB189_257 := Aside0.mk (Q_NB189_257 (hon 16 (by kernel_rfl)))
            have NB257_189 := Aside0.mk (Q_NB257_189 (hon 16 (by kernel_rfl)))
            have NB190_257 := Aside0.mk (Q_NB190_257 (hon 16 (by kernel_rfl)))
            have NB257_190 := Aside0.mk (Q_NB257_190 (hon 16 (by kernel_rfl)))
            have NB191_257 := Aside0.mk (Q_NB191_257 (hon 16 (by kernel_rfl)))
            have NB257_191 := Aside0.mk (Q_NB257_191 (hon 16 (by kernel_rfl)))
            have NB192_257 := Aside0.mk (Q_NB192_257 (hon 16 (by kernel_rfl)))
            have NB257_192 := Aside0.mk (Q_NB257_192 (hon 16 (by kernel_rfl)))
            have NB224_257 := Aside0.mk (Q_NB224_257 (hon 16 (by kernel_rfl)))
            have NB257_224 := Aside0.mk (Q_NB257_224 (hon 16 (by kernel_rfl)))
            have NB225_257 := Aside0.mk (Q_NB225_257 (hon 16 (by kernel_rfl)))
            have NB257_225 := Aside0.mk (Q_NB257_225 (hon 16 (by kernel_rfl)))
            have GW258 := Aside0.mk (Q_GW258 (hon 17 (by kernel_rfl)))
            have GE258 := Aside0.mk (Q_GE258 (hon 17 (by kernel_rfl)))
            have NB189_258 := Aside0.mk (Q_NB189_258 (hon 17 (by kernel_rfl)))
            have NB258_189 := Aside0.mk (Q_NB258_189 (hon 17 (by kernel_rfl)))
            have NB190_258 := Aside0.mk (Q_NB190_258 (hon 17 (by kernel_rfl)))
            have NB258_190 := Aside0.mk (Q_NB258_190 (hon 17 (by kernel_rfl)))
            have NB191_258 := Aside0.mk (Q_NB191_258 (hon 17 (by kernel_rfl)))
            have NB258_191 := Aside0.mk (Q_NB258_191 (hon 17 (by kernel_rfl)))
            have NB192_258 := Aside0.mk (Q_NB192_258 (hon 17 (by kernel_rfl)))
            have NB258_192 := Aside0.mk (Q_NB258_192 (hon 17 (by kernel_rfl)))
            have NB224_258 := Aside0.mk (Q_NB224_258 (hon 17 (by kernel_rfl)))
            have NB258_224 := Aside0.mk (Q_NB258_224 (hon 17 (by kernel_rfl)))
            have NB225_258 := Aside0.mk (Q_NB225_258 (hon 17 (by kernel_rfl)))
            have NB258_225 := Aside0.mk (Q_NB258_225 (hon 17 (by kernel_rfl)))
            have BK257 := Aside0.mk (Q_BK257_e18 (hon 18 (by kernel_rfl)))
            have BK258 := Aside0.mk (Q_BK258_e19 (hon 19 (by kernel_rfl)))
            refine value_ (w1 := w') (v := .bool t256) (by rfl) rfl ?_ ?_
            · go_simp
              (try simp only [i64_w])
              try rfl
            refine hK.out _ _ ⟨gb257, gb258, m16_, m17_, (by rw [ha.out]; exact putSel_upk 15 hb_ rfl rfl rfl), Q_BK189, Q_BK190, Q_BK191, Q_BK192, Q_BK224, Q_BK225, Q_HB, Q_NB258_257, Q_NB257_258, fun _ h1_ => absurd ((hon 18 (by kernel_rfl)).symm.trans h1_) (by decide), Q_GW257, Q_GE257, Q_NB189_257, Q_NB257_189, Q_NB190_257, Q_NB257_190, Q_NB191_257, Q_NB257_191, Q_NB192_257, Q_NB257_192, Q_NB224_257, Q_NB257_224, Q_NB225_257, Q_NB257_225, fun _ h1_ => absurd ((hon 19 (by kernel_rfl)).symm.trans h1_) (by decide), Q_GW258, Q_GE258, Q_NB189_258, Q_NB258_189, Q_NB190_258, Q_NB258_190, Q_NB191_258, Q_NB258_191, Q_NB192_258, Q_NB258_192, Q_NB224_258, Q_NB258_224, Q_NB225_258, Q_NB258_225, Q_BK257_e18, Q_BK258_e19, Q_X16_, Q_X17_⟩
          exact steps_nil
        rintro b a w60 hall ⟨gb257, gb258, m16_, m17_, ha, Q_BK189, Q_BK190, Q_BK191, Q_BK192, Q_BK224, Q_BK225, Q_HB, Q_NB258_257, Q_NB257_258, Q_BK257, Q_GW257, Q_GE257, Q_NB189_257, Q_NB257_189, Q_NB190_257, Q_NB257_190, Q_NB191_257, Q_NB257_191, Q_NB192_257, Q_NB257_192, Q_NB224_257, Q_NB257_224, Q_NB225_257, Q_NB257_225, Q_BK258, Q_GW258, Q_GE258, Q_NB189_258, Q_NB258_189, Q_NB190_258, Q_NB258_190, Q_NB191_258, Q_NB258_191, Q_NB192_258, Q_NB258_192, Q_NB224_258, Q_NB258_224, Q_NB225_258, Q_NB258_225, Q_BK257_e18, Q_BK258_e19, Q_X16_, Q_X17_⟩
        clear BK189 BK190 BK191 BK192 BK224 BK225 HB
        have hb0_ := hall 0 (by kernel_rfl)
        have hb1_ := hall 1 (by kernel_rfl)
        have hb2_ := hall 2 (by kernel_rfl)
        have hb3_ := hall 3 (by kernel_rfl)
        have hb4_ := hall 4 (by kernel_rfl)
        have hb5_ := hall 5 (by kernel_rfl)
        have hb6_ := hall 6 (by kernel_rfl)
        have hb7_ := hall 7 (by kernel_rfl)
        have hb11_ := hall 11 (by kernel_rfl)
        have hb12_ := hall 12 (by kernel_rfl)
        have hb13_ := hall 13 (by kernel_rfl)
        have hb14_ := hall 14 (by kernel_rfl)
        have hb15_ := hall 15 (by kernel_rfl)
        have hb16_ := hall 16 (by kernel_rfl)
        have hb17_ := hall 17 (by kernel_rfl)
        have hb18_ := hall 18 (by kernel_rfl)
        have hb19_ := hall 19 (by kernel_rfl)
        have hb20_ := hall 20 (by kernel_rfl)
        subst ha
        obtain rfl := Q_X16_ hb16_
        obtain rfl := Q_X17_ hb17_
        simp only [putSel, hb0_, hb1_, hb2_, hb3_, hb4_, hb5_, hb6_, hb7_, hb11_, hb12_, hb13_, hb14_, hb15_, hb16_, hb17_, hb18_, hb19_, hb20_, if_true, Act.put, List.setIfInBounds_toArray, List.set_cons_zero, List.set_cons_succ]
        have BK189 := Aside0.mk Q_BK189
        clear Q_BK189
        have BK190 := Aside0.mk Q_BK190
        clear Q_BK190
        have BK191 := Aside0.mk Q_BK191
        clear Q_BK191
        have BK192 := Aside0.mk Q_BK192
        clear Q_BK192
        have BK224 := Aside0.mk Q_BK224
        clear Q_BK224
        have BK225 := Aside0.mk Q_BK225
        clear Q_BK225
        have HB := Aside0.mk Q_HB
        clear Q_HB
        have NB258_257 := Aside0.mk (Q_NB258_257 hb16_ hb17_)
        clear Q_NB258_257
        have NB257_258 := Aside0.mk (Q_NB257_258 hb16_ hb17_)
        clear Q_NB257_258
        clear Q_BK257
        have GW257 := Aside0.mk (Q_GW257 hb16_)
        clear Q_GW257
        have GE257 := Aside0.mk (Q_GE257 hb16_)
        clear Q_GE257
        have NB189_257 := Aside0.mk (Q_NB189_257 hb16_)
        clear Q_NB189_257
        have NB257_189 := Aside0.mk (Q_NB257_189 hb16_)
        clear Q_NB257_189
        have NB190_257 := Aside0.mk (Q_NB190_257 hb16_)
        clear Q_NB190_257
        have NB257_190 := Aside0.mk (Q_NB257_190 hb16_)
        clear Q_NB257_190
        have NB191_257 := Aside0.mk (Q_NB191_257 hb16_)
        clear Q_NB191_257
        have NB257_191 := Aside0.mk (Q_NB257_191 hb16_)
        clear Q_NB257_191
        have NB192_257 := Aside0.mk (Q_NB192_257 hb16_)
        clear Q_NB192_257
        have NB257_192 := Aside0.mk (Q_NB257_192 hb16_)
        clear Q_NB257_192
        have NB224_257 := Aside0.mk (Q_NB224_257 hb16_)
        clear Q_NB224_257
        have NB257_224 := Aside0.mk (Q_NB257_224 hb16_)
        clear Q_NB257_224
        have NB225_257 := Aside0.mk (Q_NB225_257 hb16_)
        clear Q_NB225_257
        have NB257_225 := Aside0.mk (Q_NB257_225 hb16_)
        clear Q_NB257_225
        clear Q_BK258
        have GW258 := Aside0.mk (Q_GW258 hb17_)
        clear Q_GW258
        have GE258 := Aside0.mk (Q_GE258 hb17_)
        clear Q_GE258
        have NB189_258 := Aside0.mk (Q_NB189_258 hb17_)
        clear Q_NB189_258
        have NB258_189 := Aside0.mk (Q_NB258_189 hb17_)
        clear Q_NB258_189
        have NB190_258 := Aside0.mk (Q_NB190_258 hb17_)
        clear Q_NB190_258
        have NB258_190 := Aside0.mk (Q_NB258_190 hb17_)
        clear Q_NB258_190
        have NB191_258 := Aside0.mk (Q_NB191_258 hb17_)
        clear Q_NB191_258
        have NB258_191 := Aside0.mk (Q_NB258_191 hb17_)
        clear Q_NB258_191
        have NB192_258 := Aside0.mk (Q_NB192_258 hb17_)
        clear Q_NB192_258
        have NB258_192 := Aside0.mk (Q_NB258_192 hb17_)
        clear Q_NB258_192
        have NB224_258 := Aside0.mk (Q_NB224_258 hb17_)
        clear Q_NB224_258
        have NB258_224 := Aside0.mk (Q_NB258_224 hb17_)
        clear Q_NB258_224
        have NB225_258 := Aside0.mk (Q_NB225_258 hb17_)
        clear Q_NB225_258
        have NB258_225 := Aside0.mk (Q_NB258_225 hb17_)
        clear Q_NB258_225
        have BK257 := Aside0.mk (Q_BK257_e18 hb18_)
        clear Q_BK257_e18
        have BK258 := Aside0.mk (Q_BK258_e19 hb19_)
        clear Q_BK258_e19
        clear hall hb0_ hb1_ hb2_ hb3_ hb4_ hb5_ hb6_ hb7_ hb11_ hb12_ hb13_ hb14_ hb15_ hb16_ hb17_ hb18_ hb19_ hb20_
        have hnb61 := NB257_189.out
        have hnc61 := NB189_257.out
        have hnb62 := NB257_190.out
        have hnc62 := NB190_257.out
        have hnb63 := NB257_191.out
        have hnc63 := NB191_257.out
        have hnb64 := NB257_192.out
        have hnc64 := NB192_257.out
        have hnb65 := NB257_224.out
        have hnc65 := NB224_257.out
        have hnb66 := NB257_225.out
        have hnc66 := NB225_257.out
        have hnb67 := NB257_258.out
        have hnc67 := NB258_257.out
        have hcz68_0 : w60.cell? ⟨gb257, 0, none⟩ = some (.bool t248) := (blk_cell BK257.out 0).trans rfl
        have hcz68_1 : w60.cell? ⟨gb257, 1, none⟩ = some (.int .i64 t249) := (blk_cell BK257.out 1).trans rfl
        have hcz68_2 : w60.cell? ⟨gb257, 2, none⟩ = some (.int .i64 t250) := (blk_cell BK257.out 2).trans rfl
        have hcz68_3 : w60.cell? ⟨gb257, 3, none⟩ = some (.int .i64 t251) := (blk_cell BK257.out 3).trans rfl
        have hfz68_0 := blk_frozen BK257.out 0
        have hfz68_1 := blk_frozen BK257.out 1
        have hfz68_2 := blk_frozen BK257.out 2
        have hfz68_3 := blk_frozen BK257.out 3
        have hnb69 := NB224_189.out
        have hnc69 := NB189_224.out
        have hnb70 := NB224_190.out
        have hnc70 := NB190_224.out
        have hnb71 := NB224_191.out
        have hnc71 := NB191_224.out
        have hnb72 := NB224_192.out
        have hnc72 := NB192_224.out
        have hnb73 := NB224_225.out
        have hnc73 := NB225_224.out
        have hnb74 := NB224_258.out
        have hnc74 := NB258_224.out
        have hcz75_0 : w60.cell? ⟨gb224, 0, none⟩ = some (.bool t215) := (blk_cell BK224.out 0).trans rfl
        have hcz75_1 : w60.cell? ⟨gb224, 1, none⟩ = some (.int .i64 t216) := (blk_cell BK224.out 1).trans rfl
        have hcz75_2 : w60.cell? ⟨gb224, 2, none⟩ = some (.int .i64 t217) := (blk_cell BK224.out 2).trans rfl
        have hcz75_3 : w60.cell? ⟨gb224, 3, none⟩ = some (.int .i64 t218) := (blk_cell BK224.out 3).trans rfl
        have hfz75_0 := blk_frozen BK224.out 0
        have hfz75_1 := blk_frozen BK224.out 1
        have hfz75_2 := blk_frozen BK224.out 2
        have hfz75_3 := blk_frozen BK224.out 3
        try go_wp2_with (first | ((with_reducible refine gate_callee (f := 21) rfl ?_); refine goesL_ (some 55) rfl rfl Try.func21 (by kernel_rfl) rfl #[.agg #[.bool t248, .int .i64 t249, .int .i64 t250, .int .i64 t251], .agg #[.bool t215, .int .i64 t216, .int .i64 t217, .int .i64 t218]] rfl (by (try simp only [List.map_toArray, List.map_cons, List.map_nil]); first | done | rfl | (simp only [List.length_drop, List.length_take]; rfl)) ?_; (with_reducible refine (laws_eqHold.calls t248 t249 t250 t251 t215 t216 t217 t218 true _ A18.out).mono ?_); rintro e w76 ⟨rfl, hb⟩; refine ⟨_, rfl, ?_⟩; have n0_ := Aside0.mk (blk_below (g := gb189) (o := .cells #[.int .i64 a0_0, .int .i64 a0_1, .int .i64 a0_2, .int .i64 a0_3, .int .i64 a0_4, .int .i64 a0_5, .int .i64 a0_6] 33 (0, 0)) (by (with_reducible repeat (first | refine blk_drewN ?_ _ | refine blk_drew ?_ | refine blk_alloc ?_ _)); exact BK189.out) hb); have n1_ := Aside0.mk (blk_below (g := gb190) (o := .cells #[.int .i64 a1_0, .int .i64 a1_1, .int .i64 a1_2, .int .i64 a1_3, .int .i64 a1_4, .int .i64 a1_5, .int .i64 a1_6] 33 (0, 0)) (by (with_reducible repeat (first | refine blk_drewN ?_ _ | refine blk_drew ?_ | refine blk_alloc ?_ _)); exact BK190.out) hb); have n2_ := Aside0.mk (blk_below (g := gb191) (o := .cells #[.bool a2_0, .int .i64 a2_1, .int .i64 a2_2, .int .i64 a2_3] 35 (0, 0)) (by (with_reducible repeat (first | refine blk_drewN ?_ _ | refine blk_drew ?_ | refine blk_alloc ?_ _)); exact BK191.out) hb); have n3_ := Aside0.mk (blk_below (g := gb192) (o := .cells #[.bool a3_0, .int .i64 a3_1, .int .i64 a3_2, .int .i64 a3_3] 35 (0, 0)) (by (with_reducible repeat (first | refine blk_drewN ?_ _ | refine blk_drew ?_ | refine blk_alloc ?_ _)); exact BK192.out) hb); have n4_ := Aside0.mk (blk_below (g := gb224) (o := .cells #[.bool t215, .int .i64 t216, .int .i64 t217, .int .i64 t218] 36 (0, 0)) (by (with_reducible repeat (first | refine blk_drewN ?_ _ | refine blk_drew ?_ | refine blk_alloc ?_ _)); exact BK224.out) hb); have n5_ := Aside0.mk (blk_below (g := gb225) (o := .cells #[.bool t219, .int .i64 t220, .int .i64 t221, .int .i64 t222] 36 (0, 0)) (by (with_reducible repeat (first | refine blk_drewN ?_ _ | refine blk_drew ?_ | refine blk_alloc ?_ _)); exact BK225.out) hb); have n6_ := Aside0.mk (blk_below (g := gb257) (o := .cells #[.bool t248, .int .i64 t249, .int .i64 t250, .int .i64 t251] 36 (0, 0)) (by (with_reducible repeat (first | refine blk_drewN ?_ _ | refine blk_drew ?_ | refine blk_alloc ?_ _)); exact BK257.out) hb); have n7_ := Aside0.mk (blk_below (g := gb258) (o := .cells #[.bool t252, .int .i64 t253, .int .i64 t254, .int .i64 t255] 36 (0, 0)) (by (with_reducible repeat (first | refine blk_drewN ?_ _ | refine blk_drew ?_ | refine blk_alloc ?_ _)); exact BK258.out) hb); have n8_ := Aside0.mk (below_step (by repeat (first | (with_reducible first | exact HB.out | apply below_alloc | apply pw_below_drewN | apply below_drew1 | refine below_set ?_ GE189.out | refine below_set ?_ GE190.out | refine below_set ?_ GE191.out | refine below_set ?_ GE192.out | refine below_set ?_ GE224.out | refine below_set ?_ GE225.out | refine below_set ?_ GE257.out | refine below_set ?_ GE258.out) | exact HB.out)) hb); clear BK189; clear BK190; clear BK191; clear BK192; clear BK224; clear BK225; clear BK257; clear BK258; clear HB; have BK189 := n0_; have BK190 := n1_; have BK191 := n2_; have BK192 := n3_; have BK224 := n4_; have BK225 := n5_; have BK257 := n6_; have BK258 := n7_; have HB := n8_; clear n0_ n1_ n2_ n3_ n4_ n5_ n6_ n7_ n8_; (try clear hb); (try clear hb2); (try clear hk); (try clear hi); have hnb77 := NB258_189.out; have hnc77 := NB189_258.out; have hnb78 := NB258_190.out; have hnc78 := NB190_258.out; have hnb79 := NB258_191.out; have hnc79 := NB191_258.out; have hnb80 := NB258_192.out; have hnc80 := NB192_258.out; have hnb81 := NB258_225.out; have hnc81 := NB225_258.out; have hcz82_0 : w76.cell? ⟨gb258, 0, none⟩ = some (.bool t252) := (blk_cell BK258.out 0).trans rfl; have hcz82_1 : w76.cell? ⟨gb258, 1, none⟩ = some (.int .i64 t253) := (blk_cell BK258.out 1).trans rfl; have hcz82_2 : w76.cell? ⟨gb258, 2, none⟩ = some (.int .i64 t254) := (blk_cell BK258.out 2).trans rfl; have hcz82_3 : w76.cell? ⟨gb258, 3, none⟩ = some (.int .i64 t255) := (blk_cell BK258.out 3).trans rfl; have hfz82_0 := blk_frozen BK258.out 0; have hfz82_1 := blk_frozen BK258.out 1; have hfz82_2 := blk_frozen BK258.out 2; have hfz82_3 := blk_frozen BK258.out 3; have hnb83 := NB225_189.out; have hnc83 := NB189_225.out; have hnb84 := NB225_190.out; have hnc84 := NB190_225.out; have hnb85 := NB225_191.out; have hnc85 := NB191_225.out; have hnb86 := NB225_192.out; have hnc86 := NB192_225.out; have hcz87_0 : w76.cell? ⟨gb225, 0, none⟩ = some (.bool t219) := (blk_cell BK225.out 0).trans rfl; have hcz87_1 : w76.cell? ⟨gb225, 1, none⟩ = some (.int .i64 t220) := (blk_cell BK225.out 1).trans rfl; have hcz87_2 : w76.cell? ⟨gb225, 2, none⟩ = some (.int .i64 t221) := (blk_cell BK225.out 2).trans rfl; have hcz87_3 : w76.cell? ⟨gb225, 3, none⟩ = some (.int .i64 t222) := (blk_cell BK225.out 3).trans rfl; have hfz87_0 := blk_frozen BK225.out 0; have hfz87_1 := blk_frozen BK225.out 1; have hfz87_2 := blk_frozen BK225.out 2; have hfz87_3 := blk_frozen BK225.out 3) | (go_at_call 21; (with_reducible refine (laws_eqHold.calls t252 t253 t254 t255 t219 t220 t221 t222 true _ A20.out).mono ?_); rintro e w88 ⟨rfl, hb⟩; have n0_ := Aside0.mk (blk_below (g := gb189) (o := .cells #[.int .i64 a0_0, .int .i64 a0_1, .int .i64 a0_2, .int .i64 a0_3, .int .i64 a0_4, .int .i64 a0_5, .int .i64 a0_6] 33 (0, 0)) (by (with_reducible repeat (first | refine blk_drewN ?_ _ | refine blk_drew ?_ | refine blk_alloc ?_ _)); exact BK189.out) hb); have n1_ := Aside0.mk (blk_below (g := gb190) (o := .cells #[.int .i64 a1_0, .int .i64 a1_1, .int .i64 a1_2, .int .i64 a1_3, .int .i64 a1_4, .int .i64 a1_5, .int .i64 a1_6] 33 (0, 0)) (by (with_reducible repeat (first | refine blk_drewN ?_ _ | refine blk_drew ?_ | refine blk_alloc ?_ _)); exact BK190.out) hb); have n2_ := Aside0.mk (blk_below (g := gb191) (o := .cells #[.bool a2_0, .int .i64 a2_1, .int .i64 a2_2, .int .i64 a2_3] 35 (0, 0)) (by (with_reducible repeat (first | refine blk_drewN ?_ _ | refine blk_drew ?_ | refine blk_alloc ?_ _)); exact BK191.out) hb); have n3_ := Aside0.mk (blk_below (g := gb192) (o := .cells #[.bool a3_0, .int .i64 a3_1, .int .i64 a3_2, .int .i64 a3_3] 35 (0, 0)) (by (with_reducible repeat (first | refine blk_drewN ?_ _ | refine blk_drew ?_ | refine blk_alloc ?_ _)); exact BK192.out) hb); have n4_ := Aside0.mk (blk_below (g := gb224) (o := .cells #[.bool t215, .int .i64 t216, .int .i64 t217, .int .i64 t218] 36 (0, 0)) (by (with_reducible repeat (first | refine blk_drewN ?_ _ | refine blk_drew ?_ | refine blk_alloc ?_ _)); exact BK224.out) hb); have n5_ := Aside0.mk (blk_below (g := gb225) (o := .cells #[.bool t219, .int .i64 t220, .int .i64 t221, .int .i64 t222] 36 (0, 0)) (by (with_reducible repeat (first | refine blk_drewN ?_ _ | refine blk_drew ?_ | refine blk_alloc ?_ _)); exact BK225.out) hb); have n6_ := Aside0.mk (blk_below (g := gb257) (o := .cells #[.bool t248, .int .i64 t249, .int .i64 t250, .int .i64 t251] 36 (0, 0)) (by (with_reducible repeat (first | refine blk_drewN ?_ _ | refine blk_drew ?_ | refine blk_alloc ?_ _)); exact BK257.out) hb); have n7_ := Aside0.mk (blk_below (g := gb258) (o := .cells #[.bool t252, .int .i64 t253, .int .i64 t254, .int .i64 t255] 36 (0, 0)) (by (with_reducible repeat (first | refine blk_drewN ?_ _ | refine blk_drew ?_ | refine blk_alloc ?_ _)); exact BK258.out) hb); have n8_ := Aside0.mk (below_step (by repeat (first | (with_reducible first | exact HB.out | apply below_alloc | apply pw_below_drewN | apply below_drew1 | refine below_set ?_ GE189.out | refine below_set ?_ GE190.out | refine below_set ?_ GE191.out | refine below_set ?_ GE192.out | refine below_set ?_ GE224.out | refine below_set ?_ GE225.out | refine below_set ?_ GE257.out | refine below_set ?_ GE258.out) | exact HB.out)) hb); clear BK189; clear BK190; clear BK191; clear BK192; clear BK224; clear BK225; clear BK257; clear BK258; clear HB; have BK189 := n0_; have BK190 := n1_; have BK191 := n2_; have BK192 := n3_; have BK224 := n4_; have BK225 := n5_; have BK257 := n6_; have BK258 := n7_; have HB := n8_; clear n0_ n1_ n2_ n3_ n4_ n5_ n6_ n7_ n8_; (try clear hb); (try clear hb2); (try clear hk); (try clear hi)))
        go_ret
        exact ⟨by first | rfl | (simp [errW_none, errW_some] <;> rfl) | (simp [*, errW_none, errW_some] <;> rfl), by repeat (first | (with_reducible first | exact HB.out | apply below_alloc | apply pw_below_drewN | apply below_drew1 | refine below_set ?_ GE189.out | refine below_set ?_ GE190.out | refine below_set ?_ GE191.out | refine below_set ?_ GE192.out | refine below_set ?_ GE224.out | refine below_set ?_ GE225.out | refine below_set ?_ GE257.out | refine below_set ?_ GE258.out) | exact HB.out)⟩
    · replace c21 := Bool.eq_false_iff.mpr c21
      subst c21
      have H1 : (none) = some r := by rw [if_neg (show ¬ (false = true) by decide)] at H; exact H
      clear H
      have H := H1
      clear H1
      exact absurd H (by simp)
  · replace c19 := Bool.eq_false_iff.mpr c19
    subst c19
    have H1 : (none) = some r := by rw [if_neg (show ¬ (false = true) by decide)] at H; exact H
    clear H
    have H := H1
    clear H1
    exact absurd H (by simp)

end Go.Proofs.Ytonafpbnjgdlgaa.PFnExactCascadeStep
