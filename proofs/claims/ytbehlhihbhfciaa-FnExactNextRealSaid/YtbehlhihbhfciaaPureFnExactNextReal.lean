/- For all arguments the printed law ExactNextReal answers true: plain lists and numbers, no memory. Conditions: none beyond what the program's own guards ask. -/
import Derived.Test.YtbehlhihbhfciaaRFnExactNextRealx2
import Derived.Test.YtbehlhihbhfciaaG
import Derived.Test.YtbehlhihbhfciaaFlo
namespace Go.Proofs.Ytbehlhihbhfciaa.Pure
open Go.RowKit Go.Proofs.Ytbehlhihbhfciaa.PFnExactNextReal Go.Proofs.YtbehlhihbhfciaaW.PrintWords Go.Proofs.YtbehlhihbhfciaaW.PrintLast
set_option linter.unusedVariables false
set_option linter.unusedSimpArgs false


open Go.Proofs.Ytbehlhihbhfciaa.Flo in
theorem isNaN_f (a : Nat) : math_IsNaN.f a = some (isN a) := rfl
open Go.Proofs.Ytbehlhihbhfciaa.Flo in
theorem isInf_f (a : Nat) (h : a < 18446744073709551616) : math_IsInf.f a 0 = some (F.order (rung a) 9218868437227405311 == some .gt) := by
  unfold math_IsInf.f math_Abs.f
  rw [if_pos rfl, Option.bind_some]
  exact congrArg (fun n => some (F.order n 9218868437227405311 == some .gt)) (abs_word a h)
open Go.Proofs.Ytbehlhihbhfciaa.Flo in
theorem finite_f (a : Nat) (h : a < 18446744073709551616) : impl_finite.f a = some (fin a) := by
  unfold impl_finite.f
  rw [isNaN_f, Option.bind_some]
  cases hn : isN a
  · rw [if_neg (by decide), isInf_f a h, Option.bind_some]
    cases hf : fin a
    · rw [gt_inf hf hn]; rfl
    · rw [gt_fin hf]; rfl
  · cases hf : fin a
    · rfl
    · exact absurd ((isN_fin hf).symm.trans hn) (by decide)
open Go.Proofs.Ytbehlhihbhfciaa.Flo in
theorem signbit_f (a : Nat) (h : a < 18446744073709551616) : math_Signbit.f a = some (decide (9223372036854775808 ≤ a)) := by
  unfold math_Signbit.f
  exact congrArg some (sign_word a h)
open Go.Proofs.Ytbehlhihbhfciaa.Flo in
theorem good_tail (a : Nat) (h : a < 18446744073709551616) : (if (FloatKind.f64.format.order a (0 : Nat) == some Ordering.eq) = true then ((math_Signbit.f a).bind fun t => (some (!t))) else (some (!false))) = some (decide (plus a = a)) := by
  have e : (FloatKind.f64.format.order a (0 : Nat) == some Ordering.eq) = decide (rung a = 0) := order_zero a
  rw [e, signbit_f a h, Option.bind_some]
  unfold plus
  by_cases z : rung a = 0
  · rw [if_pos (decide_eq_true z), if_pos z]
    congr 1
    rw [Bool.eq_iff_iff]; unfold rung at z; simp; omega
  · rw [if_neg (by simpa using z), if_neg z]; simp
open Go.Proofs.Ytbehlhihbhfciaa.Flo in
theorem iGood_f (a : Nat) (h : a < 18446744073709551616) : impl_GoodReal.f a = some (good a) := by
  unfold impl_GoodReal.f good
  rw [finite_f a h, Option.bind_some, good_tail a h]
  cases fin a <;> simp
open Go.Proofs.Ytbehlhihbhfciaa.Flo in
theorem sGood_f (a : Nat) (h : a < 18446744073709551616) : spec_GoodReal.f a = some (good a) := by
  unfold spec_GoodReal.f good
  rw [isNaN_f, Option.bind_some, good_tail a h]
  cases hn : isN a
  · rw [if_neg (by decide), isInf_f a h, Option.bind_some]
    cases hf : fin a
    · rw [gt_inf hf hn]; rfl
    · rw [gt_fin hf]; simp
  · cases hf : fin a
    · rfl
    · exact absurd ((isN_fin hf).symm.trans hn) (by decide)
theorem f_lt {a : Nat} (h : (Lit.float .f64 a).wf = true) : a < 18446744073709551616 := by
  simp only [Lit.wf, decide_eq_true_eq] at h; exact h
open Go.Proofs.Ytbehlhihbhfciaa.Flo in
theorem same_f (k r : Nat) (h : rung r = 0 → r = 0) : laws_sameFloat.f (k + 1) r r = some true := by
  unfold laws_sameFloat.f
  cases e : (FloatKind.f64.format.order r r != some Ordering.eq)
  · rw [if_neg (by decide)]
    simp only [laws_sameFloat.j0]
    rw [if_neg (by decide)]
    have e' : FloatKind.f64.format.order r r = some Ordering.eq := by simpa using e
    have e0 : (FloatKind.f64.format.order r (0 : Nat) == some Ordering.eq) = decide (rung r = 0) := order_zero r
    rw [e0, e']
    by_cases z : rung r = 0
    · rw [h z]; decide +kernel
    · rw [if_neg (by simpa using z)]; rfl
  · simp only [laws_sameFloat.j0, e, if_true]
def pls (x : Nat) : Nat := if (FloatKind.f64.format.order x (0 : Nat) == some Ordering.eq) = true then 0 else x
open Go.Proofs.Ytbehlhihbhfciaa.Flo in
theorem pls_eq (x : Nat) : pls x = plus x := by
  unfold pls plus
  have e0 : (FloatKind.f64.format.order x (0 : Nat) == some Ordering.eq) = decide (rung x = 0) := order_zero x
  rw [e0]; by_cases z : rung x = 0 <;> simp [z]
theorem ipls (x : Nat) : impl_plus.f x = some (pls x) := by
  unfold impl_plus.f pls; split <;> rfl
theorem spls (x : Nat) : spec_l2Plain.f x = some (pls x) := by
  unfold spec_l2Plain.f pls; split <;> rfl
open Go.Proofs.Ytbehlhihbhfciaa.Flo in
theorem plus_nought (x : Nat) : rung (plus x) = 0 → plus x = 0 := by
  rw [rung_plus]; intro h; unfold plus; rw [if_pos h]
theorem next_ex (a b : Nat) : ∃ r, ∀ k, math_Nextafter.f (k + 1) a b = some r := by
  simp only [math_Nextafter.f, math_IsNaN.f, math_Nextafter.j0, math_NaN.f, math_Copysign.f, Option.bind_some]
  (repeat' split) <;> exact ⟨_, fun k => rfl⟩
theorem FnExactNextReal (a : Nat) (ok : (Lit.float .f64 a).wf = true) : ∃ k, laws_FnExactNextReal.f k a = some true := by
  obtain ⟨r, hr⟩ := next_ex a 9218868437227405312
  refine ⟨2, ?_⟩
  unfold laws_FnExactNextReal.f spec_NextReal.f impl_NextReal.f
  rw [sGood_f a (f_lt ok), iGood_f a (f_lt ok)]
  simp only [Option.bind_some, spec_NextReal.j0, impl_NextReal.j0, math_Inf.f, ge_iff_le, show ((0 : Int) ≤ 1) from by omega, if_true, hr, spls, ipls]
  cases Flo.good a <;> cases (FloatKind.f64.format.order a (9218868437227405311 : Nat) == some Ordering.eq) <;> simp only [Bool.false_eq_true, if_true, if_false, Option.bind_some]
  · rw [same_f 1 0 (fun _ => rfl)]; rfl
  · rw [same_f 1 0 (fun _ => rfl)]; rfl
  · rw [pls_eq, same_f 1 _ (plus_nought r)]; rfl
  · rw [same_f 1 0 (fun _ => rfl)]; rfl

end Go.Proofs.Ytbehlhihbhfciaa.Pure
