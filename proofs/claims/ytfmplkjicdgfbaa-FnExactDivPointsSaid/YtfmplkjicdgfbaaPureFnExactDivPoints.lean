/- For all arguments the printed law ExactDivPoints answers true: plain lists and numbers, no memory. Conditions: none beyond what the program's own guards ask. -/
import Derived.Test.YtfmplkjicdgfbaaRFnExactDivPointsx5
import Derived.Test.YtfmplkjicdgfbaaG
import Derived.Test.YtfmplkjicdgfbaaFlo
namespace Go.Proofs.Ytfmplkjicdgfbaa.Pure
open Go.RowKit Go.Proofs.Ytfmplkjicdgfbaa.PFnExactDivPoints Go.Proofs.YtfmplkjicdgfbaaW.PrintWords Go.Proofs.YtfmplkjicdgfbaaW.PrintLast
set_option linter.unusedVariables false
set_option linter.unusedSimpArgs false


open Go.Proofs.Ytfmplkjicdgfbaa.Flo in
theorem isNaN_f (a : Nat) : math_IsNaN.f a = some (isN a) := rfl
open Go.Proofs.Ytfmplkjicdgfbaa.Flo in
theorem isInf_f (a : Nat) (h : a < 18446744073709551616) : math_IsInf.f a 0 = some (F.order (rung a) 9218868437227405311 == some .gt) := by
  unfold math_IsInf.f math_Abs.f
  rw [if_pos rfl, Option.bind_some]
  exact congrArg (fun n => some (F.order n 9218868437227405311 == some .gt)) (abs_word a h)
open Go.Proofs.Ytfmplkjicdgfbaa.Flo in
theorem finite_f (a : Nat) (h : a < 18446744073709551616) : impl_finite.f a = some (fin a) := by
  unfold impl_finite.f
  rw [isNaN_f, Option.bind_some]
  cases hn : isN a
  · rw [if_neg (by decide), isInf_f a h, Option.bind_some]
    cases hf : fin a
    · rw [gt_inf hf hn]; rfl
    · rw [gt_fin hf]; rfl
  · cases hf : fin a
    · rfl
    · exact absurd ((isN_fin hf).symm.trans hn) (by decide)
open Go.Proofs.Ytfmplkjicdgfbaa.Flo in
theorem signbit_f (a : Nat) (h : a < 18446744073709551616) : math_Signbit.f a = some (decide (9223372036854775808 ≤ a)) := by
  unfold math_Signbit.f
  exact congrArg some (sign_word a h)
open Go.Proofs.Ytfmplkjicdgfbaa.Flo in
theorem good_tail (a : Nat) (h : a < 18446744073709551616) : (if (FloatKind.f64.format.order a (0 : Nat) == some Ordering.eq) = true then ((math_Signbit.f a).bind fun t => (some (!t))) else (some (!false))) = some (decide (plus a = a)) := by
  have e : (FloatKind.f64.format.order a (0 : Nat) == some Ordering.eq) = decide (rung a = 0) := order_zero a
  rw [e, signbit_f a h, Option.bind_some]
  unfold plus
  by_cases z : rung a = 0
  · rw [if_pos (decide_eq_true z), if_pos z]
    congr 1
    rw [Bool.eq_iff_iff]; unfold rung at z; simp; omega
  · rw [if_neg (by simpa using z), if_neg z]; simp
open Go.Proofs.Ytfmplkjicdgfbaa.Flo in
theorem iGood_f (a : Nat) (h : a < 18446744073709551616) : impl_GoodReal.f a = some (good a) := by
  unfold impl_GoodReal.f good
  rw [finite_f a h, Option.bind_some, good_tail a h]
  cases fin a <;> simp
open Go.Proofs.Ytfmplkjicdgfbaa.Flo in
theorem sGood_f (a : Nat) (h : a < 18446744073709551616) : spec_GoodReal.f a = some (good a) := by
  unfold spec_GoodReal.f good
  rw [isNaN_f, Option.bind_some, good_tail a h]
  cases hn : isN a
  · rw [if_neg (by decide), isInf_f a h, Option.bind_some]
    cases hf : fin a
    · rw [gt_inf hf hn]; rfl
    · rw [gt_fin hf]; simp
  · cases hf : fin a
    · rfl
    · exact absurd ((isN_fin hf).symm.trans hn) (by decide)
theorem f_lt {a : Nat} (h : (Lit.float .f64 a).wf = true) : a < 18446744073709551616 := by
  simp only [Lit.wf, decide_eq_true_eq] at h; exact h
open Go.Proofs.Ytfmplkjicdgfbaa.Flo in
theorem same_all (k r : Nat) (hr : r < 18446744073709551616) : laws_sameFloat.f (k + 1) r r = some true := by
  unfold laws_sameFloat.f
  cases e : (FloatKind.f64.format.order r r != some Ordering.eq)
  · rw [if_neg (by decide)]
    simp only [laws_sameFloat.j0]
    rw [if_neg (by decide)]
    have e' : FloatKind.f64.format.order r r = some Ordering.eq := by simpa using e
    have e0 : (FloatKind.f64.format.order r (0 : Nat) == some Ordering.eq) = decide (rung r = 0) := order_zero r
    rw [e0, e']
    by_cases z : rung r = 0
    · have : r = 0 ∨ r = 9223372036854775808 := by unfold rung at z; omega
      rcases this with rfl | rfl <;> decide +kernel
    · rw [if_neg (by simpa using z)]; rfl
  · simp only [laws_sameFloat.j0, e, if_true]
open Go.Proofs.Ytfmplkjicdgfbaa.Flo in
theorem sPoint (a b : Nat) (ha : a < 18446744073709551616) (hb : b < 18446744073709551616) : spec_l3GoodPoint.f a b = some (good a && good b) := by
  unfold spec_l3GoodPoint.f
  rw [sGood_f a ha, Option.bind_some]
  cases good a
  · rw [if_neg (by decide)]; rfl
  · rw [if_pos rfl, sGood_f b hb]; rfl
open Go.Proofs.Ytfmplkjicdgfbaa.Flo in
theorem iPoint (a b : Nat) (ha : a < 18446744073709551616) (hb : b < 18446744073709551616) : impl_goodPoint.f a b = some (good a && good b) := by
  unfold impl_goodPoint.f
  rw [iGood_f a ha, Option.bind_some]
  cases good a
  · rw [if_neg (by decide)]; rfl
  · rw [if_pos rfl, iGood_f b hb]; rfl
open Go.Proofs.Ytfmplkjicdgfbaa.Flo in
def Wd (X : Option Nat) : Prop := ∀ v, X = some v → v < 18446744073709551616
open Go.Proofs.Ytfmplkjicdgfbaa.Flo in
theorem opS_wd {op : BinOp} (ho : op = .add ∨ op = .sub ∨ op = .mul ∨ op = .quo) (X Y : Option Nat) : Wd (opS op X Y) := by
  intro v h
  cases X with
  | none => cases h
  | some x =>
    cases Y with
    | none => cases h
    | some y =>
      have h' : (floatBits op .f64 x y).bind al = some v := h
      obtain ⟨r, hr, hv⟩ := Option.bind_eq_some_iff.1 h'
      rw [← (al_eq_some hv).2]
      exact plus_lt (opb_lt ho hr)
open Go.Proofs.Ytfmplkjicdgfbaa.Flo in
theorem told_wd {X Y : Option Nat} (hX : Wd X) (hY : Wd Y) : (toldS X Y).1 < 18446744073709551616 ∧ (toldS X Y).2.1 < 18446744073709551616 := by
  cases X with
  | none => exact ⟨by simp only [toldS]; omega, by simp only [toldS]; omega⟩
  | some x =>
    cases Y with
    | none => exact ⟨by simp only [toldS]; omega, by simp only [toldS]; omega⟩
    | some y => exact ⟨hX x rfl, hY y rfl⟩
theorem eqPoint_refl (k a b : Nat) (ha : a < 18446744073709551616) (hb : b < 18446744073709551616) : laws_eqPoint.f (k + 1) a b a b = some true := by
  unfold laws_eqPoint.f
  rw [same_all k a ha, Option.bind_some, if_pos rfl, same_all k b hb]; rfl
theorem toPoint (a b : Nat) : laws_toPoint.f a b = some (a, b) := rfl
open Go.Proofs.Ytfmplkjicdgfbaa.Flo in
theorem dvn_bad {D : Option Nat} (h : denBad D = true) (X : Option Nat) : dvn X D = none := by
  unfold dvn
  cases D with
  | none => rw [if_neg (by simp)]; exact opS_none_r _ _
  | some v =>
    have : v = 0 := by simpa [denBad] using h
    subst this; rw [if_pos rfl]
open Go.Proofs.Ytfmplkjicdgfbaa.Flo in
theorem dvn_wd (X D : Option Nat) : Wd (dvn X D) := by
  unfold dvn
  split
  · intro v h; cases h
  · exact opS_wd (by simp) _ _
open Go.Proofs.Ytfmplkjicdgfbaa.Flo in
theorem div_both (k a b c d : Nat) (ha : a < 18446744073709551616) (hb : b < 18446744073709551616) (hc : c < 18446744073709551616) (hd : d < 18446744073709551616) :
    ∃ t : Nat × Nat × Bool, spec_DivPoints.f (k + 2) a b c d = some t ∧ impl_DivPoints.f (k + 2) a b c d = some t ∧ t.1 < 18446744073709551616 ∧ t.2.1 < 18446744073709551616 := by
  unfold spec_DivPoints.f impl_DivPoints.f
  rw [sPoint a b ha hb, iPoint a b ha hb, Option.bind_some, Option.bind_some]
  cases good a && good b
  · exact ⟨(0, 0, false), by simp [spec_DivPoints.j0], by simp [impl_DivPoints.j0], by simp, by simp⟩
  · rw [if_pos rfl, if_pos rfl, sPoint c d hc hd, iPoint c d hc hd, Option.bind_some, Option.bind_some]
    cases good c && good d
    · exact ⟨(0, 0, false), by simp [spec_DivPoints.j0], by simp [impl_DivPoints.j0], by simp, by simp⟩
    · have := told_wd (X := dRe (al a) (al b) (al c) (al d)) (Y := dIm (al a) (al b) (al c) (al d)) (dvn_wd _ _) (dvn_wd _ _)
      refine ⟨toldS (dRe (al a) (al b) (al c) (al d)) (dIm (al a) (al b) (al c) (al d)), ?_, by simp [impl_DivPoints.j0], this.1, this.2⟩
      cases e : denBad (den (al c) (al d))
      · simp [spec_DivPoints.j0, spec_DivPoints.j1, e]
      · have h1 : dRe (al a) (al b) (al c) (al d) = none := dvn_bad e _
        have h2 : dIm (al a) (al b) (al c) (al d) = none := dvn_bad e _
        rw [h1, h2]
        simp [spec_DivPoints.j0, spec_DivPoints.j1, e, toldS]
theorem FnExactDivPoints (a b c d : Nat) (ok1 : (Lit.float .f64 a).wf = true ∧ (Lit.float .f64 b).wf = true) (ok2 : (Lit.float .f64 c).wf = true ∧ (Lit.float .f64 d).wf = true) : ∃ k, laws_FnExactDivPoints.f k a b c d = some true := by
  obtain ⟨ha, hb⟩ := ok1
  obtain ⟨hc, hd⟩ := ok2
  obtain ⟨⟨t1, t2, t3⟩, e1, e2, w1, w2⟩ := div_both 0 a b c d (f_lt ha) (f_lt hb) (f_lt hc) (f_lt hd)
  refine ⟨2, ?_⟩
  unfold laws_FnExactDivPoints.f
  simp only [toPoint, Option.bind_some, e1, e2, eqPoint_refl 1 t1 t2 w1 w2, if_true]
  rw [if_neg (by simp)]

end Go.Proofs.Ytfmplkjicdgfbaa.Pure
