/- For all arguments the printed law ExactLastReal answers true: plain lists and numbers, no memory. Conditions: none beyond what the program's own guards ask. -/
import Derived.Test.YtbehlhihbhfciaaRFnExactLastRealx2
import Derived.Test.YtbehlhihbhfciaaG
import Derived.Test.YtbehlhihbhfciaaFlo
namespace Go.Proofs.Ytbehlhihbhfciaa.Pure
open Go.RowKit Go.Proofs.Ytbehlhihbhfciaa.PFnExactLastReal Go.Proofs.YtbehlhihbhfciaaW.PrintWords Go.Proofs.YtbehlhihbhfciaaW.PrintLast
set_option linter.unusedVariables false
set_option linter.unusedSimpArgs false


open Go.Proofs.Ytbehlhihbhfciaa.Flo in
theorem isNaN_f (a : Nat) : math_IsNaN.f a = some (isN a) := rfl
open Go.Proofs.Ytbehlhihbhfciaa.Flo in
theorem isInf_f (a : Nat) (h : a < 18446744073709551616) : math_IsInf.f a 0 = some (F.order (rung a) 9218868437227405311 == some .gt) := by
  unfold math_IsInf.f math_Abs.f
  rw [if_pos rfl, Option.bind_some]
  exact congrArg (fun n => some (F.order n 9218868437227405311 == some .gt)) (abs_word a h)
open Go.Proofs.Ytbehlhihbhfciaa.Flo in
theorem finite_f (a : Nat) (h : a < 18446744073709551616) : impl_finite.f a = some (fin a) := by
  unfold impl_finite.f
  rw [isNaN_f, Option.bind_some]
  cases hn : isN a
  · rw [if_neg (by decide), isInf_f a h, Option.bind_some]
    cases hf : fin a
    · rw [gt_inf hf hn]; rfl
    · rw [gt_fin hf]; rfl
  · cases hf : fin a
    · rfl
    · exact absurd ((isN_fin hf).symm.trans hn) (by decide)
open Go.Proofs.Ytbehlhihbhfciaa.Flo in
theorem signbit_f (a : Nat) (h : a < 18446744073709551616) : math_Signbit.f a = some (decide (9223372036854775808 ≤ a)) := by
  unfold math_Signbit.f
  exact congrArg some (sign_word a h)
open Go.Proofs.Ytbehlhihbhfciaa.Flo in
theorem good_tail (a : Nat) (h : a < 18446744073709551616) : (if (FloatKind.f64.format.order a (0 : Nat) == some Ordering.eq) = true then ((math_Signbit.f a).bind fun t => (some (!t))) else (some (!false))) = some (decide (plus a = a)) := by
  have e : (FloatKind.f64.format.order a (0 : Nat) == some Ordering.eq) = decide (rung a = 0) := order_zero a
  rw [e, signbit_f a h, Option.bind_some]
  unfold plus
  by_cases z : rung a = 0
  · rw [if_pos (decide_eq_true z), if_pos z]
    congr 1
    rw [Bool.eq_iff_iff]; unfold rung at z; simp; omega
  · rw [if_neg (by simpa using z), if_neg z]; simp
open Go.Proofs.Ytbehlhihbhfciaa.Flo in
theorem iGood_f (a : Nat) (h : a < 18446744073709551616) : impl_GoodReal.f a = some (good a) := by
  unfold impl_GoodReal.f good
  rw [finite_f a h, Option.bind_some, good_tail a h]
  cases fin a <;> simp
open Go.Proofs.Ytbehlhihbhfciaa.Flo in
theorem sGood_f (a : Nat) (h : a < 18446744073709551616) : spec_GoodReal.f a = some (good a) := by
  unfold spec_GoodReal.f good
  rw [isNaN_f, Option.bind_some, good_tail a h]
  cases hn : isN a
  · rw [if_neg (by decide), isInf_f a h, Option.bind_some]
    cases hf : fin a
    · rw [gt_inf hf hn]; rfl
    · rw [gt_fin hf]; simp
  · cases hf : fin a
    · rfl
    · exact absurd ((isN_fin hf).symm.trans hn) (by decide)
theorem f_lt {a : Nat} (h : (Lit.float .f64 a).wf = true) : a < 18446744073709551616 := by
  simp only [Lit.wf, decide_eq_true_eq] at h; exact h
open Go.Proofs.Ytbehlhihbhfciaa.Flo in
theorem same_f (k r : Nat) (h : rung r = 0 → r = 0) : laws_sameFloat.f (k + 1) r r = some true := by
  unfold laws_sameFloat.f
  cases e : (FloatKind.f64.format.order r r != some Ordering.eq)
  · rw [if_neg (by decide)]
    simp only [laws_sameFloat.j0]
    rw [if_neg (by decide)]
    have e' : FloatKind.f64.format.order r r = some Ordering.eq := by simpa using e
    have e0 : (FloatKind.f64.format.order r (0 : Nat) == some Ordering.eq) = decide (rung r = 0) := order_zero r
    rw [e0, e']
    by_cases z : rung r = 0
    · rw [h z]; decide +kernel
    · rw [if_neg (by simpa using z)]; rfl
  · simp only [laws_sameFloat.j0, e, if_true]
def pls (x : Nat) : Nat := if (FloatKind.f64.format.order x (0 : Nat) == some Ordering.eq) = true then 0 else x
open Go.Proofs.Ytbehlhihbhfciaa.Flo in
theorem pls_eq (x : Nat) : pls x = plus x := by
  unfold pls plus
  have e0 : (FloatKind.f64.format.order x (0 : Nat) == some Ordering.eq) = decide (rung x = 0) := order_zero x
  rw [e0]; by_cases z : rung x = 0 <;> simp [z]
theorem ipls (x : Nat) : impl_plus.f x = some (pls x) := by
  unfold impl_plus.f pls; split <;> rfl
theorem spls (x : Nat) : spec_l2Plain.f x = some (pls x) := by
  unfold spec_l2Plain.f pls; split <;> rfl
open Go.Proofs.Ytbehlhihbhfciaa.Flo in
theorem plus_nought (x : Nat) : rung (plus x) = 0 → plus x = 0 := by
  rw [rung_plus]; intro h; unfold plus; rw [if_pos h]
theorem wrapNat (n : Int) (h0 : 0 ≤ n) (h1 : n < 18446744073709551616) : (IntKind.u64.wrap n : Int).toNat = n.toNat := by
  have : IntKind.u64.wrap n = n % 18446744073709551616 := by
    unfold IntKind.wrap; rfl
  rw [this, Int.emod_eq_of_lt h0 h1]
open Go.Proofs.Ytbehlhihbhfciaa.Flo in
theorem next_zero_dn (k : Nat) : math_Nextafter.f (k + 1) 0 18442240474082181120 = some 9223372036854775809 := by
  simp only [math_Nextafter.f, math_IsNaN.f, math_Nextafter.j0, math_Copysign.f, Option.bind_some]
  decide +kernel
open Go.Proofs.Ytbehlhihbhfciaa.Flo in
theorem next_zero_up (k : Nat) : math_Nextafter.f (k + 1) 0 9218868437227405312 = some 1 := by
  simp only [math_Nextafter.f, math_IsNaN.f, math_Nextafter.j0, math_Copysign.f, Option.bind_some]
  decide +kernel
open Go.Proofs.Ytbehlhihbhfciaa.Flo in
theorem isN_inf : isN 9218868437227405312 = false ∧ isN 18442240474082181120 = false := by decide +kernel
open Go.Proofs.Ytbehlhihbhfciaa.Flo in
theorem fin_lt {a : Nat} (h : fin a = true) : a % 9223372036854775808 < 9218868437227405312 := by
  unfold fin rung at h; simpa using h
open Go.Proofs.Ytbehlhihbhfciaa.Flo in
theorem next_dn (k a : Nat) (hx : a < 18446744073709551616) (h : fin a = true) (hz : rung a ≠ 0) : math_Nextafter.f (k + 1) a 18442240474082181120 = some (if 9223372036854775808 ≤ a then a + 1 else a - 1) := by
  have n1 : (FloatKind.f64.format.order a a != some Ordering.eq) = false := isN_fin h
  have n2 : (FloatKind.f64.format.order 18442240474082181120 18442240474082181120 != some Ordering.eq) = false := isN_inf.2
  have e0 : (FloatKind.f64.format.order a (0 : Nat) == some Ordering.eq) = decide (rung a = 0) := order_zero a
  have e1 : FloatKind.f64.format.order a 18442240474082181120 = some .gt := (order_inf h).2.1
  have e2 : FloatKind.f64.format.order 18442240474082181120 a = some .lt := (order_inf h).2.2.2
  have e3 : (FloatKind.f64.format.order a 0 == some .gt) = !sgn a := order_pos h hz
  have hl := fin_lt h
  simp only [math_Nextafter.f, math_IsNaN.f, math_Nextafter.j0, Option.bind_some]
  rw [n1, n2]
  rw [e0, e1, e2, e3, decide_eq_false hz]
  rw [if_neg (by decide), if_neg (by decide), if_neg (by decide), if_neg (by decide)]
  have hs := sgn_iff a hx
  unfold rung at hz
  by_cases c : 9223372036854775808 ≤ a
  · rw [hs.2 c, if_pos (by decide), if_pos c, wrapNat _ (by omega) (by omega)]
    congr 1 <;> omega
  · have : sgn a = false := by cases hh : sgn a; rfl; exact absurd (hs.1 hh) c
    rw [this, if_neg (by decide), if_neg c, wrapNat _ (by omega) (by omega)]
    congr 1 <;> omega
open Go.Proofs.Ytbehlhihbhfciaa.Flo in
theorem next_up (k a : Nat) (hx : a < 18446744073709551616) (h : fin a = true) (hz : rung a ≠ 0) : math_Nextafter.f (k + 1) a 9218868437227405312 = some (if 9223372036854775808 ≤ a then a - 1 else a + 1) := by
  have n1 : (FloatKind.f64.format.order a a != some Ordering.eq) = false := isN_fin h
  have n2 : (FloatKind.f64.format.order 9218868437227405312 9218868437227405312 != some Ordering.eq) = false := isN_inf.1
  have e0 : (FloatKind.f64.format.order a (0 : Nat) == some Ordering.eq) = decide (rung a = 0) := order_zero a
  have e1 : FloatKind.f64.format.order a 9218868437227405312 = some .lt := (order_inf h).1
  have e2 : FloatKind.f64.format.order 9218868437227405312 a = some .gt := (order_inf h).2.2.1
  have e3 : (FloatKind.f64.format.order a 0 == some .gt) = !sgn a := order_pos h hz
  have hl := fin_lt h
  simp only [math_Nextafter.f, math_IsNaN.f, math_Nextafter.j0, Option.bind_some]
  rw [n1, n2]
  rw [e0, e1, e2, e3, decide_eq_false hz]
  rw [if_neg (by decide), if_neg (by decide), if_neg (by decide), if_neg (by decide)]
  have hs := sgn_iff a hx
  unfold rung at hz
  by_cases c : 9223372036854775808 ≤ a
  · rw [hs.2 c, if_neg (by decide), if_pos c, wrapNat _ (by omega) (by omega)]
    congr 1 <;> omega
  · have : sgn a = false := by cases hh : sgn a; rfl; exact absurd (hs.1 hh) c
    rw [this, if_pos (by decide), if_neg c, wrapNat _ (by omega) (by omega)]
    congr 1 <;> omega
open Go.Proofs.Ytbehlhihbhfciaa.Flo in
theorem plus_def (x : Nat) : plus x = if x % 9223372036854775808 = 0 then 0 else x := rfl
open Go.Proofs.Ytbehlhihbhfciaa.Flo in
theorem good_zero : good 0 = true := by decide +kernel
open Go.Proofs.Ytbehlhihbhfciaa.Flo in
theorem spec_last (k a : Nat) (hx : a < 18446744073709551616) : spec_LastReal.f (k + 2) a = some (if good a = true then (if (FloatKind.f64.format.order a (18442240474082181119 : Nat) == some Ordering.eq) = true then (0, false) else (plus (if a = 0 then 9223372036854775809 else if 9223372036854775808 ≤ a then a + 1 else a - 1), true)) else (0, false)) := by
  unfold spec_LastReal.f
  rw [sGood_f a hx]
  simp only [Option.bind_some, spec_LastReal.j0, math_Inf.f, ge_iff_le, show ¬ ((0 : Int) ≤ -1) from by omega, if_false, spls, pls_eq, if_true]
  by_cases g : good a = true
  · rw [if_pos g, if_pos g]
    obtain ⟨f, z⟩ := (good_iff hx).1 g
    by_cases c : (FloatKind.f64.format.order a (18442240474082181119 : Nat) == some Ordering.eq) = true
    · rw [if_pos c, if_pos c]
    · rw [if_neg c, if_neg c]
      by_cases a0 : a = 0
      · subst a0; rw [next_zero_dn]; rfl
      · rw [next_dn k a hx f (fun e => a0 (z e)), if_neg a0]; rfl
  · rw [if_neg g, if_neg g]
open Go.Proofs.Ytbehlhihbhfciaa.Flo in
theorem impl_next (k a : Nat) (hx : a < 18446744073709551616) : impl_NextReal.f (k + 2) a = some (if good a = true then (if (FloatKind.f64.format.order a (9218868437227405311 : Nat) == some Ordering.eq) = true then (0, false) else (plus (if a = 0 then 1 else if 9223372036854775808 ≤ a then a - 1 else a + 1), true)) else (0, false)) := by
  unfold impl_NextReal.f
  rw [iGood_f a hx]
  simp only [Option.bind_some, impl_NextReal.j0, math_Inf.f, ge_iff_le, show ((0 : Int) ≤ 1) from by omega, ipls, pls_eq, if_true]
  by_cases g : good a = true
  · rw [if_pos g, if_pos g]
    obtain ⟨f, z⟩ := (good_iff hx).1 g
    by_cases c : (FloatKind.f64.format.order a (9218868437227405311 : Nat) == some Ordering.eq) = true
    · rw [if_pos c, if_pos c]
    · rw [if_neg c, if_neg c]
      by_cases a0 : a = 0
      · subst a0; rw [next_zero_up]; rfl
      · rw [next_up k a hx f (fun e => a0 (z e)), if_neg a0]; rfl
  · rw [if_neg g, if_neg g]
open Go.Proofs.Ytbehlhihbhfciaa.Flo in
theorem last_same (a : Nat) (hx : a < 18446744073709551616) : impl_LastReal.f 2 a = spec_LastReal.f 2 a := by
  rw [spec_last 0 a hx]
  unfold impl_LastReal.f
  have hneg : fneg a = ngt a := rfl
  rw [ipls, pls_eq, hneg, Option.bind_some]
  have tl : plus (ngt a) < 18446744073709551616 := by
    have := ngt_lt a hx
    rw [plus_def]; split <;> omega
  rw [impl_next 0 _ tl, iGood_f a hx]
  simp only [Option.bind_some]
  by_cases g : good a = true
  · obtain ⟨f, z⟩ := (good_iff hx).1 g
    have hl := fin_lt f
    have gt : good (plus (ngt a)) = true := by
      rw [good_iff tl, fin_plus, fin_ngt a hx]
      exact ⟨f, plus_nought _⟩
    rw [if_pos g, if_pos g, if_pos gt]
    simp only [ipls, pls_eq, Option.bind_some]
    by_cases a0 : a = 0
    · subst a0; decide +kernel
    · have rz : rung a ≠ 0 := fun e => a0 (z e)
      have tz : plus (ngt a) = ngt a := by
        have : ngt a % 9223372036854775808 ≠ 0 := by
          have := rung_ngt a hx; unfold rung at this rz; omega
        rw [plus_def, if_neg this]
      have hc : (FloatKind.f64.format.order a (18442240474082181119 : Nat) == some Ordering.eq) = (FloatKind.f64.format.order (ngt a) (9218868437227405311 : Nat) == some Ordering.eq) := order_least hx f
      rw [tz, hc]
      by_cases c : (FloatKind.f64.format.order (ngt a) (9218868437227405311 : Nat) == some Ordering.eq) = true
      · rw [if_pos c, if_pos c]
        decide +kernel
      · rw [if_neg c, if_neg c, if_neg a0]
        have hn := ngt_eq a hx
        unfold rung at rz
        have n0 : ngt a ≠ 0 := by rw [hn]; split <;> omega
        rw [if_neg n0]
        congr 1
        refine Prod.ext ?_ rfl
        show plus (fneg (plus (if 9223372036854775808 ≤ ngt a then ngt a - 1 else ngt a + 1))) = plus (if 9223372036854775808 ≤ a then a + 1 else a - 1)
        have hf : ∀ y, y < 18446744073709551616 → fneg y = if y < 9223372036854775808 then y + 9223372036854775808 else y - 9223372036854775808 := fun y hy => ngt_eq y hy
        by_cases cc : 9223372036854775808 ≤ a
        · have e1 : ngt a = a - 9223372036854775808 := by rw [hn, if_neg (by omega)]
          rw [e1, if_neg (by omega), if_pos cc]
          rw [plus_def (a - 9223372036854775808 + 1), if_neg (by omega), hf _ (by omega), if_pos (by omega), show a - 9223372036854775808 + 1 + 9223372036854775808 = a + 1 from by omega]
        · have e1 : ngt a = a + 9223372036854775808 := by rw [hn, if_pos (by omega)]
          rw [e1, if_pos (by omega), if_neg cc]
          rw [plus_def (a + 9223372036854775808 - 1)]
          by_cases o : a = 1
          · subst o; decide +kernel
          · rw [if_neg (by omega), hf _ (by omega), if_neg (by omega), show a + 9223372036854775808 - 1 - 9223372036854775808 = a - 1 from by omega]
  · rw [if_neg g, if_neg g]
open Go.Proofs.Ytbehlhihbhfciaa.Flo in
theorem FnExactLastReal (a : Nat) (ok : (Lit.float .f64 a).wf = true) : ∃ k, laws_FnExactLastReal.f k a = some true := by
  have hx := f_lt ok
  refine ⟨2, ?_⟩
  unfold laws_FnExactLastReal.f
  rw [last_same a hx, spec_last 0 a hx]
  simp only [Option.bind_some]
  have e : ∀ (b : Bool) (x : Nat), ((laws_sameFloat.f 2 (plus x) (plus x)).bind fun t => if t = true then (if (b != b) = true then none else some true) else none) = some true := by
    intro b x
    rw [same_f 1 _ (plus_nought x)]; simp
  have p0 : plus 0 = 0 := by decide +kernel
  split
  · split
    · have := e false 0; rw [p0] at this; exact this
    · exact e true _
  · have := e false 0; rw [p0] at this; exact this

end Go.Proofs.Ytbehlhihbhfciaa.Pure
