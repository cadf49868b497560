/- For all arguments the printed law ExactGoodHold answers true: plain lists and numbers, no memory. Conditions: none beyond what the program's own guards ask. -/
import Derived.Test.YtcijdjanpajndaaPFnExactGoodHoldx3
import Derived.Test.YtcijdjanpajndaaG
namespace Go.Proofs.Ytcijdjanpajndaa.Pure
open Go.RowKit Go.Proofs.Ytcijdjanpajndaa.PFnExactGoodHold Go.Proofs.YtcijdjanpajndaaW.PrintWords Go.Proofs.YtcijdjanpajndaaW.PrintLast
set_option linter.unusedVariables false
set_option linter.unusedSimpArgs false


theorem spec_is (a0 a1 a2 a3 a4 a5 a6 : Int) : ∃ r, spec_GoodLoop.f a0 a1 a2 a3 a4 a5 a6 = some r ∧ impl_GoodLoop.f a0 a1 a2 a3 a4 a5 a6 = some r := by
  simp only [spec_GoodLoop.f, impl_GoodLoop.f, impl_between.f, G.nest, Option.bind_some]
  refine ⟨_, rfl, ?_⟩
  simp [Bool.and_assoc]
theorem within_some (a b : Int) : ∃ r, impl_within.f a b = some r := by
  unfold impl_within.f; split <;> exact ⟨_, rfl⟩
theorem in_is (a b : Int) : spec_l13In.f a b = impl_within.f a b := rfl
theorem FnExactGoodHold (a0 a1 a2 a3 a4 a5 a6 : Int) (b0 : Bool) (b1 b2 b3 : Int) {P P1 : Prop} (ok : P) (ok1 : P1) : laws_FnExactGoodHold.f a0 a1 a2 a3 a4 a5 a6 b0 b1 b2 b3 = some true := by
  obtain ⟨r, hr0, hr⟩ := spec_is a0 a1 a2 a3 a4 a5 a6
  obtain ⟨r1, h1⟩ := within_some b1 a5
  obtain ⟨r2, h2⟩ := within_some b3 a4
  obtain ⟨r3, h3⟩ := within_some b2 2000000
  simp only [laws_FnExactGoodHold.f, laws_toLoop.f, laws_toHold.f, spec_GoodHold.f, impl_GoodHold.f, Option.bind_some, hr0, in_is, hr, h1, h2, h3]
  cases r <;> cases r1 <;> cases r2 <;> cases r3 <;> cases b0 <;> simp
  by_cases e1 : b1 = 0 <;> by_cases e2 : b3 = 0 <;> by_cases e3 : b2 = 0 <;> simp [e1, e2, e3]

end Go.Proofs.Ytcijdjanpajndaa.Pure
