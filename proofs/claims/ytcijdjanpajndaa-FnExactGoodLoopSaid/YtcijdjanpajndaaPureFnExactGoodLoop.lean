/- For all arguments the printed law ExactGoodLoop answers true: plain lists and numbers, no memory. Conditions: none beyond what the program's own guards ask. -/
import Derived.Test.YtcijdjanpajndaaPFnExactGoodLoopx1
import Derived.Test.YtcijdjanpajndaaG
namespace Go.Proofs.Ytcijdjanpajndaa.Pure
open Go.RowKit Go.Proofs.Ytcijdjanpajndaa.PFnExactGoodLoop Go.Proofs.YtcijdjanpajndaaW.PrintWords Go.Proofs.YtcijdjanpajndaaW.PrintLast
set_option linter.unusedVariables false
set_option linter.unusedSimpArgs false


theorem spec_is (a0 a1 a2 a3 a4 a5 a6 : Int) : ∃ r, spec_GoodLoop.f a0 a1 a2 a3 a4 a5 a6 = some r ∧ impl_GoodLoop.f a0 a1 a2 a3 a4 a5 a6 = some r := by
  simp only [spec_GoodLoop.f, impl_GoodLoop.f, impl_between.f, G.nest, Option.bind_some]
  refine ⟨_, rfl, ?_⟩
  simp [Bool.and_assoc]
theorem FnExactGoodLoop (a0 a1 a2 a3 a4 a5 a6 : Int) {P : Prop} (ok : P) : laws_FnExactGoodLoop.f a0 a1 a2 a3 a4 a5 a6 = some true := by
  obtain ⟨r, hr0, hr⟩ := spec_is a0 a1 a2 a3 a4 a5 a6
  simp only [laws_FnExactGoodLoop.f, laws_toLoop.f, Option.bind_some, hr0, hr]
  simp

end Go.Proofs.Ytcijdjanpajndaa.Pure
