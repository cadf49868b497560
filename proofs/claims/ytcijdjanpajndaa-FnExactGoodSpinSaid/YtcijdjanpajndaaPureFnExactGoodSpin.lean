/- For all arguments the printed law ExactGoodSpin answers true: plain lists and numbers, no memory. Conditions: none beyond what the program's own guards ask. -/
import Derived.Test.YtcijdjanpajndaaQFnExactGoodSpinx2
import Derived.Test.YtcijdjanpajndaaG
namespace Go.Proofs.Ytcijdjanpajndaa.Pure
open Go.RowKit Go.Proofs.Ytcijdjanpajndaa.PFnExactGoodSpin Go.Proofs.YtcijdjanpajndaaW.PrintWords Go.Proofs.YtcijdjanpajndaaW.PrintLast
set_option linter.unusedVariables false
set_option linter.unusedSimpArgs false


theorem in_is (a : Int) : spec_l4In.f a = some (decide (okp a)) := by
  unfold spec_l4In.f; rw [G.nest]; congr 1; rw [Bool.eq_iff_iff]
  simp only [Bool.and_eq_true, decide_eq_true_eq]; exact Iff.rfl
theorem FnExactGoodSpin (a b c d : Int) {P : Prop} (ok : P) : laws_FnExactGoodSpin.f a b c d = some true := by
  unfold laws_FnExactGoodSpin.f spec_GoodSpin.f impl_GoodSpin.f
  simp only [in_is, Option.bind_some, decide_eq_true_eq]
  by_cases h1 : okp a <;> by_cases h2 : okp b <;> by_cases h3 : okp c <;> by_cases h4 : okp d <;> simp [h1, h2, h3, h4]
  by_cases e1 : a = 0 <;> by_cases e2 : b = 0 <;> by_cases e3 : c = 0 <;> by_cases e4 : d = 0 <;> simp [e1, e2, e3, e4]

end Go.Proofs.Ytcijdjanpajndaa.Pure
