/- For all arguments the printed law ExactFirstGuess answers true: plain lists and numbers, no memory. Conditions: none beyond what the program's own guards ask. -/
import Derived.Test.YtfmplkjicdgfbaaRFnExactFirstGuessx3
import Derived.Test.YtfmplkjicdgfbaaG
namespace Go.Proofs.Ytfmplkjicdgfbaa.Pure
open Go.RowKit Go.Proofs.Ytfmplkjicdgfbaa.PFnExactFirstGuess Go.Proofs.YtfmplkjicdgfbaaW.PrintWords Go.Proofs.YtfmplkjicdgfbaaW.PrintLast
set_option linter.unusedVariables false
set_option linter.unusedSimpArgs false


set_option maxRecDepth 100000 in
theorem ten : ∀ n : Fin 11, laws_FnExactFirstGuess.f 60 (n : Nat) = some true := by decide +kernel
theorem none_ (a : Int) (h : a < 1 ∨ 10 < a) : laws_FnExactFirstGuess.f 60 a = some true := by
  have e1 : spec_FirstGuess.f 60 a = some [] := by
    unfold spec_FirstGuess.f
    by_cases c : a < 1
    · rw [if_pos c]; rfl
    · rw [if_neg c, decide_eq_true (by omega)]; rfl
  have e2 : impl_FirstGuess.f 60 a = some [] := by
    unfold impl_FirstGuess.f
    by_cases c : a < 1
    · rw [if_pos c]; rfl
    · rw [if_neg c, decide_eq_true (by omega)]; rfl
  unfold laws_FnExactFirstGuess.f
  rw [e1, e2]
  decide +kernel
theorem FnExactFirstGuess : laws_FnExactFirstGuess.Pure := by
  intro a _
  refine ⟨60, ?_⟩
  by_cases h : a < 1 ∨ 10 < a
  · exact none_ a h
  · have := ten ⟨a.toNat, by omega⟩
    simp only at this
    rw [show ((a.toNat : Nat) : Int) = a by omega] at this
    exact this

end Go.Proofs.Ytfmplkjicdgfbaa.Pure
