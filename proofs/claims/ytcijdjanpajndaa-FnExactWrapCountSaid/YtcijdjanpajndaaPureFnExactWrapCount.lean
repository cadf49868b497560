/- For all arguments the printed law ExactWrapCount answers true: plain lists and numbers, no memory. Conditions: none beyond what the program's own guards ask. -/
import Derived.Test.YtcijdjanpajndaaPFnExactWrapCountx1
import Derived.Test.YtcijdjanpajndaaG
namespace Go.Proofs.Ytcijdjanpajndaa.Pure
open Go.RowKit Go.Proofs.Ytcijdjanpajndaa.PFnExactWrapCount Go.Proofs.YtcijdjanpajndaaW.PrintWords Go.Proofs.YtcijdjanpajndaaW.PrintLast
set_option linter.unusedVariables false
set_option linter.unusedSimpArgs false


theorem FnExactWrapCount : laws_FnExactWrapCount.Pure := by
  intro a0 a1 h0 h1
  have hw : impl_within.f a0 1000000000000 = some (decide (-1000000000000 ≤ a0 ∧ a0 ≤ 1000000000000)) := by
    unfold impl_within.f
    rw [G.wneg (by omega) (by omega)]
    by_cases h : a0 ≥ -1000000000000
    · rw [if_pos h]; simp [show -1000000000000 ≤ a0 from h]
    · rw [if_neg h]; simp; omega
  have hs : spec_l8Size.f a1 = some (decide (2 ≤ a1 ∧ a1 ≤ 1000000)) := by
    unfold spec_l8Size.f
    by_cases h : a1 ≥ 2
    · rw [if_pos h]; simp [show 2 ≤ a1 from h]
    · rw [if_neg h]; simp; omega
  have hg : impl_goodSize.f a1 = some (decide (2 ≤ a1 ∧ a1 ≤ 1000000)) := hs
  unfold laws_FnExactWrapCount.f spec_WrapCount.f impl_WrapCount.f
  rw [hw, hs, hg]
  simp only [Option.bind_some]
  by_cases ha : 2 ≤ a1 ∧ a1 ≤ 1000000
  · by_cases hb : -1000000000000 ≤ a0 ∧ a0 ≤ 1000000000000
    · have hm1 := Int.tmod_lt_of_pos a0 (show 0 < a1 by omega)
      have hm0 : -a1 < Int.tmod a0 a1 := by
        have := Int.tmod_lt_of_pos (-a0) (show 0 < a1 by omega)
        rw [Int.neg_tmod] at this
        omega
      have e1 : ∃ r, spec_l8Mod.f a0 a1 = some r ∧ impl_wrap.f a0 a1 = some r := by
        unfold spec_l8Mod.f impl_wrap.f
        generalize Int.tmod a0 a1 = r at hm0 hm1
        rw [if_neg (show ¬ a1 = 0 by omega), if_neg (show ¬ a1 = 0 by omega), G.w64' (by omega) (by omega)]
        by_cases hr : r < 0
        · rw [if_pos hr]
          exact ⟨_, rfl, by rw [Int.tmod_eq_of_lt (by omega) (by omega)]⟩
        · rw [if_neg hr]
          refine ⟨_, rfl, ?_⟩
          rw [Int.tmod_eq_emod_of_nonneg (by omega), Int.add_emod_right, Int.emod_eq_of_lt (by omega) (by omega)]
      obtain ⟨r, e1, e2⟩ := e1
      simp [ha, hb, e1, e2, show ¬ a0 < -1000000000000 by omega, show ¬ a0 > 1000000000000 by omega]
    · by_cases h1 : a0 < -1000000000000
      · simp [ha, hb, h1]
      · simp [ha, hb, h1, show a0 > 1000000000000 by omega]
  · simp [ha]

end Go.Proofs.Ytcijdjanpajndaa.Pure
