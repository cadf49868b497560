/- For all arguments the printed law ExactGoodTurn answers true: plain lists and numbers, no memory. Conditions: none beyond what the program's own guards ask. -/
import Derived.Test.YtcijdjanpajndaaPFnExactGoodTurnx1
import Derived.Test.YtcijdjanpajndaaG
namespace Go.Proofs.Ytcijdjanpajndaa.Pure
open Go.RowKit Go.Proofs.Ytcijdjanpajndaa.PFnExactGoodTurn Go.Proofs.YtcijdjanpajndaaW.PrintWords Go.Proofs.YtcijdjanpajndaaW.PrintLast
set_option linter.unusedVariables false
set_option linter.unusedSimpArgs false


theorem abs_is (x : Int) (h : -9223372036854775807 ≤ x) (h' : x ≤ 9223372036854775807) : spec_l4Abs.f x = some (x.natAbs : Int) := by
  unfold spec_l4Abs.f
  split
  · rw [G.wneg (by omega) (by omega)]; congr 1; omega
  · congr 1; omega
theorem gcd_is : ∀ (n : Nat) (x y : Int), y.natAbs < n → x.natAbs ≤ 1000000 → y.natAbs ≤ 1000000 → ∃ r : Int, Ev (fun k => spec_l4Gcd.l0 k (x.natAbs : Int) (y.natAbs : Int)) r ∧ Ev (fun k => impl_gcd.l0 k x y) r := by
  intro n
  induction n with
  | zero => intro x y h; omega
  | succ n ih =>
    intro x y h hx hy
    by_cases h0 : y = 0
    · subst h0
      refine ⟨x.natAbs, G.succ (G.now fun k => ?_), G.succ (G.now fun k => ?_)⟩
      · simp only [spec_l4Gcd.l0]; rw [if_pos (by simp)]
      · simp only [impl_gcd.l0]; rw [if_pos trivial, G.wneg (by omega) (by omega)]; congr 1; unfold mx; omega
    · have hm : (Int.tmod x y).natAbs = x.natAbs % y.natAbs := Int.natAbs_tmod x y
      have hlt : x.natAbs % y.natAbs < y.natAbs := Nat.mod_lt _ (by omega)
      obtain ⟨r, h1, h2⟩ := ih y (Int.tmod x y) (by omega) hy (by omega)
      refine ⟨r, G.succ ?_, G.succ ?_⟩
      · simp only [spec_l4Gcd.l0]
        refine G.neg (by omega) ?_
        rw [hm, Int.natCast_emod] at h1
        rw [Int.tmod_eq_emod_of_nonneg (by omega)]
        exact h1
      · simp only [impl_gcd.l0]
        exact G.neg h0 h2
theorem FnExactGoodTurn (p q : Int) (ok : (Lit.int .i64 p).wf = true ∧ (Lit.int .i64 q).wf = true) : ∃ k, laws_FnExactGoodTurn.f k p q = some true := by
  have bp := bounds_i64 ok.1
  have bq := bounds_i64 ok.2
  have key : ∃ r, Ev (fun k => spec_GoodTurn.f k p q) r ∧ Ev (fun k => impl_GoodTurn.f k p q) r := by
    simp only [spec_GoodTurn.f, impl_GoodTurn.f]
    have js : Ev (fun k => spec_GoodTurn.j0 k true p q) false := G.succ (G.now fun k => by simp [spec_GoodTurn.j0])
    have ji : Ev (fun k => impl_GoodTurn.j0 k true p q) false := G.succ (G.now fun k => by simp [impl_GoodTurn.j0])
    by_cases hp : -1000000 ≤ p ∧ p ≤ 1000000
    · by_cases hq : 0 ≤ q ∧ q ≤ 1000000
      · have js' : ∃ r, Ev (fun k => spec_GoodTurn.j0 k false p q) r ∧ Ev (fun k => impl_GoodTurn.j0 k false p q) r := by
          by_cases h0 : q = 0
          · exact ⟨p == 1, G.succ (G.now fun k => by simp [spec_GoodTurn.j0, h0]), G.succ (G.now fun k => by simp [impl_GoodTurn.j0, h0])⟩
          · obtain ⟨r, h1, h2⟩ := gcd_is (q.natAbs + 1) p q (by omega) (by omega) (by omega)
            refine ⟨r == 1, G.succ ?_, G.succ ?_⟩
            · simp only [spec_GoodTurn.j0, Bool.false_eq_true, if_false, h0, spec_l4Gcd.f, abs_is p (by omega) (by omega), abs_is q (by omega) (by omega), Option.bind_some]
              exact G.bind h1 (G.now fun _ => rfl)
            · simp only [impl_GoodTurn.j0, Bool.false_eq_true, if_false, h0, impl_gcd.f]
              exact G.bind h2 (G.now fun _ => rfl)
        obtain ⟨r, h1, h2⟩ := js'
        refine ⟨r, ?_, ?_⟩
        · rw [abs_is p (by omega) (by omega), abs_is q (by omega) (by omega)]
          refine G.bind0 rfl (G.neg (by omega) (G.bind0 rfl (G.neg (by omega) (G.neg (by omega) ?_))))
          rw [decide_eq_false (by omega)]; exact h1
        · refine G.neg (by omega) (G.neg (by omega) (G.neg (by omega) ?_))
          rw [decide_eq_false (by omega)]; exact h2
      · refine ⟨false, ?_, ?_⟩
        · rw [abs_is p (by omega) (by omega)]
          refine G.bind0 rfl (G.neg (by omega) ?_)
          by_cases h : q = -9223372036854775808
          · subst h
            refine G.bind0 (a := -9223372036854775808) (by unfold spec_l4Abs.f wrap64; rfl) (G.neg (by omega) (G.neg (by omega) ?_))
            exact js
          · rw [abs_is q (by omega) (by omega)]
            refine G.bind0 rfl (G.ite (fun _ => js) (fun _ => G.neg (by omega) ?_))
            rw [decide_eq_true (by omega)]; exact js
        · refine G.neg (by omega) (G.neg (by omega) (G.ite (fun _ => ji) (fun _ => ?_)))
          rw [decide_eq_true (by omega)]; exact ji
    · refine ⟨false, ?_, ?_⟩
      · by_cases h : p = -9223372036854775808
        · subst h
          refine G.bind0 (a := -9223372036854775808) (by unfold spec_l4Abs.f wrap64; rfl) (G.neg (by omega) ?_)
          have : ∃ a, spec_l4Abs.f q = some a := by unfold spec_l4Abs.f; split <;> exact ⟨_, rfl⟩
          obtain ⟨a, ha⟩ := this
          exact G.bind0 ha (G.ite (fun _ => js) (fun _ => G.pos (by omega) js))
        · rw [abs_is p (by omega) (by omega)]
          exact G.bind0 rfl (G.pos (by omega) js)
      · by_cases h : p < -1000000
        · exact G.pos h ji
        · exact G.neg h (G.pos (by omega) ji)
  obtain ⟨r, h1, h2⟩ := key
  refine Ev.rounds ?_
  simp only [laws_FnExactGoodTurn.f, laws_toTurn.f, Option.bind_some]
  exact G.bind h1 (G.bind h2 (G.now fun _ => by simp))

end Go.Proofs.Ytcijdjanpajndaa.Pure
