/- For all arguments the printed law ExactCmpCost answers true: plain lists and numbers, no memory. Conditions: none beyond what the program's own guards ask. -/
import Derived.Test.YtcijdjanpajndaaPFnExactCmpCostx1
import Derived.Test.YtcijdjanpajndaaG
namespace Go.Proofs.Ytcijdjanpajndaa.Pure
open Go.RowKit Go.Proofs.Ytcijdjanpajndaa.PFnExactCmpCost Go.Proofs.YtcijdjanpajndaaW.PrintWords Go.Proofs.YtcijdjanpajndaaW.PrintLast
set_option linter.unusedVariables false
set_option linter.unusedSimpArgs false


theorem steps_is (a : Int) : spec_l18Steps.f a = some (decide (0 ≤ a ∧ a ≤ 1000000)) := by
  unfold spec_l18Steps.f
  by_cases h : a ≥ 0
  · rw [if_pos h]; simp [show 0 ≤ a from h]
  · rw [if_neg h]; simp; omega
theorem between_is (a : Int) : impl_between.f a 0 1000000 = some (decide (0 ≤ a ∧ a ≤ 1000000)) := steps_is a
def sg (x : Int) : Int := if x < 0 then -1 else if x > 0 then 1 else 0
theorem sign_is (x : Int) : spec_l18Sign.f x = some (sg x) := by
  unfold spec_l18Sign.f sg; repeat' split
  all_goals rfl
theorem isign_is (x : Int) : impl_sign.f x = some (sg x) := sign_is x
theorem sg_pos {x : Int} (h : 0 < x) : sg x = 1 := by unfold sg; rw [if_neg (by omega), if_pos h]
theorem sg_neg {x : Int} (h : x < 0) : sg x = -1 := by unfold sg; rw [if_pos h]
theorem sg_zero : sg 0 = 0 := rfl
theorem cmp_is (x y : Int) (hx : -1000000 ≤ x) (hx' : x ≤ 1000000) (hy : -1000000 ≤ y) (hy' : y ≤ 1000000) : ∃ r, Ev (fun k => spec_l18Cmp.f k x y) r ∧ impl_cmpCost.f x y = some r := by
  have hq : 0 ≤ x * x ∧ x * x ≤ 1000000000000 := by
    have h1 : x * x = ((x.natAbs * x.natAbs : Nat) : Int) := by rw [Int.natCast_mul, Int.natAbs_mul_self']
    have h2 : x.natAbs * x.natAbs ≤ 1000000 * 1000000 := Nat.mul_le_mul (by omega) (by omega)
    omega
  have hr : 0 ≤ y * y ∧ y * y ≤ 1000000000000 := by
    have h1 : y * y = ((y.natAbs * y.natAbs : Nat) : Int) := by rw [Int.natCast_mul, Int.natAbs_mul_self']
    have h2 : y.natAbs * y.natAbs ≤ 1000000 * 1000000 := Nat.mul_le_mul (by omega) (by omega)
    omega
  have e2 : 2 * y * y = 2 * (y * y) := Int.mul_assoc ..
  have hne : y ≠ 0 → x * x ≠ 2 * (y * y) := by
    intro h0 he
    have h1 : x * x = ((x.natAbs * x.natAbs : Nat) : Int) := by rw [Int.natCast_mul, Int.natAbs_mul_self']
    have h2 : y * y = ((y.natAbs * y.natAbs : Nat) : Int) := by rw [Int.natCast_mul, Int.natAbs_mul_self']
    have := G.sq_two y.natAbs x.natAbs (by omega)
    omega
  have w1 : wrap64 (x * x) = x * x := G.w64' (by omega) (by omega)
  have w2 : wrap64 (wrap64 (2 * y) * y) = 2 * (y * y) := by rw [G.w64' (i := 2 * y) (by omega) (by omega), e2, G.w64' (by omega) (by omega)]
  have w3 : wrap64 (x * x - 2 * (y * y)) = x * x - 2 * (y * y) := G.w64' (by omega) (by omega)
  have w4 : wrap64 (x + y) = x + y := G.w64' (by omega) (by omega)
  simp only [spec_l18Cmp.f, impl_cmpCost.f, sign_is, isign_is, Option.bind_some, w1, w2, w3, w4]
  have fin (b : Bool) (r : Int) (h : (if b = true then some (sg x) else if x = 0 then some (sg y) else if x * x > 2 * (y * y) then some (sg x) else some (sg y)) = some r) : Ev (fun k => spec_l18Cmp.j0 k x y b) r := by
    refine G.succ (G.now fun k => ?_)
    simp only [spec_l18Cmp.j0, sign_is, Option.bind_some, w1, w2]
    exact h
  rcases Int.lt_trichotomy x 0 with h1 | h1 | h1 <;> rcases Int.lt_trichotomy y 0 with h2 | h2 | h2
  · refine ⟨-1, ?_, ?_⟩
    · rw [sg_neg h1, sg_neg h2]; exact fin true _ (by rw [sg_neg h1]; rfl)
    · rw [sg_neg h1, sg_neg h2, sg_neg (x := x + y) (by omega), if_pos (by unfold wrap64; omega)]
  · subst h2
    refine ⟨-1, ?_, ?_⟩
    · rw [sg_neg h1]; exact fin true _ (by rw [sg_neg h1]; rfl)
    · rw [sg_neg h1, sg_neg (x := x + 0) (by omega), sg_zero, if_pos (by unfold wrap64; omega)]
  · have hn := hne (by omega)
    refine ⟨if x * x > 2 * (y * y) then -1 else 1, ?_, ?_⟩
    · rw [sg_neg h1, sg_pos h2]
      exact fin (y == 0) _ (by rw [sg_neg h1, sg_pos h2, if_neg (by simp; omega), if_neg (by omega)]; split <;> rfl)
    · rw [sg_neg h1, sg_pos h2]
      by_cases hc : x * x > 2 * (y * y)
      · rw [if_pos hc, sg_pos (x := x * x - 2 * (y * y)) (by omega), if_neg (by unfold wrap64; omega)]; unfold wrap64; rfl
      · rw [if_neg hc, sg_neg (x := x * x - 2 * (y * y)) (by omega), if_neg (by unfold wrap64; omega)]; unfold wrap64; rfl
  · subst h1
    refine ⟨-1, ?_, ?_⟩
    · rw [sg_neg h2]; exact fin (y == 0) _ (by rw [sg_neg h2, if_neg (by simp; omega), if_pos rfl])
    · rw [sg_neg h2, sg_neg (x := 0 + y) (by omega), sg_zero, if_pos (by unfold wrap64; omega)]
  · subst h1; subst h2
    exact ⟨0, fin true _ rfl, by rw [sg_zero, if_pos (by unfold wrap64; omega)]; rfl⟩
  · subst h1
    refine ⟨1, ?_, ?_⟩
    · rw [sg_pos h2]; exact fin (y == 0) _ (by rw [sg_pos h2, if_neg (by simp; omega), if_pos rfl])
    · rw [sg_pos h2, sg_pos (x := 0 + y) (by omega), sg_zero, if_pos (by unfold wrap64; omega)]
  · have hn := hne (by omega)
    refine ⟨if x * x > 2 * (y * y) then 1 else -1, ?_, ?_⟩
    · rw [sg_pos h1, sg_neg h2]
      exact fin (y == 0) _ (by rw [sg_pos h1, sg_neg h2, if_neg (by simp; omega), if_neg (by omega)]; split <;> rfl)
    · rw [sg_pos h1, sg_neg h2]
      by_cases hc : x * x > 2 * (y * y)
      · rw [if_pos hc, sg_pos (x := x * x - 2 * (y * y)) (by omega), if_neg (by unfold wrap64; omega)]; unfold wrap64; rfl
      · rw [if_neg hc, sg_neg (x := x * x - 2 * (y * y)) (by omega), if_neg (by unfold wrap64; omega)]; unfold wrap64; rfl
  · subst h2
    refine ⟨1, ?_, ?_⟩
    · rw [sg_pos h1]; exact fin (0 == 0) _ (by rw [sg_pos h1]; rfl)
    · rw [sg_pos h1, sg_pos (x := x + 0) (by omega), sg_zero, if_pos (by unfold wrap64; omega)]
  · refine ⟨1, ?_, ?_⟩
    · rw [sg_pos h1, sg_pos h2]; exact fin true _ (by rw [sg_pos h1]; rfl)
    · rw [sg_pos h1, sg_pos h2, sg_pos (x := x + y) (by omega), if_pos (by unfold wrap64; omega)]
theorem l0_is (a0 a1 a2 a3 : Int) : ∃ r, Ev (fun k => spec_CmpCost.f k a0 a1 a2 a3) r ∧ Ev (fun k => impl_CmpCost.f k a0 a1 a2 a3) r := by
  have p (a : Int) (h : 0 ≤ a ∧ a ≤ 1000000) : spec_l18Steps.f a = some true := by rw [steps_is]; simp [h]
  have q (a : Int) (h : ¬ (0 ≤ a ∧ a ≤ 1000000)) : spec_l18Steps.f a = some false := by rw [steps_is]; simp only [h]; rfl
  have p' (a : Int) (h : 0 ≤ a ∧ a ≤ 1000000) : impl_between.f a 0 1000000 = some true := p a h
  have q' (a : Int) (h : ¬ (0 ≤ a ∧ a ≤ 1000000)) : impl_between.f a 0 1000000 = some false := q a h
  have r0 : rd [a0, a1, a2, a3] 0 = a0 := rfl
  have r1 : rd [a0, a1, a2, a3] 1 = a1 := rfl
  have r2 : rd [a0, a1, a2, a3] 2 = a2 := rfl
  have r3 : rd [a0, a1, a2, a3] 3 = a3 := rfl
  have step (i : Int) (h0 : 0 ≤ i) (h4 : i < 4) (k : Nat) : impl_CmpCost.l0 (k + 1) a0 a1 a2 a3 [a0, a1, a2, a3] 4 i = (impl_between.f (rd [a0, a1, a2, a3] i) 0 1000000).bind fun t => if t = true then impl_CmpCost.l0 k a0 a1 a2 a3 [a0, a1, a2, a3] 4 (i + 1) else some (0, false) := by
    simp only [impl_CmpCost.l0]
    rw [if_pos (by omega), if_pos (by omega), if_pos (by simp; omega), G.w64' (by omega) (by omega)]
  have e4 : ((([a0, a1, a2, a3] : List Int).length : Nat) : Int) = 4 := rfl
  simp only [impl_CmpCost.f, Option.bind_some, e4]
  by_cases c0 : 0 ≤ a0 ∧ a0 ≤ 1000000
  · by_cases c1 : 0 ≤ a1 ∧ a1 ≤ 1000000
    · by_cases c2 : 0 ≤ a2 ∧ a2 ≤ 1000000
      · by_cases c3 : 0 ≤ a3 ∧ a3 ≤ 1000000
        · obtain ⟨r, h1, h2⟩ := cmp_is (a0 - a2) (a1 - a3) (by omega) (by omega) (by omega) (by omega)
          refine ⟨(r, true), ?_, ?_⟩
          · simp only [spec_CmpCost.f, p _ c0, p _ c1, p _ c2, p _ c3, Option.bind_some, if_true]
            rw [G.w64' (by omega) (by omega), G.w64' (by omega) (by omega)]
            exact G.bind h1 (G.now fun _ => rfl)
          · refine G.succ ?_; simp only [step 0 (by omega) (by omega), r0, p' _ c0, Option.bind_some, if_true, Int.zero_add]
            refine G.succ ?_; simp only [step 1 (by omega) (by omega), r1, p' _ c1, Option.bind_some, if_true]
            refine G.succ ?_; simp only [show (1 : Int) + 1 = 2 from rfl, step 2 (by omega) (by omega), r2, p' _ c2, Option.bind_some, if_true]
            refine G.succ ?_; simp only [show (2 : Int) + 1 = 3 from rfl, step 3 (by omega) (by omega), r3, p' _ c3, Option.bind_some, if_true]
            refine G.succ (G.now fun k => ?_)
            simp only [impl_CmpCost.l0]
            rw [if_neg (by omega), G.w64' (by omega) (by omega), G.w64' (by omega) (by omega), h2]; rfl
        · refine ⟨(0, false), G.now fun k => ?_, ?_⟩
          · simp only [spec_CmpCost.f, p _ c0, p _ c1, p _ c2, q _ c3, Option.bind_some, if_true]; simp
          · refine G.succ ?_; simp only [step 0 (by omega) (by omega), r0, p' _ c0, Option.bind_some, if_true, Int.zero_add]
            refine G.succ ?_; simp only [step 1 (by omega) (by omega), r1, p' _ c1, Option.bind_some, if_true]
            refine G.succ ?_; simp only [show (1 : Int) + 1 = 2 from rfl, step 2 (by omega) (by omega), r2, p' _ c2, Option.bind_some, if_true]
            refine G.succ (G.now fun k => ?_); simp [show (2 : Int) + 1 = 3 from rfl, step 3 (by omega) (by omega), r3, q' _ c3]
      · refine ⟨(0, false), G.now fun k => ?_, ?_⟩
        · simp only [spec_CmpCost.f, p _ c0, p _ c1, q _ c2, Option.bind_some, if_true]; simp
        · refine G.succ ?_; simp only [step 0 (by omega) (by omega), r0, p' _ c0, Option.bind_some, if_true, Int.zero_add]
          refine G.succ ?_; simp only [step 1 (by omega) (by omega), r1, p' _ c1, Option.bind_some, if_true]
          refine G.succ (G.now fun k => ?_); simp [show (1 : Int) + 1 = 2 from rfl, step 2 (by omega) (by omega), r2, q' _ c2]
    · refine ⟨(0, false), G.now fun k => ?_, ?_⟩
      · simp only [spec_CmpCost.f, p _ c0, q _ c1, Option.bind_some, if_true]; simp
      · refine G.succ ?_; simp only [step 0 (by omega) (by omega), r0, p' _ c0, Option.bind_some, if_true, Int.zero_add]
        refine G.succ (G.now fun k => ?_); simp [step 1 (by omega) (by omega), r1, q' _ c1]
  · refine ⟨(0, false), G.now fun k => ?_, ?_⟩
    · simp only [spec_CmpCost.f, q _ c0, Option.bind_some]; simp
    · refine G.succ (G.now fun k => ?_); simp [step 0 (by omega) (by omega), r0, q' _ c0]
theorem FnExactCmpCost : laws_FnExactCmpCost.Pure := by
  intro a0 a1 a2 a3 _ _ _ _
  obtain ⟨r, h1, h2⟩ := l0_is a0 a1 a2 a3
  refine Ev.rounds ?_
  simp only [laws_FnExactCmpCost.f]
  exact G.bind h1 (G.bind h2 (G.now fun _ => by simp))

end Go.Proofs.Ytcijdjanpajndaa.Pure
