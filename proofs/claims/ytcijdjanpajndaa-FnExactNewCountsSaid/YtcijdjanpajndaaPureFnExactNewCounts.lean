/- For all arguments the printed law ExactNewCounts answers true: plain lists and numbers, no memory. Conditions: none beyond what the program's own guards ask. -/
import Derived.Test.YtcijdjanpajndaaPFnExactNewCountsx3
import Derived.Test.YtcijdjanpajndaaG
namespace Go.Proofs.Ytcijdjanpajndaa.Pure
open Go.RowKit Go.Proofs.Ytcijdjanpajndaa.PFnExactNewCounts Go.Proofs.YtcijdjanpajndaaW.PrintWords Go.Proofs.YtcijdjanpajndaaW.PrintLast
set_option linter.unusedVariables false
set_option linter.unusedSimpArgs false

theorem laws_eqIntS_refl (l : List Int) (hl : l.length ≤ 1048576) : Ev (fun k => laws_eqIntS.f k l l) true := by
  unfold laws_eqIntS.f
  refine G.pos rfl (G.true_loop (F := fun k i => laws_eqIntS.l0 k l l i) l.length ?_ ?_)
  · intro k; simp only [laws_eqIntS.l0]; rw [if_neg (by omega)]
  · intro k i h
    simp only [laws_eqIntS.l0]
    rw [if_pos (by omega), if_pos (by omega), if_pos (by omega), if_pos trivial, G.w64 _ (by omega)]

theorem laws_heldIntS_ev (m : Int) (n : Nat) (h0 : 0 ≤ m) (h1 : m ≤ 4194304) (hl : n ≤ 1048576) : Ev (fun k => laws_heldIntS.f k (G.marks id m 1 n) m) (m + n) := by
  simp only [laws_heldIntS.f]
  have h := G.held_loop m 1 n (fun k m' i => laws_heldIntS.l0 k (G.marks id m 1 n) m' i) ?_ ?_
  · simpa using h
  · intro k m'; simp only [laws_heldIntS.l0]; rw [if_neg (by rw [G.marks_length]; omega)]
  · intro k i h
    simp only [laws_heldIntS.l0]
    rw [if_pos (by rw [G.marks_length]; omega), if_pos (by omega), G.rd_nat (by rw [G.marks_length]; omega), G.marks_get, if_pos (by simp), G.w64 _ (by omega), G.w64' (by omega) (by omega)]
    congr 1
    omega

theorem laws_markIntS_ev (l : List Int) (m : Int) (h0 : 0 ≤ m) (h1 : m ≤ 4194304) (hl : l.length ≤ 1048576) : Ev (fun k => laws_markIntS.f k l m) (m + l.length, G.marks id m 1 l.length) := by
  simp only [laws_markIntS.f]
  have h := G.mark_loop id m 1 l.length (fun k l m i => laws_markIntS.l0 k l m i) ?_ ?_ l rfl
  · simpa using h
  · intro k l' m hl'; simp only [laws_markIntS.l0]; rw [if_neg (by omega)]
  · intro k l' i h hl'
    simp only [laws_markIntS.l0]
    rw [if_pos (by omega), if_pos (by omega), G.w64 _ (by omega), G.w64' (by omega) (by omega)]
    simp only [Int.toNat_natCast, id]
    congr 1
    omega

theorem new_is (a b : Int) : ∃ w l1 l2, spec_NewCounts.f a b = some (w, l1, l2) ∧ impl_NewCounts.f a b = some (w, l1, l2) ∧ l1.length ≤ 256 ∧ l2.length ≤ 256 := by
  have he : impl_NewCounts.f a b = spec_NewCounts.f a b := rfl
  rw [he]
  unfold spec_NewCounts.f
  by_cases h1 : a < 1
  · rw [if_pos h1]; exact ⟨_, _, _, rfl, rfl, by simp, by simp⟩
  rw [if_neg h1]
  by_cases h2 : a > 16
  · rw [if_pos h2]; exact ⟨_, _, _, rfl, rfl, by simp, by simp⟩
  rw [if_neg h2]
  by_cases h3 : b < 1
  · rw [if_pos h3]; exact ⟨_, _, _, rfl, rfl, by simp, by simp⟩
  rw [if_neg h3]
  by_cases h4 : b > 16
  · rw [if_pos h4]; exact ⟨_, _, _, rfl, rfl, by simp, by simp⟩
  rw [if_neg h4]
  have hm : 1 ≤ a * b ∧ a * b ≤ 256 := by
    constructor
    · have := Int.mul_le_mul (show (1 : Int) ≤ a by omega) (show (1 : Int) ≤ b by omega) (by omega) (by omega); omega
    · have := Int.mul_le_mul (show a ≤ 16 by omega) (show b ≤ 16 by omega) (by omega) (by omega); omega
  rw [G.w64' (by omega) (by omega), if_pos (by omega), if_pos (by omega)]
  exact ⟨_, _, _, rfl, rfl, by simp; omega, by simp; omega⟩
theorem FnExactNewCounts : laws_FnExactNewCounts.Pure := by
  intro a b _ _
  refine Ev.rounds ?_
  obtain ⟨w, l1, l2, hs, hi, h1, h2⟩ := new_is a b
  have he : Ev (fun k => laws_eqCounts.f k w l1 l2 w l1 l2) true := by
    unfold laws_eqCounts.f
    exact G.pos rfl (G.bind (laws_eqIntS_refl l1 (by omega)) (G.pos rfl (G.bind (laws_eqIntS_refl l2 (by omega)) (G.pos rfl (G.now fun _ => rfl)))))
  have hm : Ev (fun k => laws_markCounts.f k w l1 l2 1) (1 + l1.length + l2.length, G.marks id 1 1 l1.length, G.marks id (1 + l1.length) 1 l2.length) := by
    simp only [laws_markCounts.f]
    exact G.bind (laws_markIntS_ev l1 1 (by omega) (by omega) (by omega)) (G.bind (laws_markIntS_ev l2 (1 + l1.length) (by omega) (by omega) (by omega)) (G.now fun _ => rfl))
  have hh : Ev (fun k => laws_heldCounts.f k w (G.marks id 1 1 l1.length) (G.marks id (1 + l1.length) 1 l2.length) 1) (1 + l1.length + l2.length) := by
    simp only [laws_heldCounts.f]
    exact G.bind (laws_heldIntS_ev 1 l1.length (by omega) (by omega) (by omega)) (G.neg (by omega) (G.bind (laws_heldIntS_ev (1 + l1.length) l2.length (by omega) (by omega) (by omega)) (G.neg (by omega) (G.now fun _ => rfl))))
  simp only [laws_FnExactNewCounts.f]
  exact G.bind0 hs (G.bind0 hi (G.bind he (G.pos rfl (G.bind hm (G.bind hh (G.neg (by omega) (G.pos rfl (G.bind0 hi (G.bind he (G.pos rfl (G.bind hh (G.neg (by omega) (G.pos rfl (G.now fun _ => rfl)))))))))))))) 

end Go.Proofs.Ytcijdjanpajndaa.Pure
