/- For all arguments the printed law ExactGoodCells answers true: plain lists and numbers, no memory. Conditions: none beyond what the program's own guards ask. -/
import Derived.Test.YtcijdjanpajndaaPFnExactGoodCellsx2
import Derived.Test.YtcijdjanpajndaaG
namespace Go.Proofs.Ytcijdjanpajndaa.Pure
open Go.RowKit Go.Proofs.Ytcijdjanpajndaa.PFnExactGoodCells Go.Proofs.YtcijdjanpajndaaW.PrintWords Go.Proofs.YtcijdjanpajndaaW.PrintLast
set_option linter.unusedVariables false
set_option linter.unusedSimpArgs false

theorem laws_eqIntS_refl (l : List Int) (hl : l.length ≤ 1048576) : Ev (fun k => laws_eqIntS.f k l l) true := by
  unfold laws_eqIntS.f
  refine G.pos rfl (G.true_loop (F := fun k i => laws_eqIntS.l0 k l l i) l.length ?_ ?_)
  · intro k; simp only [laws_eqIntS.l0]; rw [if_neg (by omega)]
  · intro k i h
    simp only [laws_eqIntS.l0]
    rw [if_pos (by omega), if_pos (by omega), if_pos (by omega), if_pos trivial, G.w64 _ (by omega)]

theorem laws_szIntS_le (l : List Int) (a : Int) (ha : 0 ≤ a) (ha' : a ≤ 1048576) (h : (l.length : Int) ≤ a) : laws_szIntS.f l a = some (a - l.length) := by
  unfold laws_szIntS.f
  rw [G.w64' (by omega) (by omega), if_neg (by omega)]
theorem laws_szIntS_gt (l : List Int) (a : Int) (ha : 0 ≤ a) (ha' : a ≤ 1048576) (hm : l.length ≤ 9223372036854775807) (h : a < (l.length : Int)) : laws_szIntS.f l a = some (-1) := by
  unfold laws_szIntS.f
  rw [G.w64' (by omega) (by omega), if_pos (by omega)]

theorem laws_toIntS_ev (l : List Int) (hl : l.length ≤ 1048576) : Ev (fun k => laws_toIntS.f k l) l := by
  simp only [laws_toIntS.f]
  refine G.pos (by omega) (G.pos (by omega) ?_)
  have h := G.to_loop (fun k out i => laws_toIntS.l0 k l out i) l id ?_ ?_ 0 (Nat.zero_le _) (List.replicate l.length 0) (by simp) (by simp)
  · simpa using h
  · intro k out; simp only [laws_toIntS.l0]; rw [if_neg (by omega)]
  · intro k out i h ho
    simp only [laws_toIntS.l0]
    rw [if_pos (by omega), if_pos (by omega), if_pos (by omega), G.w64 _ (by omega), G.rd_nat h]
    simp

theorem sized_is (a : Int) (n : Nat) (hn : n ≤ 1048576) : ∃ b, spec_l12Sized.f a n = some b ∧ impl_squared.f a n = some b := by
  unfold spec_l12Sized.f impl_squared.f
  by_cases h1 : a ≥ 1
  · rw [if_pos h1, if_pos h1]
    by_cases h2 : a ≤ 16
    · rw [if_pos h2, if_pos h2, if_neg (show ¬ a = 0 by omega), if_neg (show ¬ a = 0 by omega), Int.tmod_eq_emod_of_nonneg (by omega), Int.tdiv_eq_ediv_of_nonneg (by omega)]
      have hd : 0 ≤ (n : Int) / a := Int.ediv_nonneg (by omega) (by omega)
      have hm := Int.emod_add_mul_ediv (n : Int) a
      have hlt := Int.emod_lt_of_pos (n : Int) (show 0 < a by omega)
      have hm0 := Int.emod_nonneg (n : Int) (show a ≠ 0 by omega)
      by_cases h4 : (n : Int) % a = 0
      · by_cases h3 : (n : Int) ≥ a
        · rw [if_pos h3, if_pos h4, if_pos h4]
          have hq : (n : Int) / a ≥ 1 := Int.le_ediv_of_mul_le (by omega) (by omega)
          have h5 : (n : Int) / a ≤ n := Int.ediv_le_self _ (by omega)
          rw [G.w64' (by omega) (by omega), if_pos hq]; exact ⟨_, rfl, rfl⟩
        · rw [if_neg h3, if_pos h4]
          have hq : (n : Int) / a = 0 := Int.ediv_eq_zero_of_lt (by omega) (by omega)
          rw [hq, G.w64' (by omega) (by omega), if_neg (by omega)]; exact ⟨_, rfl, rfl⟩
      · rw [if_neg h4, if_neg h4]; exact ⟨false, by split <;> rfl, rfl⟩
    · rw [if_neg h2, if_neg h2]; exact ⟨_, rfl, rfl⟩
  · rw [if_neg h1, if_neg h1]; exact ⟨_, rfl, rfl⟩
def okc (n : Int) : Bool := decide (0 ≤ n ∧ n ≤ 2)
theorem body (n : Int) {α : Type} (x y : α) : (if okc n = true then x else y) = if n < 0 then y else if n > 2 then y else x := by
  unfold okc
  by_cases h1 : n < 0
  · rw [if_pos h1, if_neg (by simp; omega)]
  · rw [if_neg h1]
    by_cases h2 : n > 2
    · rw [if_pos h2, if_neg (by simp; omega)]
    · rw [if_neg h2, if_pos (by simp; omega)]
theorem spec_l0 (l : List Int) (hl : l.length ≤ 1048576) : Ev (fun k => spec_GoodCells.l0 k l l.length 0) (l.all okc && true) := by
  refine G.all_loop (F := fun k i => spec_GoodCells.l0 k l l.length i) l okc true ?_ ?_
  · intro k; simp only [spec_GoodCells.l0]; rw [if_neg (by omega)]
  · intro k i h
    simp only [spec_GoodCells.l0]
    rw [if_pos (by omega), if_pos (by omega), if_pos (by omega), G.rd_nat h, G.w64 _ (by omega), body]
theorem impl_l0 (l : List Int) (hl : l.length ≤ 1048576) : Ev (fun k => impl_GoodCells.l0 k l l.length 0) (l.all okc && true) := by
  refine G.all_loop (F := fun k i => impl_GoodCells.l0 k l l.length i) l okc true ?_ ?_
  · intro k; simp only [impl_GoodCells.l0]; rw [if_neg (by omega)]
  · intro k i h
    simp only [impl_GoodCells.l0]
    rw [if_pos (by omega), if_pos (by omega), if_pos (by omega), G.rd_nat h, G.w64 _ (by omega), body]
theorem good_is (a : Int) (l : List Int) (hl : l.length ≤ 1048576) : ∃ r, Ev (fun k => spec_GoodCells.f k a l) r ∧ Ev (fun k => impl_GoodCells.f k a l) r := by
  obtain ⟨b, h1, h2⟩ := sized_is a l.length hl
  simp only [spec_GoodCells.f, impl_GoodCells.f]
  cases b with
  | true => exact ⟨_, G.bind0 h1 (G.pos rfl (spec_l0 l hl)), G.bind0 h2 (G.pos rfl (impl_l0 l hl))⟩
  | false => exact ⟨false, G.bind0 h1 (G.neg (by simp) (G.now fun _ => rfl)), G.bind0 h2 (G.neg (by simp) (G.now fun _ => rfl))⟩
theorem FnExactGoodCells (a : Int) (l : List Int) {P Q : Prop} (ok : P ∧ (l.length ≤ 9223372036854775807 ∧ Q)) : ∃ k, laws_FnExactGoodCells.f k a l = some true := by
  refine Ev.rounds ?_
  simp only [laws_FnExactGoodCells.f, laws_szCells.f]
  by_cases hl : l.length ≤ 1048576
  · rw [laws_szIntS_le l _ (by omega) (by omega) (by omega)]
    have ht : Ev (fun k => laws_toCells.f k a l) (a, l) := by
      simp only [laws_toCells.f]
      exact G.bind (laws_toIntS_ev l hl) (G.now fun _ => rfl)
    obtain ⟨r, h1, h2⟩ := good_is a l hl
    have he : Ev (fun k => laws_eqCells.f k a l a l) true := by
      unfold laws_eqCells.f
      exact G.pos rfl (G.bind (laws_eqIntS_refl l hl) (G.pos rfl (G.now fun _ => rfl)))
    exact G.bind0 (a := 1048576 - (l.length : Int)) (by simp only [Option.bind_some]; rw [if_neg (by omega)]) (G.neg (by omega) (G.bind ht (G.bind h1 (G.bind ht (G.bind h2 (G.neg (by simp) (G.bind ht (G.bind he (G.pos rfl (G.now fun _ => rfl))))))))))
  · rw [laws_szIntS_gt l _ (by omega) (by omega) ok.2.1 (by omega)]
    exact G.bind0 (a := -1) rfl (G.pos (by omega) (G.now fun _ => rfl))

end Go.Proofs.Ytcijdjanpajndaa.Pure
