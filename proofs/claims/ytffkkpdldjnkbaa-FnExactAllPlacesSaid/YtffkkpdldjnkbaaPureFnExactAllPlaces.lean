/- For all arguments the printed law ExactAllPlaces answers true: plain lists and numbers, no memory. Conditions: none beyond what the program's own guards ask. -/
import Derived.Test.YtffkkpdldjnkbaaQFnExactAllPlacesx3
import Derived.Test.YtffkkpdldjnkbaaG
namespace Go.Proofs.Ytffkkpdldjnkbaa.Pure
open Go.RowKit Go.Proofs.Ytffkkpdldjnkbaa.PFnExactAllPlaces Go.Proofs.YtffkkpdldjnkbaaW.PrintWords Go.Proofs.YtffkkpdldjnkbaaW.PrintLast
set_option linter.unusedVariables false
set_option linter.unusedSimpArgs false

theorem laws_eqIntS_refl (l : List Int) (hl : l.length ≤ 1048576) : Ev (fun k => laws_eqIntS.f k l l) true := by
  unfold laws_eqIntS.f
  refine G.pos rfl (G.true_loop (F := fun k i => laws_eqIntS.l0 k l l i) l.length ?_ ?_)
  · intro k; simp only [laws_eqIntS.l0]; rw [if_neg (by omega)]
  · intro k i h
    simp only [laws_eqIntS.l0]
    rw [if_pos (by omega), if_pos (by omega), if_pos (by omega), if_pos trivial, G.w64 _ (by omega)]

theorem laws_markIntS_ev (l : List Int) (m : Int) (h0 : 0 ≤ m) (h1 : m ≤ 4194304) (hl : l.length ≤ 1048576) : Ev (fun k => laws_markIntS.f k l m) (m + l.length, G.marks id m 1 l.length) := by
  simp only [laws_markIntS.f]
  have h := G.mark_loop id m 1 l.length (fun k l m i => laws_markIntS.l0 k l m i) ?_ ?_ l rfl
  · simpa using h
  · intro k l' m hl'; simp only [laws_markIntS.l0]; rw [if_neg (by omega)]
  · intro k l' i h hl'
    simp only [laws_markIntS.l0]
    rw [if_pos (by omega), if_pos (by omega), G.w64 _ (by omega), G.w64' (by omega) (by omega)]
    simp only [Int.toNat_natCast, id]
    congr 1
    omega

theorem laws_szIntS_le (l : List Int) (a : Int) (ha : 0 ≤ a) (ha' : a ≤ 1048576) (h : (l.length : Int) ≤ a) : laws_szIntS.f l a = some (a - l.length) := by
  unfold laws_szIntS.f
  rw [G.w64' (by omega) (by omega), if_neg (by omega)]
theorem laws_szIntS_gt (l : List Int) (a : Int) (ha : 0 ≤ a) (ha' : a ≤ 1048576) (hm : l.length ≤ 9223372036854775807) (h : a < (l.length : Int)) : laws_szIntS.f l a = some (-1) := by
  unfold laws_szIntS.f
  rw [G.w64' (by omega) (by omega), if_pos (by omega)]

theorem laws_toIntS_ev (l : List Int) (hl : l.length ≤ 1048576) : Ev (fun k => laws_toIntS.f k l) l := by
  simp only [laws_toIntS.f]
  refine G.pos (by omega) (G.pos (by omega) ?_)
  have h := G.to_loop (fun k out i => laws_toIntS.l0 k l out i) l id ?_ ?_ 0 (Nat.zero_le _) (List.replicate l.length 0) (by simp) (by simp)
  · simpa using h
  · intro k out; simp only [laws_toIntS.l0]; rw [if_neg (by omega)]
  · intro k out i h ho
    simp only [laws_toIntS.l0]
    rw [if_pos (by omega), if_pos (by omega), if_pos (by omega), G.w64 _ (by omega), G.rd_nat h]
    simp

theorem laws_heldIntS_ev (m : Int) (n : Nat) (h0 : 0 ≤ m) (h1 : m ≤ 4194304) (hl : n ≤ 1048576) : Ev (fun k => laws_heldIntS.f k (G.marks id m 1 n) m) (m + n) := by
  simp only [laws_heldIntS.f]
  have h := G.held_loop m 1 n (fun k m' i => laws_heldIntS.l0 k (G.marks id m 1 n) m' i) ?_ ?_
  · simpa using h
  · intro k m'; simp only [laws_heldIntS.l0]; rw [if_neg (by rw [G.marks_length]; omega)]
  · intro k i h
    simp only [laws_heldIntS.l0]
    rw [if_pos (by rw [G.marks_length]; omega), if_pos (by omega), G.rd_nat (by rw [G.marks_length]; omega), G.marks_get, if_pos (by simp), G.w64 _ (by omega), G.w64' (by omega) (by omega)]
    congr 1
    omega

theorem sized_is (a : Int) (n : Nat) (hn : n ≤ 1048576) : ∃ b, spec_l12Sized.f a n = some b ∧ impl_squared.f a n = some b := by
  unfold spec_l12Sized.f impl_squared.f
  by_cases h1 : a ≥ 1
  · rw [if_pos h1, if_pos h1]
    by_cases h2 : a ≤ 16
    · rw [if_pos h2, if_pos h2, if_neg (show ¬ a = 0 by omega), if_neg (show ¬ a = 0 by omega), Int.tmod_eq_emod_of_nonneg (by omega), Int.tdiv_eq_ediv_of_nonneg (by omega)]
      have hd : 0 ≤ (n : Int) / a := Int.ediv_nonneg (by omega) (by omega)
      have hm := Int.emod_add_mul_ediv (n : Int) a
      have hlt := Int.emod_lt_of_pos (n : Int) (show 0 < a by omega)
      have hm0 := Int.emod_nonneg (n : Int) (show a ≠ 0 by omega)
      by_cases h4 : (n : Int) % a = 0
      · by_cases h3 : (n : Int) ≥ a
        · rw [if_pos h3, if_pos h4, if_pos h4]
          have hq : (n : Int) / a ≥ 1 := Int.le_ediv_of_mul_le (by omega) (by omega)
          have h5 : (n : Int) / a ≤ n := Int.ediv_le_self _ (by omega)
          rw [G.w64' (by omega) (by omega), if_pos hq]; exact ⟨_, rfl, rfl⟩
        · rw [if_neg h3, if_pos h4]
          have hq : (n : Int) / a = 0 := Int.ediv_eq_zero_of_lt (by omega) (by omega)
          rw [hq, G.w64' (by omega) (by omega), if_neg (by omega)]; exact ⟨_, rfl, rfl⟩
      · rw [if_neg h4, if_neg h4]; exact ⟨false, by split <;> rfl, rfl⟩
    · rw [if_neg h2, if_neg h2]; exact ⟨_, rfl, rfl⟩
  · rw [if_neg h1, if_neg h1]; exact ⟨_, rfl, rfl⟩
def okc (n : Int) : Bool := decide (0 ≤ n ∧ n ≤ 2)
theorem cbody (n : Int) {α : Type} (x y : α) : (if okc n = true then x else y) = if n < 0 then y else if n > 2 then y else x := by
  unfold okc
  by_cases h1 : n < 0
  · rw [if_pos h1, if_neg (by simp; omega)]
  · rw [if_neg h1]
    by_cases h2 : n > 2
    · rw [if_pos h2, if_neg (by simp; omega)]
    · rw [if_neg h2, if_pos (by simp; omega)]
theorem cells_spec_l0 (l : List Int) (hl : l.length ≤ 1048576) : Ev (fun k => spec_GoodCells.l0 k l l.length 0) (l.all okc && true) := by
  refine G.all_loop (F := fun k i => spec_GoodCells.l0 k l l.length i) l okc true ?_ ?_
  · intro k; simp only [spec_GoodCells.l0]; rw [if_neg (by omega)]
  · intro k i h
    simp only [spec_GoodCells.l0]
    rw [if_pos (by omega), if_pos (by omega), if_pos (by omega), G.rd_nat h, G.w64 _ (by omega), cbody]
theorem cells_impl_l0 (l : List Int) (hl : l.length ≤ 1048576) : Ev (fun k => impl_GoodCells.l0 k l l.length 0) (l.all okc && true) := by
  refine G.all_loop (F := fun k i => impl_GoodCells.l0 k l l.length i) l okc true ?_ ?_
  · intro k; simp only [impl_GoodCells.l0]; rw [if_neg (by omega)]
  · intro k i h
    simp only [impl_GoodCells.l0]
    rw [if_pos (by omega), if_pos (by omega), if_pos (by omega), G.rd_nat h, G.w64 _ (by omega), cbody]
theorem goodcells_is (a : Int) (l : List Int) (hl : l.length ≤ 1048576) : ∃ r, Ev (fun k => spec_GoodCells.f k a l) r ∧ Ev (fun k => impl_GoodCells.f k a l) r := by
  obtain ⟨b, h1, h2⟩ := sized_is a l.length hl
  simp only [spec_GoodCells.f, impl_GoodCells.f]
  cases b with
  | true => exact ⟨_, G.bind0 h1 (G.pos rfl (cells_spec_l0 l hl)), G.bind0 h2 (G.pos rfl (cells_impl_l0 l hl))⟩
  | false => exact ⟨false, G.bind0 h1 (G.neg (by simp) (G.now fun _ => rfl)), G.bind0 h2 (G.neg (by simp) (G.now fun _ => rfl))⟩
theorem szcells_le (a : Int) (l : List Int) (hl : l.length ≤ 1048576) : laws_szCells.f a l 1048576 = some (1048576 - (l.length : Int)) := by
  unfold laws_szCells.f
  rw [laws_szIntS_le l _ (by omega) (by omega) (by omega)]
  simp only [Option.bind_some]; rw [if_neg (by omega)]
theorem szcells_gt (a : Int) (l : List Int) (hm : l.length ≤ 9223372036854775807) (hl : ¬ l.length ≤ 1048576) : laws_szCells.f a l 1048576 = some (-1) := by
  unfold laws_szCells.f
  rw [laws_szIntS_gt l _ (by omega) (by omega) hm (by omega)]; rfl
theorem tocells_ev (a : Int) (l : List Int) (hl : l.length ≤ 1048576) : Ev (fun k => laws_toCells.f k a l) (a, l) := by
  simp only [laws_toCells.f]
  exact G.bind (laws_toIntS_ev l hl) (G.now fun _ => rfl)
theorem eqcells_ev (a : Int) (l : List Int) (hl : l.length ≤ 1048576) : Ev (fun k => laws_eqCells.f k a l a l) true := by
  unfold laws_eqCells.f
  exact G.pos rfl (G.bind (laws_eqIntS_refl l hl) (G.pos rfl (G.now fun _ => rfl)))
theorem markcells_ev (a : Int) (l : List Int) (hl : l.length ≤ 1048576) : Ev (fun k => laws_markCells.f k a l 1) (1 + l.length, G.marks id 1 1 l.length) := by
  simp only [laws_markCells.f]
  exact G.bind (laws_markIntS_ev l 1 (by omega) (by omega) hl) (G.now fun _ => rfl)
theorem free_is (a : Int) (l : List Int) {i : Nat} (h : i < l.length) : impl_Cells_free.f a l (i : Int) = some (l[i] == 0) := by
  unfold impl_Cells_free.f
  rw [if_pos (by omega), if_pos (by omega), if_pos (by omega), G.rd_nat h]
theorem all_l0 (a : Int) (l : List Int) (hl : l.length ≤ 1048576) : ∀ i, i ≤ l.length → ∀ out : List Int, out.length ≤ i → ∃ r, Ev (fun k => spec_AllPlaces.l0 k out l.length (i : Int) a l) r ∧ Ev (fun k => impl_AllPlaces.l0 k out l.length (i : Int) a l) r ∧ r.length ≤ l.length := by
  refine G.down_ind l.length (fun i => ∀ out : List Int, out.length ≤ i → ∃ r, Ev (fun k => spec_AllPlaces.l0 k out l.length (i : Int) a l) r ∧ Ev (fun k => impl_AllPlaces.l0 k out l.length (i : Int) a l) r ∧ r.length ≤ l.length) ?_ ?_
  · intro out ho
    refine ⟨out, G.succ (G.now fun k => ?_), G.succ (G.now fun k => ?_), ho⟩
    · simp only [spec_AllPlaces.l0]; rw [if_neg (by omega)]
    · simp only [impl_AllPlaces.l0]; rw [if_neg (by omega)]
  · intro i hi ih out ho
    by_cases h0 : l[i] = 0
    · obtain ⟨r, h1, h2, h3⟩ := ih (out ++ [(i : Int)]) (by simp; omega)
      refine ⟨r, G.succ ?_, G.succ ?_, h3⟩
      · simp only [spec_AllPlaces.l0, G.rd_nat hi, G.w64 i (by omega)]
        exact G.pos (by omega) (G.pos (by omega) (G.pos (by omega) (G.pos h0 (G.pos (by omega) h1))))
      · simp only [impl_AllPlaces.l0, free_is a l hi, Option.bind_some, G.w64 i (by omega)]
        exact G.pos (by omega) (G.pos (by simp [h0]) (G.pos (by omega) h2))
    · obtain ⟨r, h1, h2, h3⟩ := ih out (by omega)
      refine ⟨r, G.succ ?_, G.succ ?_, h3⟩
      · simp only [spec_AllPlaces.l0, G.rd_nat hi, G.w64 i (by omega)]
        exact G.pos (by omega) (G.pos (by omega) (G.pos (by omega) (G.neg h0 h1)))
      · simp only [impl_AllPlaces.l0, free_is a l hi, Option.bind_some, G.w64 i (by omega)]
        exact G.pos (by omega) (G.neg (by simp [h0]) h2)
theorem places_is (a : Int) (l : List Int) (hl : l.length ≤ 1048576) : ∃ r, Ev (fun k => spec_AllPlaces.f k a l) r ∧ Ev (fun k => impl_AllPlaces.f k a l) r ∧ r.length ≤ l.length := by
  obtain ⟨g, h1, h2⟩ := goodcells_is a l hl
  simp only [spec_AllPlaces.f, impl_AllPlaces.f]
  cases g with
  | false => exact ⟨[], G.bind h1 (G.neg (by simp) (G.now fun _ => rfl)), G.bind h2 (G.neg (by simp) (G.now fun _ => rfl)), by simp⟩
  | true =>
    obtain ⟨r, e1, e2, e3⟩ := all_l0 a l hl 0 (Nat.zero_le _) [] (Nat.le_refl _)
    exact ⟨r, G.bind h1 (G.pos rfl e1), G.bind h2 (G.pos rfl e2), e3⟩
theorem FnExactAllPlaces (a : Int) (l : List Int) {P Q : Prop} (ok : P ∧ (l.length ≤ 9223372036854775807 ∧ Q)) : ∃ k, laws_FnExactAllPlaces.f k a l = some true := by
  refine Ev.rounds ?_
  simp only [laws_FnExactAllPlaces.f]
  by_cases hl : l.length ≤ 1048576
  · have ht := tocells_ev a l hl
    obtain ⟨o, h1, h2, h3⟩ := places_is a l hl
    have ho := laws_eqIntS_refl o (by omega)
    have hh := laws_heldIntS_ev 1 o.length (by omega) (by omega) (by omega)
    refine G.bind0 (szcells_le a l hl) (G.neg (by omega) (G.bind ht (G.bind h1 (G.bind ht (G.bind h2 (G.bind ho (G.pos rfl (G.bind ht (G.bind (eqcells_ev a l hl) (G.pos rfl (G.bind (markcells_ev a l hl) (G.neg (by omega) (G.bind ho ?_)))))))))))))
    refine G.succ ?_
    simp only [laws_FnExactAllPlaces.j0]
    exact G.neg (by simp) (G.bind (laws_markIntS_ev o 1 (by omega) (by omega) (by omega)) (G.bind hh (G.neg (by omega) (G.pos rfl (G.bind ht (G.bind h2 (G.bind ho (G.pos rfl (G.bind hh (G.neg (by omega) (G.pos rfl (G.now fun _ => rfl)))))))))))) 
  · exact G.bind0 (szcells_gt a l ok.2.1 hl) (G.pos (by omega) (G.now fun _ => rfl))

end Go.Proofs.Ytffkkpdldjnkbaa.Pure
