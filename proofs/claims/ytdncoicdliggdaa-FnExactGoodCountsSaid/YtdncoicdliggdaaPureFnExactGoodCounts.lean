/- For all arguments the printed law ExactGoodCounts answers true: plain lists and numbers, no memory. Conditions: none beyond what the program's own guards ask. -/
import Derived.Test.YtdncoicdliggdaaQFnExactGoodCountsx3
import Derived.Test.YtdncoicdliggdaaG
namespace Go.Proofs.Ytdncoicdliggdaa.Pure
open Go.RowKit Go.Proofs.Ytdncoicdliggdaa.PFnExactGoodCounts Go.Proofs.YtdncoicdliggdaaW.PrintWords Go.Proofs.YtdncoicdliggdaaW.PrintLast
set_option linter.unusedVariables false
set_option linter.unusedSimpArgs false

theorem laws_eqIntS_refl (l : List Int) (hl : l.length ≤ 1048576) : Ev (fun k => laws_eqIntS.f k l l) true := by
  unfold laws_eqIntS.f
  refine G.pos rfl (G.true_loop (F := fun k i => laws_eqIntS.l0 k l l i) l.length ?_ ?_)
  · intro k; simp only [laws_eqIntS.l0]; rw [if_neg (by omega)]
  · intro k i h
    simp only [laws_eqIntS.l0]
    rw [if_pos (by omega), if_pos (by omega), if_pos (by omega), if_pos trivial, G.w64 _ (by omega)]

theorem laws_szIntS_le (l : List Int) (a : Int) (ha : 0 ≤ a) (ha' : a ≤ 1048576) (h : (l.length : Int) ≤ a) : laws_szIntS.f l a = some (a - l.length) := by
  unfold laws_szIntS.f
  rw [G.w64' (by omega) (by omega), if_neg (by omega)]
theorem laws_szIntS_gt (l : List Int) (a : Int) (ha : 0 ≤ a) (ha' : a ≤ 1048576) (hm : l.length ≤ 9223372036854775807) (h : a < (l.length : Int)) : laws_szIntS.f l a = some (-1) := by
  unfold laws_szIntS.f
  rw [G.w64' (by omega) (by omega), if_pos (by omega)]

theorem laws_toIntS_ev (l : List Int) (hl : l.length ≤ 1048576) : Ev (fun k => laws_toIntS.f k l) l := by
  simp only [laws_toIntS.f]
  refine G.pos (by omega) (G.pos (by omega) ?_)
  have h := G.to_loop (fun k out i => laws_toIntS.l0 k l out i) l id ?_ ?_ 0 (Nat.zero_le _) (List.replicate l.length 0) (by simp) (by simp)
  · simpa using h
  · intro k out; simp only [laws_toIntS.l0]; rw [if_neg (by omega)]
  · intro k out i h ho
    simp only [laws_toIntS.l0]
    rw [if_pos (by omega), if_pos (by omega), if_pos (by omega), G.w64 _ (by omega), G.rd_nat h]
    simp

theorem sized_is (a : Int) (n : Nat) (hn : n ≤ 1048576) : ∃ b, spec_l12Sized.f a n = some b ∧ impl_squared.f a n = some b := by
  unfold spec_l12Sized.f impl_squared.f
  by_cases h1 : a ≥ 1
  · rw [if_pos h1, if_pos h1]
    by_cases h2 : a ≤ 16
    · rw [if_pos h2, if_pos h2, if_neg (show ¬ a = 0 by omega), if_neg (show ¬ a = 0 by omega), Int.tmod_eq_emod_of_nonneg (by omega), Int.tdiv_eq_ediv_of_nonneg (by omega)]
      have hd : 0 ≤ (n : Int) / a := Int.ediv_nonneg (by omega) (by omega)
      have hm := Int.emod_add_mul_ediv (n : Int) a
      have hlt := Int.emod_lt_of_pos (n : Int) (show 0 < a by omega)
      have hm0 := Int.emod_nonneg (n : Int) (show a ≠ 0 by omega)
      by_cases h4 : (n : Int) % a = 0
      · by_cases h3 : (n : Int) ≥ a
        · rw [if_pos h3, if_pos h4, if_pos h4]
          have hq : (n : Int) / a ≥ 1 := Int.le_ediv_of_mul_le (by omega) (by omega)
          have h5 : (n : Int) / a ≤ n := Int.ediv_le_self _ (by omega)
          rw [G.w64' (by omega) (by omega), if_pos hq]; exact ⟨_, rfl, rfl⟩
        · rw [if_neg h3, if_pos h4]
          have hq : (n : Int) / a = 0 := Int.ediv_eq_zero_of_lt (by omega) (by omega)
          rw [hq, G.w64' (by omega) (by omega), if_neg (by omega)]; exact ⟨_, rfl, rfl⟩
      · rw [if_neg h4, if_neg h4]; exact ⟨false, by split <;> rfl, rfl⟩
    · rw [if_neg h2, if_neg h2]; exact ⟨_, rfl, rfl⟩
  · rw [if_neg h1, if_neg h1]; exact ⟨_, rfl, rfl⟩
def okn (n : Int) : Bool := decide (0 ≤ n ∧ n ≤ 1000000)
theorem body (n : Int) {α : Type} (x y : α) : (if okn n = true then x else y) = if n < 0 then y else if n > 1000000 then y else x := by
  unfold okn
  by_cases h1 : n < 0
  · rw [if_pos h1, if_neg (by simp; omega)]
  · rw [if_neg h1]
    by_cases h2 : n > 1000000
    · rw [if_pos h2, if_neg (by simp; omega)]
    · rw [if_neg h2, if_pos (by simp; omega)]
theorem spec_l0 (a : Int) (l m : List Int) (hl : l.length ≤ 1048576) (hm : m.length = l.length) : ∀ i, i ≤ l.length → Ev (fun k => spec_GoodCounts.l0 k l.length (i : Int) a l m) ((l.drop i).all okn && (m.drop i).all okn) := by
  refine G.down_ind l.length (fun i => Ev (fun k => spec_GoodCounts.l0 k l.length (i : Int) a l m) ((l.drop i).all okn && (m.drop i).all okn)) ?_ ?_
  · refine G.succ (G.now fun k => ?_)
    simp only [spec_GoodCounts.l0]; rw [if_neg (by omega), List.drop_eq_nil_of_le (by omega), List.drop_eq_nil_of_le (by omega)]; rfl
  · intro i hi ih
    refine G.succ ?_
    simp only [spec_GoodCounts.l0, ← body]
    refine G.pos (by omega) (G.pos (by omega) (G.pos (by omega) ?_))
    rw [G.rd_nat hi, G.rd_nat (l := m) (by omega), List.drop_eq_getElem_cons hi, List.drop_eq_getElem_cons (l := m) (by omega), List.all_cons, List.all_cons, G.w64 _ (by omega)]
    refine G.ite (fun h1 => G.pos (by omega) (G.ite (fun h2 => ?_) (fun h2 => G.now fun _ => ?_))) (fun h1 => G.now fun _ => ?_)
    · rw [h1, h2]; simpa using ih
    · simp only [Bool.not_eq_true] at h2; rw [h2]; simp
    · simp only [Bool.not_eq_true] at h1; rw [h1]; simp
theorem impl_l1 (L : List (List Int)) (n j : Int) (l : List Int) (hl : l.length ≤ 1048576) (b : Bool) (h : Ev (fun k => impl_GoodCounts.l0 k L n (wrap64 (j + 1))) b) : ∀ i, i ≤ l.length → Ev (fun k => impl_GoodCounts.l1 k L n j l l.length (i : Int)) ((l.drop i).all okn && b) := by
  refine G.down_ind l.length (fun i => Ev (fun k => impl_GoodCounts.l1 k L n j l l.length (i : Int)) ((l.drop i).all okn && b)) ?_ ?_
  · refine G.succ ?_
    simp only [impl_GoodCounts.l1]; refine G.neg (by omega) ?_; rw [List.drop_eq_nil_of_le (by omega)]; simpa using h
  · intro i hi ih
    refine G.succ ?_
    simp only [impl_GoodCounts.l1, ← body]
    refine G.pos (by omega) (G.pos (by omega) (G.pos (by omega) ?_))
    rw [G.rd_nat hi, List.drop_eq_getElem_cons hi, List.all_cons, G.w64 _ (by omega)]
    refine G.ite (fun h1 => ?_) (fun h1 => G.now fun _ => ?_)
    · rw [h1]; simpa using ih
    · simp only [Bool.not_eq_true] at h1; rw [h1]; simp
theorem impl_l0 (l m : List Int) (hl : l.length ≤ 1048576) (hm : m.length ≤ 1048576) : Ev (fun k => impl_GoodCounts.l0 k [l, m] 2 0) (l.all okn && m.all okn) := by
  have h2 : Ev (fun k => impl_GoodCounts.l0 k [l, m] 2 (wrap64 (1 + 1))) true := by
    refine G.succ (G.now fun k => ?_)
    simp only [impl_GoodCounts.l0]; rw [G.w64' (by omega) (by omega), if_neg (by omega)]
  have h1 : Ev (fun k => impl_GoodCounts.l0 k [l, m] 2 (wrap64 (0 + 1))) (m.all okn && true) := by
    rw [G.w64' (by omega) (by omega)]
    refine G.succ ?_
    simp only [impl_GoodCounts.l0]
    refine G.pos (by omega) (G.pos (by omega) (G.pos (by simp) ?_))
    exact impl_l1 [l, m] 2 1 m hm true h2 0 (Nat.zero_le _)
  refine G.succ ?_
  simp only [impl_GoodCounts.l0]
  refine G.pos (by omega) (G.pos (by omega) (G.pos (by simp) ?_))
  refine G.eqv (impl_l1 [l, m] 2 0 l hl _ h1 0 (Nat.zero_le _)) ?_
  simp
theorem good_is (a : Int) (l m : List Int) (hl : l.length ≤ 1048576) (hm : m.length ≤ 1048576) : ∃ r, Ev (fun k => spec_GoodCounts.f k a l m) r ∧ Ev (fun k => impl_GoodCounts.f k a l m) r := by
  obtain ⟨b, h1, h2⟩ := sized_is a l.length hl
  have js : Ev (fun k => spec_GoodCounts.j0 k true a l m) false := G.succ (G.now fun k => by simp [spec_GoodCounts.j0])
  have ji : Ev (fun k => impl_GoodCounts.j0 k true a l m) false := G.succ (G.now fun k => by simp [impl_GoodCounts.j0])
  simp only [spec_GoodCounts.f, impl_GoodCounts.f]
  cases b with
  | false => exact ⟨false, G.bind0 h1 (G.neg (by simp) js), G.bind0 h2 (G.neg (by simp) ji)⟩
  | true =>
    by_cases he : m.length = l.length
    · have e1 : ((m.length : Int) != (l.length : Int)) = false := by rw [he]; simp
      refine ⟨l.all okn && m.all okn, G.bind0 h1 (G.pos rfl ?_), G.bind0 h2 (G.pos rfl ?_)⟩
      · rw [e1]; refine G.succ ?_
        simp only [spec_GoodCounts.j0]
        exact G.neg (by simp) (spec_l0 a l m hl he 0 (Nat.zero_le _))
      · rw [e1]; refine G.succ ?_
        simp only [impl_GoodCounts.j0]
        exact G.neg (by simp) (G.bind0 rfl (impl_l0 l m hl hm))
    · have e1 : ((m.length : Int) != (l.length : Int)) = true := by simp; omega
      refine ⟨false, G.bind0 h1 (G.pos rfl ?_), G.bind0 h2 (G.pos rfl ?_)⟩
      · rw [e1]; exact js
      · rw [e1]; exact ji
theorem FnExactGoodCounts (a : Int) (l m : List Int) {P Q R : Prop} (ok : P ∧ (l.length ≤ 9223372036854775807 ∧ Q) ∧ (m.length ≤ 9223372036854775807 ∧ R)) : ∃ k, laws_FnExactGoodCounts.f k a l m = some true := by
  refine Ev.rounds ?_
  simp only [laws_FnExactGoodCounts.f, laws_szCounts.f]
  by_cases hl : l.length ≤ 1048576
  · rw [laws_szIntS_le l _ (by omega) (by omega) (by omega)]
    by_cases hm : l.length + m.length ≤ 1048576
    · have hz : laws_szIntS.f m (1048576 - (l.length : Int)) = some (1048576 - (l.length : Int) - m.length) := laws_szIntS_le m _ (by omega) (by omega) (by omega)
      have ht : Ev (fun k => laws_toCounts.f k a l m) (a, l, m) := by
        simp only [laws_toCounts.f]
        exact G.bind (laws_toIntS_ev l hl) (G.bind (laws_toIntS_ev m (by omega)) (G.now fun _ => rfl))
      obtain ⟨r, h1, h2⟩ := good_is a l m hl (by omega)
      have he : Ev (fun k => laws_eqCounts.f k a l m a l m) true := by
        unfold laws_eqCounts.f
        exact G.pos rfl (G.bind (laws_eqIntS_refl l hl) (G.pos rfl (G.bind (laws_eqIntS_refl m (by omega)) (G.pos rfl (G.now fun _ => rfl)))))
      exact G.bind0 (a := 1048576 - (l.length : Int) - m.length) (by simp only [Option.bind_some]; rw [if_neg (by omega), hz]; simp only [Option.bind_some]; rw [if_neg (by omega)])
        (G.neg (by omega) (G.bind ht (G.bind h1 (G.bind ht (G.bind h2 (G.neg (by simp) (G.bind ht (G.bind he (G.pos rfl (G.now fun _ => rfl))))))))))
    · have hz : laws_szIntS.f m (1048576 - (l.length : Int)) = some (-1) := laws_szIntS_gt m _ (by omega) (by omega) ok.2.2.1 (by omega)
      exact G.bind0 (a := -1) (by simp only [Option.bind_some]; rw [if_neg (by omega), hz]; rfl) (G.pos (by omega) (G.now fun _ => rfl))
  · rw [laws_szIntS_gt l _ (by omega) (by omega) ok.2.1.1 (by omega)]
    exact G.bind0 (a := -1) rfl (G.pos (by omega) (G.now fun _ => rfl))

end Go.Proofs.Ytdncoicdliggdaa.Pure
