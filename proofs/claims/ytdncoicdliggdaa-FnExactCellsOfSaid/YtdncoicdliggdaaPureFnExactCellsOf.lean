/- For all arguments the printed law ExactCellsOf answers true: plain lists and numbers, no memory. Conditions: none beyond what the program's own guards ask. -/
import Derived.Test.YtdncoicdliggdaaQFnExactCellsOfx5
import Derived.Test.YtdncoicdliggdaaG
namespace Go.Proofs.Ytdncoicdliggdaa.Pure
open Go.RowKit Go.Proofs.Ytdncoicdliggdaa.PFnExactCellsOf Go.Proofs.YtdncoicdliggdaaW.PrintWords Go.Proofs.YtdncoicdliggdaaW.PrintLast
set_option linter.unusedVariables false
set_option linter.unusedSimpArgs false

theorem laws_eqIntS_refl (l : List Int) (hl : l.length ≤ 1048576) : Ev (fun k => laws_eqIntS.f k l l) true := by
  unfold laws_eqIntS.f
  refine G.pos rfl (G.true_loop (F := fun k i => laws_eqIntS.l0 k l l i) l.length ?_ ?_)
  · intro k; simp only [laws_eqIntS.l0]; rw [if_neg (by omega)]
  · intro k i h
    simp only [laws_eqIntS.l0]
    rw [if_pos (by omega), if_pos (by omega), if_pos (by omega), if_pos trivial, G.w64 _ (by omega)]

theorem laws_markIntS_ev (l : List Int) (m : Int) (h0 : 0 ≤ m) (h1 : m ≤ 4194304) (hl : l.length ≤ 1048576) : Ev (fun k => laws_markIntS.f k l m) (m + l.length, G.marks id m 1 l.length) := by
  simp only [laws_markIntS.f]
  have h := G.mark_loop id m 1 l.length (fun k l m i => laws_markIntS.l0 k l m i) ?_ ?_ l rfl
  · simpa using h
  · intro k l' m hl'; simp only [laws_markIntS.l0]; rw [if_neg (by omega)]
  · intro k l' i h hl'
    simp only [laws_markIntS.l0]
    rw [if_pos (by omega), if_pos (by omega), G.w64 _ (by omega), G.w64' (by omega) (by omega)]
    simp only [Int.toNat_natCast, id]
    congr 1
    omega

theorem laws_szIntS_le (l : List Int) (a : Int) (ha : 0 ≤ a) (ha' : a ≤ 1048576) (h : (l.length : Int) ≤ a) : laws_szIntS.f l a = some (a - l.length) := by
  unfold laws_szIntS.f
  rw [G.w64' (by omega) (by omega), if_neg (by omega)]
theorem laws_szIntS_gt (l : List Int) (a : Int) (ha : 0 ≤ a) (ha' : a ≤ 1048576) (hm : l.length ≤ 9223372036854775807) (h : a < (l.length : Int)) : laws_szIntS.f l a = some (-1) := by
  unfold laws_szIntS.f
  rw [G.w64' (by omega) (by omega), if_pos (by omega)]

theorem laws_toIntS_ev (l : List Int) (hl : l.length ≤ 1048576) : Ev (fun k => laws_toIntS.f k l) l := by
  simp only [laws_toIntS.f]
  refine G.pos (by omega) (G.pos (by omega) ?_)
  have h := G.to_loop (fun k out i => laws_toIntS.l0 k l out i) l id ?_ ?_ 0 (Nat.zero_le _) (List.replicate l.length 0) (by simp) (by simp)
  · simpa using h
  · intro k out; simp only [laws_toIntS.l0]; rw [if_neg (by omega)]
  · intro k out i h ho
    simp only [laws_toIntS.l0]
    rw [if_pos (by omega), if_pos (by omega), if_pos (by omega), G.w64 _ (by omega), G.rd_nat h]
    simp

theorem laws_heldIntS_ev (m : Int) (n : Nat) (h0 : 0 ≤ m) (h1 : m ≤ 4194304) (hl : n ≤ 1048576) : Ev (fun k => laws_heldIntS.f k (G.marks id m 1 n) m) (m + n) := by
  simp only [laws_heldIntS.f]
  have h := G.held_loop m 1 n (fun k m' i => laws_heldIntS.l0 k (G.marks id m 1 n) m' i) ?_ ?_
  · simpa using h
  · intro k m'; simp only [laws_heldIntS.l0]; rw [if_neg (by rw [G.marks_length]; omega)]
  · intro k i h
    simp only [laws_heldIntS.l0]
    rw [if_pos (by rw [G.marks_length]; omega), if_pos (by omega), G.rd_nat (by rw [G.marks_length]; omega), G.marks_get, if_pos (by simp), G.w64 _ (by omega), G.w64' (by omega) (by omega)]
    congr 1
    omega

theorem sized_is (a : Int) (n : Nat) (hn : n ≤ 1048576) : ∃ b, spec_l12Sized.f a n = some b ∧ impl_squared.f a n = some b := by
  unfold spec_l12Sized.f impl_squared.f
  by_cases h1 : a ≥ 1
  · rw [if_pos h1, if_pos h1]
    by_cases h2 : a ≤ 16
    · rw [if_pos h2, if_pos h2, if_neg (show ¬ a = 0 by omega), if_neg (show ¬ a = 0 by omega), Int.tmod_eq_emod_of_nonneg (by omega), Int.tdiv_eq_ediv_of_nonneg (by omega)]
      have hd : 0 ≤ (n : Int) / a := Int.ediv_nonneg (by omega) (by omega)
      have hm := Int.emod_add_mul_ediv (n : Int) a
      have hlt := Int.emod_lt_of_pos (n : Int) (show 0 < a by omega)
      have hm0 := Int.emod_nonneg (n : Int) (show a ≠ 0 by omega)
      by_cases h4 : (n : Int) % a = 0
      · by_cases h3 : (n : Int) ≥ a
        · rw [if_pos h3, if_pos h4, if_pos h4]
          have hq : (n : Int) / a ≥ 1 := Int.le_ediv_of_mul_le (by omega) (by omega)
          have h5 : (n : Int) / a ≤ n := Int.ediv_le_self _ (by omega)
          rw [G.w64' (by omega) (by omega), if_pos hq]; exact ⟨_, rfl, rfl⟩
        · rw [if_neg h3, if_pos h4]
          have hq : (n : Int) / a = 0 := Int.ediv_eq_zero_of_lt (by omega) (by omega)
          rw [hq, G.w64' (by omega) (by omega), if_neg (by omega)]; exact ⟨_, rfl, rfl⟩
      · rw [if_neg h4, if_neg h4]; exact ⟨false, by split <;> rfl, rfl⟩
    · rw [if_neg h2, if_neg h2]; exact ⟨_, rfl, rfl⟩
  · rw [if_neg h1, if_neg h1]; exact ⟨_, rfl, rfl⟩
def okn (n : Int) : Bool := decide (0 ≤ n ∧ n ≤ 1000000)
theorem nbody (n : Int) {α : Type} (x y : α) : (if okn n = true then x else y) = if n < 0 then y else if n > 1000000 then y else x := by
  unfold okn
  by_cases h1 : n < 0
  · rw [if_pos h1, if_neg (by simp; omega)]
  · rw [if_neg h1]
    by_cases h2 : n > 1000000
    · rw [if_pos h2, if_neg (by simp; omega)]
    · rw [if_neg h2, if_pos (by simp; omega)]
theorem counts_spec_l0 (a : Int) (l m : List Int) (hl : l.length ≤ 1048576) (hm : m.length = l.length) : ∀ i, i ≤ l.length → Ev (fun k => spec_GoodCounts.l0 k l.length (i : Int) a l m) ((l.drop i).all okn && (m.drop i).all okn) := by
  refine G.down_ind l.length (fun i => Ev (fun k => spec_GoodCounts.l0 k l.length (i : Int) a l m) ((l.drop i).all okn && (m.drop i).all okn)) ?_ ?_
  · refine G.succ (G.now fun k => ?_)
    simp only [spec_GoodCounts.l0]; rw [if_neg (by omega), List.drop_eq_nil_of_le (by omega), List.drop_eq_nil_of_le (by omega)]; rfl
  · intro i hi ih
    refine G.succ ?_
    simp only [spec_GoodCounts.l0, ← nbody]
    refine G.pos (by omega) (G.pos (by omega) (G.pos (by omega) ?_))
    rw [G.rd_nat hi, G.rd_nat (l := m) (by omega), List.drop_eq_getElem_cons hi, List.drop_eq_getElem_cons (l := m) (by omega), List.all_cons, List.all_cons, G.w64 _ (by omega)]
    refine G.ite (fun h1 => G.pos (by omega) (G.ite (fun h2 => ?_) (fun h2 => G.now fun _ => ?_))) (fun h1 => G.now fun _ => ?_)
    · rw [h1, h2]; simpa using ih
    · simp only [Bool.not_eq_true] at h2; rw [h2]; simp
    · simp only [Bool.not_eq_true] at h1; rw [h1]; simp
theorem counts_impl_l1 (L : List (List Int)) (n j : Int) (l : List Int) (hl : l.length ≤ 1048576) (b : Bool) (h : Ev (fun k => impl_GoodCounts.l0 k L n (wrap64 (j + 1))) b) : ∀ i, i ≤ l.length → Ev (fun k => impl_GoodCounts.l1 k L n j l l.length (i : Int)) ((l.drop i).all okn && b) := by
  refine G.down_ind l.length (fun i => Ev (fun k => impl_GoodCounts.l1 k L n j l l.length (i : Int)) ((l.drop i).all okn && b)) ?_ ?_
  · refine G.succ ?_
    simp only [impl_GoodCounts.l1]; refine G.neg (by omega) ?_; rw [List.drop_eq_nil_of_le (by omega)]; simpa using h
  · intro i hi ih
    refine G.succ ?_
    simp only [impl_GoodCounts.l1, ← nbody]
    refine G.pos (by omega) (G.pos (by omega) (G.pos (by omega) ?_))
    rw [G.rd_nat hi, List.drop_eq_getElem_cons hi, List.all_cons, G.w64 _ (by omega)]
    refine G.ite (fun h1 => ?_) (fun h1 => G.now fun _ => ?_)
    · rw [h1]; simpa using ih
    · simp only [Bool.not_eq_true] at h1; rw [h1]; simp
theorem counts_impl_l0 (l m : List Int) (hl : l.length ≤ 1048576) (hm : m.length ≤ 1048576) : Ev (fun k => impl_GoodCounts.l0 k [l, m] 2 0) (l.all okn && m.all okn) := by
  have h2 : Ev (fun k => impl_GoodCounts.l0 k [l, m] 2 (wrap64 (1 + 1))) true := by
    refine G.succ (G.now fun k => ?_)
    simp only [impl_GoodCounts.l0]; rw [G.w64' (by omega) (by omega), if_neg (by omega)]
  have h1 : Ev (fun k => impl_GoodCounts.l0 k [l, m] 2 (wrap64 (0 + 1))) (m.all okn && true) := by
    rw [G.w64' (by omega) (by omega)]
    refine G.succ ?_
    simp only [impl_GoodCounts.l0]
    refine G.pos (by omega) (G.pos (by omega) (G.pos (by simp) ?_))
    exact counts_impl_l1 [l, m] 2 1 m hm true h2 0 (Nat.zero_le _)
  refine G.succ ?_
  simp only [impl_GoodCounts.l0]
  refine G.pos (by omega) (G.pos (by omega) (G.pos (by simp) ?_))
  refine G.eqv (counts_impl_l1 [l, m] 2 0 l hl _ h1 0 (Nat.zero_le _)) ?_
  simp
theorem goodcounts_is (a : Int) (l m : List Int) (hl : l.length ≤ 1048576) (hm : m.length ≤ 1048576) : ∃ r, Ev (fun k => spec_GoodCounts.f k a l m) r ∧ Ev (fun k => impl_GoodCounts.f k a l m) r ∧ (r = true → m.length = l.length) := by
  obtain ⟨b, h1, h2⟩ := sized_is a l.length hl
  have js : Ev (fun k => spec_GoodCounts.j0 k true a l m) false := G.succ (G.now fun k => by simp [spec_GoodCounts.j0])
  have ji : Ev (fun k => impl_GoodCounts.j0 k true a l m) false := G.succ (G.now fun k => by simp [impl_GoodCounts.j0])
  simp only [spec_GoodCounts.f, impl_GoodCounts.f]
  cases b with
  | false => exact ⟨false, G.bind0 h1 (G.neg (by simp) js), G.bind0 h2 (G.neg (by simp) ji), by simp⟩
  | true =>
    by_cases he : m.length = l.length
    · have e1 : ((m.length : Int) != (l.length : Int)) = false := by rw [he]; simp
      refine ⟨l.all okn && m.all okn, G.bind0 h1 (G.pos rfl ?_), G.bind0 h2 (G.pos rfl ?_), fun _ => he⟩
      · rw [e1]; refine G.succ ?_
        simp only [spec_GoodCounts.j0]
        exact G.neg (by simp) (counts_spec_l0 a l m hl he 0 (Nat.zero_le _))
      · rw [e1]; refine G.succ ?_
        simp only [impl_GoodCounts.j0]
        exact G.neg (by simp) (G.bind0 rfl (counts_impl_l0 l m hl hm))
    · have e1 : ((m.length : Int) != (l.length : Int)) = true := by simp; omega
      refine ⟨false, G.bind0 h1 (G.pos rfl ?_), G.bind0 h2 (G.pos rfl ?_), by simp⟩
      · rw [e1]; exact js
      · rw [e1]; exact ji
theorem szcounts_le (a : Int) (l m : List Int) (h : l.length + m.length ≤ 1048576) : laws_szCounts.f a l m 1048576 = some (1048576 - (l.length : Int) - m.length) := by
  unfold laws_szCounts.f
  rw [laws_szIntS_le l _ (by omega) (by omega) (by omega)]
  simp only [Option.bind_some]; rw [if_neg (by omega), laws_szIntS_le m _ (by omega) (by omega) (by omega)]
  simp only [Option.bind_some]; rw [if_neg (by omega)]
theorem szcounts_gt (a : Int) (l m : List Int) (hl : l.length ≤ 9223372036854775807) (hm : m.length ≤ 9223372036854775807) (h : ¬ l.length + m.length ≤ 1048576) : laws_szCounts.f a l m 1048576 = some (-1) := by
  unfold laws_szCounts.f
  by_cases h1 : l.length ≤ 1048576
  · rw [laws_szIntS_le l _ (by omega) (by omega) (by omega)]
    simp only [Option.bind_some]; rw [if_neg (by omega), laws_szIntS_gt m _ (by omega) (by omega) hm (by omega)]; rfl
  · rw [laws_szIntS_gt l _ (by omega) (by omega) hl (by omega)]; rfl
theorem tocounts_ev (a : Int) (l m : List Int) (hl : l.length ≤ 1048576) (hm : m.length ≤ 1048576) : Ev (fun k => laws_toCounts.f k a l m) (a, l, m) := by
  simp only [laws_toCounts.f]
  exact G.bind (laws_toIntS_ev l hl) (G.bind (laws_toIntS_ev m hm) (G.now fun _ => rfl))
theorem eqcounts_ev (a : Int) (l m : List Int) (hl : l.length ≤ 1048576) (hm : m.length ≤ 1048576) : Ev (fun k => laws_eqCounts.f k a l m a l m) true := by
  unfold laws_eqCounts.f
  exact G.pos rfl (G.bind (laws_eqIntS_refl l hl) (G.pos rfl (G.bind (laws_eqIntS_refl m hm) (G.pos rfl (G.now fun _ => rfl)))))
theorem markcounts_ev (a : Int) (l m : List Int) (hl : l.length ≤ 1048576) (hm : m.length ≤ 1048576) : Ev (fun k => laws_markCounts.f k a l m 1) (1 + l.length + m.length, G.marks id 1 1 l.length, G.marks id (1 + l.length) 1 m.length) := by
  simp only [laws_markCounts.f]
  exact G.bind (laws_markIntS_ev l 1 (by omega) (by omega) hl) (G.bind (laws_markIntS_ev m (1 + l.length) (by omega) (by omega) hm) (G.now fun _ => rfl))
theorem markcells_ev (a : Int) (l : List Int) (hl : l.length ≤ 1048576) : Ev (fun k => laws_markCells.f k a l 1) (1 + l.length, G.marks id 1 1 l.length) := by
  simp only [laws_markCells.f]
  exact G.bind (laws_markIntS_ev l 1 (by omega) (by omega) hl) (G.now fun _ => rfl)
theorem eqcells_ev (a : Int) (l : List Int) (hl : l.length ≤ 1048576) : Ev (fun k => laws_eqCells.f k a l a l) true := by
  unfold laws_eqCells.f
  exact G.pos rfl (G.bind (laws_eqIntS_refl l hl) (G.pos rfl (G.now fun _ => rfl)))
theorem heldcells_ev (a : Int) (n : Nat) (hn : n ≤ 1048576) : Ev (fun k => laws_heldCells.f k a (G.marks id 1 1 n) 1) (1 + n) := by
  simp only [laws_heldCells.f]
  exact G.bind (laws_heldIntS_ev 1 n (by omega) (by omega) hn) (G.neg (by omega) (G.now fun _ => rfl))
theorem cells_l0 (a : Int) (l m : List Int) (hl : l.length ≤ 1048576) (hm : m.length = l.length) : ∀ i, i ≤ l.length → ∀ out : List Int, out.length = i → ∃ r : Int × List Int, Ev (fun k => spec_CellsOf.l0 k l.length (i : Int) a l m a out) r ∧ Ev (fun k => impl_CellsOf.l0 k l l.length (i : Int) a l m a out) r ∧ r.2.length ≤ 1048576 := by
  refine G.down_ind l.length (fun i => ∀ out : List Int, out.length = i → ∃ r : Int × List Int, Ev (fun k => spec_CellsOf.l0 k l.length (i : Int) a l m a out) r ∧ Ev (fun k => impl_CellsOf.l0 k l l.length (i : Int) a l m a out) r ∧ r.2.length ≤ 1048576) ?_ ?_
  · intro out ho
    refine ⟨(a, out), G.succ (G.now fun k => ?_), G.succ (G.now fun k => ?_), by simp; omega⟩
    · simp only [spec_CellsOf.l0]; rw [if_neg (by omega)]
    · simp only [impl_CellsOf.l0]; rw [if_neg (by omega)]
  · intro i hi ih out ho
    have w := G.w64 i (by omega)
    by_cases h1 : rd l i > rd m i
    · obtain ⟨r, e1, e2, e3⟩ := ih (out ++ [1]) (by simp [ho])
      refine ⟨r, G.succ ?_, G.succ ?_, e3⟩
      · simp only [spec_CellsOf.l0, w]
        exact G.pos (by omega) (G.pos (by omega) (G.pos (by omega) (G.pos (by omega) (G.pos h1 (G.neg (by omega) (G.pos (by omega) e1))))))
      · simp only [impl_CellsOf.l0, w]
        exact G.pos (by omega) (G.pos (by omega) (G.pos (by omega) (G.pos (by omega) (G.pos h1 (G.pos (by omega) e2)))))
    · by_cases h2 : rd l i < rd m i
      · obtain ⟨r, e1, e2, e3⟩ := ih (out ++ [0]) (by simp [ho])
        refine ⟨r, G.succ ?_, G.succ ?_, e3⟩
        · simp only [spec_CellsOf.l0, w]
          exact G.pos (by omega) (G.pos (by omega) (G.pos (by omega) (G.pos (by omega) (G.neg h1 (G.pos h2 (G.pos (by omega) e1))))))
        · simp only [impl_CellsOf.l0, w]
          exact G.pos (by omega) (G.pos (by omega) (G.pos (by omega) (G.pos (by omega) (G.neg h1 (G.pos h2 (G.pos (by omega) e2))))))
      · obtain ⟨r, e1, e2, e3⟩ := ih (out ++ [2]) (by simp [ho])
        refine ⟨r, G.succ ?_, G.succ ?_, e3⟩
        · simp only [spec_CellsOf.l0, w]
          exact G.pos (by omega) (G.pos (by omega) (G.pos (by omega) (G.pos (by omega) (G.neg h1 (G.neg h2 (G.pos (by omega) e1))))))
        · simp only [impl_CellsOf.l0, w]
          exact G.pos (by omega) (G.pos (by omega) (G.pos (by omega) (G.pos (by omega) (G.neg h1 (G.neg h2 (G.pos (by omega) e2))))))
theorem cells_is (a : Int) (l m : List Int) (hl : l.length ≤ 1048576) (hm : m.length ≤ 1048576) : ∃ r : Int × List Int, Ev (fun k => spec_CellsOf.f k a l m) r ∧ Ev (fun k => impl_CellsOf.f k a l m) r ∧ r.2.length ≤ 1048576 := by
  obtain ⟨g, h1, h2, h3⟩ := goodcounts_is a l m hl hm
  simp only [spec_CellsOf.f, impl_CellsOf.f]
  cases g with
  | false => exact ⟨(0, []), G.bind h1 (G.neg (by simp) (G.now fun _ => rfl)), G.bind h2 (G.neg (by simp) (G.now fun _ => rfl)), by simp⟩
  | true =>
    obtain ⟨r, e1, e2, e3⟩ := cells_l0 a l m hl (h3 rfl) 0 (Nat.zero_le _) [] rfl
    exact ⟨r, G.bind h1 (G.pos rfl e1), G.bind h2 (G.pos rfl e2), e3⟩
theorem FnExactCellsOf (a : Int) (l m : List Int) {P Q R : Prop} (ok : P ∧ (l.length ≤ 9223372036854775807 ∧ Q) ∧ (m.length ≤ 9223372036854775807 ∧ R)) : ∃ k, laws_FnExactCellsOf.f k a l m = some true := by
  refine Ev.rounds ?_
  simp only [laws_FnExactCellsOf.f]
  by_cases h : l.length + m.length ≤ 1048576
  · have ht := tocounts_ev a l m (by omega) (by omega)
    obtain ⟨⟨w, o⟩, h1, h2, h3⟩ := cells_is a l m (by omega) (by omega)
    have h3' : o.length ≤ 1048576 := h3
    have ho := eqcells_ev w o h3'
    have hh := heldcells_ev w o.length h3'
    refine G.bind0 (szcounts_le a l m h) (G.neg (by omega) (G.bind ht (G.bind h1 (G.bind ht (G.bind h2 (G.bind ho (G.pos rfl (G.bind ht (G.bind (eqcounts_ev a l m (by omega) (by omega)) (G.pos rfl (G.bind (markcounts_ev a l m (by omega) (by omega)) (G.neg (by omega) (G.bind ho ?_)))))))))))))
    refine G.succ ?_
    simp only [laws_FnExactCellsOf.j0]
    exact G.neg (by simp) (G.bind (markcells_ev w o h3') (G.bind hh (G.neg (by omega) (G.pos rfl (G.bind ht (G.bind h2 (G.bind ho (G.pos rfl (G.bind hh (G.neg (by omega) (G.pos rfl (G.now fun _ => rfl))))))))))))
  · exact G.bind0 (szcounts_gt a l m ok.2.1.1 ok.2.2.1 h) (G.pos (by omega) (G.now fun _ => rfl))

end Go.Proofs.Ytdncoicdliggdaa.Pure
