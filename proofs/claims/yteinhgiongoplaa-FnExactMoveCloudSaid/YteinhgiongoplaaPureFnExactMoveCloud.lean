/- For all arguments the printed law ExactMoveCloud answers true: plain lists and numbers, no memory. Conditions: none beyond what the program's own guards ask. -/
import Derived.Test.YteinhgiongoplaaPFnExactMoveCloudx7
import Derived.Test.YteinhgiongoplaaG
namespace Go.Proofs.Yteinhgiongoplaa.Pure
open Go.RowKit Go.Proofs.Yteinhgiongoplaa.PFnExactMoveCloud Go.Proofs.YteinhgiongoplaaW.PrintWords Go.Proofs.YteinhgiongoplaaW.PrintLast
set_option linter.unusedVariables false
set_option linter.unusedSimpArgs false

theorem rdT48 {l : List S48} {i : Nat} (h : i < l.length) : rd_T48 l (i : Int) = l[i] := by
  unfold rd_T48; exact G.getD_nat h

theorem rdT45 {l : List S45} {i : Nat} (h : i < l.length) : rd_T45 l (i : Int) = l[i] := by
  unfold rd_T45; exact G.getD_nat h

theorem laws_eqIntS_refl (l : List Int) (hl : l.length ≤ 1048576) : Ev (fun k => laws_eqIntS.f k l l) true := by
  unfold laws_eqIntS.f
  refine G.pos rfl (G.true_loop (F := fun k i => laws_eqIntS.l0 k l l i) l.length ?_ ?_)
  · intro k; simp only [laws_eqIntS.l0]; rw [if_neg (by omega)]
  · intro k i h
    simp only [laws_eqIntS.l0]
    rw [if_pos (by omega), if_pos (by omega), if_pos (by omega), if_pos trivial, G.w64 _ (by omega)]

theorem laws_eqMoteS_refl (l : List S45) (hl : l.length ≤ 1048576) : Ev (fun k => laws_eqMoteS.f k l l) true := by
  unfold laws_eqMoteS.f
  refine G.pos rfl (G.true_loop (F := fun k i => laws_eqMoteS.l0 k l l i) l.length ?_ ?_)
  · intro k; simp only [laws_eqMoteS.l0]; rw [if_neg (by omega)]
  · intro k i h
    simp only [laws_eqMoteS.l0, laws_eqMote.f, if_true, Option.bind_some]
    rw [if_pos (by omega), if_pos (by omega), if_pos (by omega), G.w64 _ (by omega)]

theorem laws_markIntS_ev (l : List Int) (m : Int) (h0 : 0 ≤ m) (h1 : m ≤ 4194304) (hl : l.length ≤ 1048576) : Ev (fun k => laws_markIntS.f k l m) (m + l.length, G.marks id m 1 l.length) := by
  simp only [laws_markIntS.f]
  have h := G.mark_loop id m 1 l.length (fun k l m i => laws_markIntS.l0 k l m i) ?_ ?_ l rfl
  · simpa using h
  · intro k l' m hl'; simp only [laws_markIntS.l0]; rw [if_neg (by omega)]
  · intro k l' i h hl'
    simp only [laws_markIntS.l0]
    rw [if_pos (by omega), if_pos (by omega), G.w64 _ (by omega), G.w64' (by omega) (by omega)]
    simp only [Int.toNat_natCast, id]
    congr 1
    omega

def laws_markMoteS_el (m : Int) : S45 := ⟨m, m + 1⟩
theorem laws_markMoteS_ev (l : List S45) (m : Int) (h0 : 0 ≤ m) (h1 : m ≤ 4194304) (hl : l.length ≤ 1048576) : Ev (fun k => laws_markMoteS.f k l m) (m + l.length * 2, G.marks laws_markMoteS_el m 2 l.length) := by
  simp only [laws_markMoteS.f]
  have h := G.mark_loop laws_markMoteS_el m 2 l.length (fun k l m i => laws_markMoteS.l0 k l m i) ?_ ?_ l rfl
  · simpa using h
  · intro k l' m hl'; simp only [laws_markMoteS.l0]; rw [if_neg (by omega)]
  · intro k l' i h hl'
    simp only [laws_markMoteS.l0, List.length_set]
    simp only [if_pos (show (i : Int) < l'.length by omega), if_pos (show (0 : Int) ≤ i by omega), G.w64 i (by omega), Int.toNat_natCast]
    rw [G.w64' (by omega) (by omega)]; rw [G.w64' (by omega) (by omega)]
    simp [laws_markMoteS_el, rd_T45, List.getD_eq_getElem?_getD, List.getElem?_set, List.set_set, show i < l'.length by omega]
    try (congr 1; omega)

theorem laws_szMoteS_le (l : List S48) (a : Int) (ha : 0 ≤ a) (ha' : a ≤ 1048576) (h : (l.length : Int) ≤ a) : laws_szMoteS.f l a = some (a - l.length) := by
  unfold laws_szMoteS.f
  rw [G.w64' (by omega) (by omega), if_neg (by omega)]
theorem laws_szMoteS_gt (l : List S48) (a : Int) (ha : 0 ≤ a) (ha' : a ≤ 1048576) (hm : l.length ≤ 9223372036854775807) (h : a < (l.length : Int)) : laws_szMoteS.f l a = some (-1) := by
  unfold laws_szMoteS.f
  rw [G.w64' (by omega) (by omega), if_pos (by omega)]

theorem laws_toIntS_ev (l : List Int) (hl : l.length ≤ 1048576) : Ev (fun k => laws_toIntS.f k l) l := by
  simp only [laws_toIntS.f]
  refine G.pos (by omega) (G.pos (by omega) ?_)
  have h := G.to_loop (fun k out i => laws_toIntS.l0 k l out i) l id ?_ ?_ 0 (Nat.zero_le _) (List.replicate l.length 0) (by simp) (by simp)
  · simpa using h
  · intro k out; simp only [laws_toIntS.l0]; rw [if_neg (by omega)]
  · intro k out i h ho
    simp only [laws_toIntS.l0]
    rw [if_pos (by omega), if_pos (by omega), if_pos (by omega), G.w64 _ (by omega), G.rd_nat h]
    simp

def laws_toMoteS_cv (x : S48) : S45 := ⟨x.f0, x.f1⟩
theorem laws_toMoteS_ev (l : List S48) (hl : l.length ≤ 1048576) : Ev (fun k => laws_toMoteS.f k l) (l.map laws_toMoteS_cv) := by
  simp only [laws_toMoteS.f]
  refine G.pos (by omega) (G.pos (by omega) ?_)
  have h := G.to_loop (fun k out i => laws_toMoteS.l0 k l out i) l laws_toMoteS_cv ?_ ?_ 0 (Nat.zero_le _) (List.replicate l.length z45) (by simp) (by simp)
  · simpa using h
  · intro k out; simp only [laws_toMoteS.l0]; rw [if_neg (by omega)]
  · intro k out i h ho
    simp only [laws_toMoteS.l0, laws_toMote.f, Option.bind_some]
    rw [if_pos (by omega), if_pos (by omega), if_pos (by omega), G.w64 _ (by omega), rdT48 h]
    simp [laws_toMoteS_cv]

theorem laws_heldMoteS_ev (m : Int) (n : Nat) (h0 : 0 ≤ m) (h1 : m ≤ 4194304) (hl : n ≤ 1048576) : Ev (fun k => laws_heldMoteS.f k (G.marks laws_markMoteS_el m 2 n) m) (m + n * 2) := by
  simp only [laws_heldMoteS.f]
  have h := G.held_loop m 2 n (fun k m' i => laws_heldMoteS.l0 k (G.marks laws_markMoteS_el m 2 n) m' i) ?_ ?_
  · simpa using h
  · intro k m'; simp only [laws_heldMoteS.l0]; rw [if_neg (by rw [G.marks_length]; omega)]
  · intro k i h
    have hr : rd_T45 (G.marks laws_markMoteS_el m 2 n) (i : Int) = laws_markMoteS_el (m + i * 2) := by rw [rdT45 (by rw [G.marks_length]; exact h), G.marks_get]; rfl
    have en : ((2 : Nat) : Int) = 2 := rfl
    simp only [laws_heldMoteS.l0, hr, laws_markMoteS_el, en]
    rw [if_pos (by rw [G.marks_length]; omega), if_pos (by omega)]
    simp only [G.w64 i (by omega), G.w64' (i := m + (i : Int) * 2 + 1) (by omega) (by omega), G.w64' (i := m + (i : Int) * 2 + 1 + 1) (by omega) (by omega), if_true]
    congr 1; omega

def good (m : S45) : Bool := decide (-1000000 ≤ m.f0 ∧ m.f0 ≤ 1000000 ∧ 0 ≤ m.f1 ∧ m.f1 ≤ 1000000)
theorem in_is (a : Int) : spec_l11In.f a = some (decide (-1000000 ≤ a ∧ a ≤ 1000000)) := by
  simp only [spec_l11In.f, G.nest]; congr 1; simp
theorem within_is (a : Int) : impl_within.f a 1000000 = some (decide (-1000000 ≤ a ∧ a ≤ 1000000)) := by
  unfold impl_within.f; rw [G.wneg (by omega) (by omega)]; exact in_is a
theorem body (m : S45) {α : Type} (x y : α) : (if good m = true then x else y) = if -1000000 ≤ m.f0 ∧ m.f0 ≤ 1000000 then (if m.f1 < 0 then y else if m.f1 > 1000000 then y else x) else y := by
  unfold good
  by_cases h : -1000000 ≤ m.f0 ∧ m.f0 ≤ 1000000
  · rw [if_pos h]
    by_cases h1 : m.f1 < 0
    · rw [if_pos h1, if_neg (by simp; omega)]
    · rw [if_neg h1]
      by_cases h2 : m.f1 > 1000000
      · rw [if_pos h2, if_neg (by simp; omega)]
      · rw [if_neg h2, if_pos (by simp; omega)]
  · rw [if_neg h, if_neg (by simp; omega)]
theorem goodcloud_spec (l : List S45) : Ev (fun k => spec_GoodCloud.f k l) (l.all good && decide (l.length ≤ 60)) := by
  simp only [spec_GoodCloud.f]
  refine G.ite (fun h => G.now fun _ => ?_) (fun h => ?_)
  · rw [decide_eq_false (by omega), Bool.and_false]
  · rw [decide_eq_true (by omega)]
    refine G.all_loop (F := fun k i => spec_GoodCloud.l0 k l l.length i) l good true ?_ ?_
    · intro k; simp only [spec_GoodCloud.l0]; rw [if_neg (by omega)]
    · intro k i h
      simp only [spec_GoodCloud.l0, in_is, Option.bind_some]
      rw [if_pos (by omega), if_pos (by omega), if_pos (by omega), rdT45 h, G.w64 _ (by omega), body]
      simp only [decide_eq_true_eq]
theorem goodcloud_impl (l : List S45) (hl : l.length ≤ 1048576) : Ev (fun k => impl_GoodCloud.f k l) (l.all good && decide (l.length ≤ 60)) := by
  simp only [impl_GoodCloud.f]
  refine G.all_loop (F := fun k i => impl_GoodCloud.l0 k l l l.length i) l good _ ?_ ?_
  · intro k; simp only [impl_GoodCloud.l0]; rw [if_neg (by omega)]; congr 1; simp; omega
  · intro k i h
    simp only [impl_GoodCloud.l0, within_is, Option.bind_some]
    rw [if_pos (by omega), if_pos (by omega), if_pos (by omega), rdT45 h, G.w64 _ (by omega), body]
    simp only [decide_eq_true_eq]
theorem within_eq (a : Int) : impl_within.f a 1000000 = spec_l11In.f a := by rw [within_is, in_is]
theorem loops_eq : ∀ k, (∀ x0 x1 x2 x25, impl_MoveCloud.j0 k x0 x1 x2 x25 = spec_MoveCloud.j0 k x0 x1 x2 x25) ∧ (∀ x0 x1 x2 x3 x4 x5, impl_MoveCloud.l0 k x0 x1 x2 x3 x4 x5 = spec_MoveCloud.l0 k x0 x1 x2 x3 x4 x5) ∧ (∀ x0 x1 x2 x3 x4 x5, impl_MoveCloud.l1 k x0 x1 x2 x3 x4 x5 = spec_MoveCloud.l1 k x0 x1 x2 x3 x4 x5) := by
  intro k
  induction k with
  | zero => exact ⟨fun _ _ _ _ => by simp [impl_MoveCloud.j0, spec_MoveCloud.j0], fun _ _ _ _ _ _ => by simp [impl_MoveCloud.l0, spec_MoveCloud.l0], fun _ _ _ _ _ _ => by simp [impl_MoveCloud.l1, spec_MoveCloud.l1]⟩
  | succ k ih =>
    refine ⟨fun _ _ _ _ => ?_, fun _ _ _ _ _ _ => ?_, fun _ _ _ _ _ _ => ?_⟩
    · simp only [impl_MoveCloud.j0, spec_MoveCloud.j0, ih.2.1]
    · simp only [impl_MoveCloud.l0, spec_MoveCloud.l0, within_eq, ih.2.1, ih.2.2]
    · simp only [impl_MoveCloud.l1, spec_MoveCloud.l1, within_eq, ih.2.2]
theorem in_some (a : Int) : ∃ b, spec_l11In.f a = some b := ⟨_, in_is a⟩
theorem l1_some (by_ : Int) (c : List Int) (l : List S45) (hl : l.length ≤ 60) (hc : c.length ≤ 60) : ∀ i, i ≤ l.length → ∀ out : List S45, out.length ≤ i → ∃ r, Ev (fun k => spec_MoveCloud.l1 k by_ c out l l.length (i : Int)) r ∧ r.1.length ≤ 60 := by
  refine G.down_ind l.length (fun i => ∀ out : List S45, out.length ≤ i → ∃ r, Ev (fun k => spec_MoveCloud.l1 k by_ c out l l.length (i : Int)) r ∧ r.1.length ≤ 60) ?_ ?_
  · intro out ho
    refine ⟨(out, true), G.succ (G.now fun k => ?_), by simp; omega⟩
    simp only [spec_MoveCloud.l1]; rw [if_neg (by omega)]
  · intro i hi ih out ho
    by_cases h0 : (c.length : Int) > 0
    · have e : Int.tmod (i : Int) (c.length : Int) = ((i % c.length : Nat) : Int) := by rw [Int.tmod_eq_emod_of_nonneg (by omega)]; omega
      have hlt : i % c.length < c.length := Nat.mod_lt _ (by omega)
      obtain ⟨b, hb⟩ := in_some (wrap64 ((wrap64 (((rd_T45 l i).f0) + by_)) + (rd c ((i % c.length : Nat) : Int))))
      cases b with
      | false =>
        refine ⟨([], false), G.succ ?_, by simp⟩
        simp only [spec_MoveCloud.l1, e]
        exact G.pos (by omega) (G.pos (by omega) (G.pos (by omega) (G.pos h0 (G.neg (by omega) (G.pos (by omega) (G.pos (by omega) (G.bind0 hb (G.neg (by simp) (G.now fun _ => rfl)))))))))
      | true =>
        obtain ⟨r, hr, hr'⟩ := ih (out ++ [⟨wrap64 ((wrap64 (((rd_T45 l i).f0) + by_)) + (rd c ((i % c.length : Nat) : Int))), (rd_T45 l i).f1⟩]) (by simp; omega)
        refine ⟨r, G.succ ?_, hr'⟩
        simp only [spec_MoveCloud.l1, e, G.w64 i (by omega)]
        exact G.pos (by omega) (G.pos (by omega) (G.pos (by omega) (G.pos h0 (G.neg (by omega) (G.pos (by omega) (G.pos (by omega) (G.bind0 hb (G.pos rfl (G.pos (by omega) hr)))))))))
    · obtain ⟨b, hb⟩ := in_some (wrap64 (((rd_T45 l i).f0) + by_))
      cases b with
      | false =>
        refine ⟨([], false), G.succ ?_, by simp⟩
        simp only [spec_MoveCloud.l1]
        exact G.pos (by omega) (G.pos (by omega) (G.pos (by omega) (G.neg h0 (G.bind0 hb (G.neg (by simp) (G.now fun _ => rfl))))))
      | true =>
        obtain ⟨r, hr, hr'⟩ := ih (out ++ [⟨wrap64 (((rd_T45 l i).f0) + by_), (rd_T45 l i).f1⟩]) (by simp; omega)
        refine ⟨r, G.succ ?_, hr'⟩
        simp only [spec_MoveCloud.l1, G.w64 i (by omega)]
        exact G.pos (by omega) (G.pos (by omega) (G.pos (by omega) (G.neg h0 (G.bind0 hb (G.pos rfl (G.pos (by omega) hr))))))
theorem l0_some (l : List S45) (by_ : Int) (c : List Int) (hl : l.length ≤ 60) (hc : c.length ≤ 60) : ∀ i, i ≤ c.length → ∃ r, Ev (fun k => spec_MoveCloud.l0 k l by_ c c c.length (i : Int)) r ∧ r.1.length ≤ 60 := by
  obtain ⟨r0, hr0, hr0'⟩ := l1_some by_ c l hl hc 0 (Nat.zero_le _) [] (Nat.le_refl _)
  refine G.down_ind c.length (fun i => ∃ r, Ev (fun k => spec_MoveCloud.l0 k l by_ c c c.length (i : Int)) r ∧ r.1.length ≤ 60) ?_ ?_
  · refine ⟨r0, G.succ ?_, hr0'⟩
    simp only [spec_MoveCloud.l0]; exact G.neg (by omega) hr0
  · intro i hi ⟨r, hr, hr'⟩
    obtain ⟨b, hb⟩ := in_some (rd c i)
    cases b with
    | false =>
      refine ⟨([], false), G.succ ?_, by simp⟩
      simp only [spec_MoveCloud.l0]
      exact G.pos (by omega) (G.pos (by omega) (G.pos (by omega) (G.bind0 hb (G.neg (by simp) (G.now fun _ => rfl)))))
    | true =>
      refine ⟨r, G.succ ?_, hr'⟩
      simp only [spec_MoveCloud.l0, G.w64 i (by omega)]
      exact G.pos (by omega) (G.pos (by omega) (G.pos (by omega) (G.bind0 hb (G.pos rfl hr))))
theorem move_is (l : List S45) (by_ : Int) (c : List Int) (hl : l.length ≤ 1048576) : ∃ r, Ev (fun k => spec_MoveCloud.f k l by_ c) r ∧ Ev (fun k => impl_MoveCloud.f k l by_ c) r ∧ r.1.length ≤ 60 := by
  have jt : Ev (fun k => spec_MoveCloud.j0 k l by_ c true) ([], false) := G.succ (G.now fun k => by simp [spec_MoveCloud.j0])
  simp only [spec_MoveCloud.f, impl_MoveCloud.f, within_eq, (loops_eq _).1]
  have hs := goodcloud_spec l
  have hi := goodcloud_impl l hl
  cases hg : (l.all good && decide (l.length ≤ 60)) with
  | false => rw [hg] at hs hi; exact ⟨([], false), G.bind hs (G.neg (by simp) jt), G.bind hi (G.neg (by simp) jt), by simp⟩
  | true =>
    rw [hg] at hs hi
    have hl60 : l.length ≤ 60 := by simp only [Bool.and_eq_true, decide_eq_true_eq] at hg; exact hg.2
    obtain ⟨b, hb⟩ := in_some by_
    cases b with
    | false => exact ⟨([], false), G.bind hs (G.pos rfl (G.bind0 hb (G.neg (by simp) jt))), G.bind hi (G.pos rfl (G.bind0 hb (G.neg (by simp) jt))), by simp⟩
    | true =>
      by_cases hc : (c.length : Int) > 60
      · have : Ev (fun k => spec_MoveCloud.j0 k l by_ c (decide ((c.length : Int) > 60))) ([], false) := by rw [decide_eq_true hc]; exact jt
        exact ⟨([], false), G.bind hs (G.pos rfl (G.bind0 hb (G.pos rfl this))), G.bind hi (G.pos rfl (G.bind0 hb (G.pos rfl this))), by simp⟩
      · obtain ⟨r, hr, hr'⟩ := l0_some l by_ c hl60 (by omega) 0 (Nat.zero_le _)
        have : Ev (fun k => spec_MoveCloud.j0 k l by_ c (decide ((c.length : Int) > 60))) r := by
          rw [decide_eq_false hc]; refine G.succ ?_
          simp only [spec_MoveCloud.j0]; exact G.neg (by simp) hr
        exact ⟨r, G.bind hs (G.pos rfl (G.bind0 hb (G.pos rfl this))), G.bind hi (G.pos rfl (G.bind0 hb (G.pos rfl this))), hr'⟩
theorem FnExactMoveCloud (l : List S48) (by_ : Int) (c : List Int) {P Q R : Prop} (ok : l.length ≤ 9223372036854775807 ∧ P) (ok1 : Q) (ok2 : R) : ∃ k, laws_FnExactMoveCloud.f k l by_ c = some true := by
  refine Ev.rounds ?_
  simp only [laws_FnExactMoveCloud.f]
  refine G.ite (fun _ => G.now fun _ => rfl) (fun hc => ?_)
  by_cases hl : l.length ≤ 1048576
  · rw [laws_szMoteS_le l _ (by omega) (by omega) (by omega)]
    have ht := laws_toMoteS_ev l hl
    have hl' : (l.map laws_toMoteS_cv).length ≤ 1048576 := by simpa using hl
    generalize l.map laws_toMoteS_cv = m at ht hl'
    have hc' := laws_toIntS_ev c (by omega)
    obtain ⟨⟨o, b⟩, h1, h2, h3⟩ := move_is m by_ c hl'
    have h3' : o.length ≤ 60 := h3
    have ho := laws_eqMoteS_refl o (by omega)
    have hm := laws_eqMoteS_refl m hl'
    have hmk := laws_markMoteS_ev o 1 (by omega) (by omega) (by omega)
    have hh := laws_heldMoteS_ev 1 o.length (by omega) (by omega) (by omega)
    have hmk1 := laws_markMoteS_ev m 1 (by omega) (by omega) hl'
    have hmk2 := laws_markIntS_ev c (1 + m.length * 2) (by omega) (by omega) (by omega)
    refine G.bind0 rfl (G.neg (by omega) (G.bind ht (G.bind hc' (G.bind h1 (G.bind ht (G.bind hc' (G.bind h2 (G.bind ho (G.pos rfl ?_)))))))))
    simp only [bne_self_eq_false]
    refine G.succ ?_
    simp only [laws_FnExactMoveCloud.j0]
    refine G.neg (by simp) (G.bind ht (G.bind hm (G.pos rfl (G.bind hc' (G.bind (laws_eqIntS_refl c (by omega)) (G.pos rfl (G.bind hmk1 (G.bind hmk2 (G.neg (by omega) (G.bind ho (G.pos rfl ?_)))))))))))
    simp only [bne_self_eq_false]
    refine G.succ ?_
    simp only [laws_FnExactMoveCloud.j1]
    refine G.neg (by simp) (G.bind hmk (G.bind hh (G.neg (by omega) (G.pos rfl (G.bind ht (G.bind hc' (G.bind h2 (G.bind ho (G.pos rfl ?_)))))))))
    simp only [bne_self_eq_false]
    refine G.succ ?_
    simp only [laws_FnExactMoveCloud.j2]
    exact G.neg (by simp) (G.bind hh (G.neg (by omega) (G.pos rfl (G.now fun _ => rfl))))
  · rw [laws_szMoteS_gt l _ (by omega) (by omega) ok.1 (by omega)]
    exact G.bind0 rfl (G.pos (by omega) (G.now fun _ => rfl))

end Go.Proofs.Yteinhgiongoplaa.Pure
