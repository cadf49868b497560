/- For all arguments the printed law ExactLookCloud answers true: plain lists and numbers, no memory. Conditions: none beyond what the program's own guards ask. -/
import Derived.Test.YteinhgiongoplaaQFnExactLookCloudx4
import Derived.Test.YteinhgiongoplaaG
namespace Go.Proofs.Yteinhgiongoplaa.Pure
open Go.RowKit Go.Proofs.Yteinhgiongoplaa.PFnExactLookCloud Go.Proofs.YteinhgiongoplaaW.PrintWords Go.Proofs.YteinhgiongoplaaW.PrintLast
set_option linter.unusedVariables false
set_option linter.unusedSimpArgs false

theorem rdT48 {l : List S48} {i : Nat} (h : i < l.length) : rd_T48 l (i : Int) = l[i] := by
  unfold rd_T48; exact G.getD_nat h

theorem rdT45 {l : List S45} {i : Nat} (h : i < l.length) : rd_T45 l (i : Int) = l[i] := by
  unfold rd_T45; exact G.getD_nat h

theorem laws_eqMoteS_refl (l : List S45) (hl : l.length ≤ 1048576) : Ev (fun k => laws_eqMoteS.f k l l) true := by
  unfold laws_eqMoteS.f
  refine G.pos rfl (G.true_loop (F := fun k i => laws_eqMoteS.l0 k l l i) l.length ?_ ?_)
  · intro k; simp only [laws_eqMoteS.l0]; rw [if_neg (by omega)]
  · intro k i h
    simp only [laws_eqMoteS.l0, laws_eqMote.f, if_true, Option.bind_some]
    rw [if_pos (by omega), if_pos (by omega), if_pos (by omega), G.w64 _ (by omega)]

def laws_markMoteS_el (m : Int) : S45 := ⟨m, m + 1⟩
theorem laws_markMoteS_ev (l : List S45) (m : Int) (h0 : 0 ≤ m) (h1 : m ≤ 4194304) (hl : l.length ≤ 1048576) : Ev (fun k => laws_markMoteS.f k l m) (m + l.length * 2, G.marks laws_markMoteS_el m 2 l.length) := by
  simp only [laws_markMoteS.f]
  have h := G.mark_loop laws_markMoteS_el m 2 l.length (fun k l m i => laws_markMoteS.l0 k l m i) ?_ ?_ l rfl
  · simpa using h
  · intro k l' m hl'; simp only [laws_markMoteS.l0]; rw [if_neg (by omega)]
  · intro k l' i h hl'
    simp only [laws_markMoteS.l0, List.length_set]
    simp only [if_pos (show (i : Int) < l'.length by omega), if_pos (show (0 : Int) ≤ i by omega), G.w64 i (by omega), Int.toNat_natCast]
    rw [G.w64' (by omega) (by omega)]; rw [G.w64' (by omega) (by omega)]
    simp [laws_markMoteS_el, rd_T45, List.getD_eq_getElem?_getD, List.getElem?_set, List.set_set, show i < l'.length by omega]
    try (congr 1; omega)

theorem laws_szMoteS_le (l : List S48) (a : Int) (ha : 0 ≤ a) (ha' : a ≤ 1048576) (h : (l.length : Int) ≤ a) : laws_szMoteS.f l a = some (a - l.length) := by
  unfold laws_szMoteS.f
  rw [G.w64' (by omega) (by omega), if_neg (by omega)]
theorem laws_szMoteS_gt (l : List S48) (a : Int) (ha : 0 ≤ a) (ha' : a ≤ 1048576) (hm : l.length ≤ 9223372036854775807) (h : a < (l.length : Int)) : laws_szMoteS.f l a = some (-1) := by
  unfold laws_szMoteS.f
  rw [G.w64' (by omega) (by omega), if_pos (by omega)]

def laws_toMoteS_cv (x : S48) : S45 := ⟨x.f0, x.f1⟩
theorem laws_toMoteS_ev (l : List S48) (hl : l.length ≤ 1048576) : Ev (fun k => laws_toMoteS.f k l) (l.map laws_toMoteS_cv) := by
  simp only [laws_toMoteS.f]
  refine G.pos (by omega) (G.pos (by omega) ?_)
  have h := G.to_loop (fun k out i => laws_toMoteS.l0 k l out i) l laws_toMoteS_cv ?_ ?_ 0 (Nat.zero_le _) (List.replicate l.length z45) (by simp) (by simp)
  · simpa using h
  · intro k out; simp only [laws_toMoteS.l0]; rw [if_neg (by omega)]
  · intro k out i h ho
    simp only [laws_toMoteS.l0, laws_toMote.f, Option.bind_some]
    rw [if_pos (by omega), if_pos (by omega), if_pos (by omega), G.w64 _ (by omega), rdT48 h]
    simp [laws_toMoteS_cv]

theorem laws_heldMoteS_ev (m : Int) (n : Nat) (h0 : 0 ≤ m) (h1 : m ≤ 4194304) (hl : n ≤ 1048576) : Ev (fun k => laws_heldMoteS.f k (G.marks laws_markMoteS_el m 2 n) m) (m + n * 2) := by
  simp only [laws_heldMoteS.f]
  have h := G.held_loop m 2 n (fun k m' i => laws_heldMoteS.l0 k (G.marks laws_markMoteS_el m 2 n) m' i) ?_ ?_
  · simpa using h
  · intro k m'; simp only [laws_heldMoteS.l0]; rw [if_neg (by rw [G.marks_length]; omega)]
  · intro k i h
    have hr : rd_T45 (G.marks laws_markMoteS_el m 2 n) (i : Int) = laws_markMoteS_el (m + i * 2) := by rw [rdT45 (by rw [G.marks_length]; exact h), G.marks_get]; rfl
    have en : ((2 : Nat) : Int) = 2 := rfl
    simp only [laws_heldMoteS.l0, hr, laws_markMoteS_el, en]
    rw [if_pos (by rw [G.marks_length]; omega), if_pos (by omega)]
    simp only [G.w64 i (by omega), G.w64' (i := m + (i : Int) * 2 + 1) (by omega) (by omega), G.w64' (i := m + (i : Int) * 2 + 1 + 1) (by omega) (by omega), if_true]
    congr 1; omega

def good (m : S45) : Bool := decide (-1000000 ≤ m.f0 ∧ m.f0 ≤ 1000000 ∧ 0 ≤ m.f1 ∧ m.f1 ≤ 1000000)
theorem in_is (a : Int) : spec_l11In.f a = some (decide (-1000000 ≤ a ∧ a ≤ 1000000)) := by
  simp only [spec_l11In.f, G.nest]; congr 1; simp
theorem within_is (a : Int) : impl_within.f a 1000000 = some (decide (-1000000 ≤ a ∧ a ≤ 1000000)) := by
  unfold impl_within.f; rw [G.wneg (by omega) (by omega)]; exact in_is a
theorem body (m : S45) {α : Type} (x y : α) : (if good m = true then x else y) = if -1000000 ≤ m.f0 ∧ m.f0 ≤ 1000000 then (if m.f1 < 0 then y else if m.f1 > 1000000 then y else x) else y := by
  unfold good
  by_cases h : -1000000 ≤ m.f0 ∧ m.f0 ≤ 1000000
  · rw [if_pos h]
    by_cases h1 : m.f1 < 0
    · rw [if_pos h1, if_neg (by simp; omega)]
    · rw [if_neg h1]
      by_cases h2 : m.f1 > 1000000
      · rw [if_pos h2, if_neg (by simp; omega)]
      · rw [if_neg h2, if_pos (by simp; omega)]
  · rw [if_neg h, if_neg (by simp; omega)]
theorem goodcloud_spec (l : List S45) : Ev (fun k => spec_GoodCloud.f k l) (l.all good && decide (l.length ≤ 60)) := by
  simp only [spec_GoodCloud.f]
  refine G.ite (fun h => G.now fun _ => ?_) (fun h => ?_)
  · rw [decide_eq_false (by omega), Bool.and_false]
  · rw [decide_eq_true (by omega)]
    refine G.all_loop (F := fun k i => spec_GoodCloud.l0 k l l.length i) l good true ?_ ?_
    · intro k; simp only [spec_GoodCloud.l0]; rw [if_neg (by omega)]
    · intro k i h
      simp only [spec_GoodCloud.l0, in_is, Option.bind_some]
      rw [if_pos (by omega), if_pos (by omega), if_pos (by omega), rdT45 h, G.w64 _ (by omega), body]
      simp only [decide_eq_true_eq]
theorem goodcloud_impl (l : List S45) (hl : l.length ≤ 1048576) : Ev (fun k => impl_GoodCloud.f k l) (l.all good && decide (l.length ≤ 60)) := by
  simp only [impl_GoodCloud.f]
  refine G.all_loop (F := fun k i => impl_GoodCloud.l0 k l l l.length i) l good _ ?_ ?_
  · intro k; simp only [impl_GoodCloud.l0]; rw [if_neg (by omega)]; congr 1; simp; omega
  · intro k i h
    simp only [impl_GoodCloud.l0, within_is, Option.bind_some]
    rw [if_pos (by omega), if_pos (by omega), if_pos (by omega), rdT45 h, G.w64 _ (by omega), body]
    simp only [decide_eq_true_eq]
theorem good_at {l : List S45} (h : l.all good = true) {i : Nat} (hi : i < l.length) : -1000000 ≤ l[i].f0 ∧ l[i].f0 ≤ 1000000 ∧ 0 ≤ l[i].f1 ∧ l[i].f1 ≤ 1000000 := by
  have := List.all_eq_true.1 h l[i] (List.getElem_mem hi)
  simpa [good] using this
theorem loops_is (l : List S45) (hg : l.all good = true) (hl : l.length ≤ 60) (seen width : Int) (s0 : -1000000 ≤ seen) (s1 : seen ≤ 1000000) (w0 : 1 ≤ width) (w1 : width ≤ 1000000) : ∀ i, i ≤ l.length → ∀ out : List S45, out.length ≤ i →
    ∃ r, Ev (fun k => spec_LookCloud.l0 k seen width out l l.length (i : Int)) r ∧ Ev (fun k => impl_LookCloud.l0 k seen width out l l.length (i : Int)) r ∧ r.1.length ≤ 60 := by
  refine G.down_ind l.length (fun i => ∀ out : List S45, out.length ≤ i → ∃ r, Ev (fun k => spec_LookCloud.l0 k seen width out l l.length (i : Int)) r ∧ Ev (fun k => impl_LookCloud.l0 k seen width out l l.length (i : Int)) r ∧ r.1.length ≤ 60) ?_ ?_
  · intro out ho
    refine ⟨(out, true), G.succ (G.now fun k => ?_), G.succ (G.now fun k => ?_), by simp; omega⟩
    · simp only [spec_LookCloud.l0]; rw [if_neg (by omega)]
    · simp only [impl_LookCloud.l0]; rw [if_neg (by omega)]
  · intro i hi ih out ho
    obtain ⟨g0, g1, g2, g3⟩ := good_at hg hi
    have ha : spec_l4Abs.f (l[i].f0 - seen) = some ((l[i].f0 - seen).natAbs : Int) := by
      unfold spec_l4Abs.f
      split
      · rw [G.wneg (by omega) (by omega)]; congr 1; omega
      · congr 1; omega
    have hd : wrap64 (l[i].f0 - seen) = l[i].f0 - seen := G.w64' (by omega) (by omega)
    have hx : mx (l[i].f0 - seen) (wrap64 (-(l[i].f0 - seen))) = ((l[i].f0 - seen).natAbs : Int) := by rw [G.wneg (by omega) (by omega)]; unfold mx; omega
    have hw : wrap64 (width - ((l[i].f0 - seen).natAbs : Int)) = width - ((l[i].f0 - seen).natAbs : Int) := G.w64' (by omega) (by omega)
    generalize ((l[i].f0 - seen).natAbs : Int) = t at ha hx hw
    by_cases ht : width - t < 0
    · have hm : mx (width - t) 0 = 0 := by unfold mx; omega
      obtain ⟨r, h1, h2, h3⟩ := ih (out ++ [⟨l[i].f0, wrap64 (Int.tdiv (wrap64 (l[i].f1 * 0)) width)⟩]) (by simp; omega)
      refine ⟨r, G.succ ?_, G.succ ?_, h3⟩
      · simp only [spec_LookCloud.l0, rdT45 hi, hd, G.w64 i (by omega)]
        refine G.pos (by omega) (G.pos (by omega) (G.pos (by omega) (G.bind0 ha ?_)))
        rw [hw]
        exact G.pos ht (G.neg (by omega) (G.pos (by omega) h1))
      · simp only [impl_LookCloud.l0, rdT45 hi, hd, hx, hw, hm, G.w64 i (by omega)]
        exact G.pos (by omega) (G.pos (by omega) (G.pos (by omega) (G.neg (by omega) (G.pos (by omega) h2))))
    · have hm : mx (width - t) 0 = width - t := by unfold mx; omega
      obtain ⟨r, h1, h2, h3⟩ := ih (out ++ [⟨l[i].f0, wrap64 (Int.tdiv (wrap64 (l[i].f1 * (width - t))) width)⟩]) (by simp; omega)
      refine ⟨r, G.succ ?_, G.succ ?_, h3⟩
      · simp only [spec_LookCloud.l0, rdT45 hi, hd, G.w64 i (by omega)]
        refine G.pos (by omega) (G.pos (by omega) (G.pos (by omega) (G.bind0 ha ?_)))
        rw [hw]
        exact G.neg ht (G.neg (by omega) (G.pos (by omega) h1))
      · simp only [impl_LookCloud.l0, rdT45 hi, hd, hx, hw, hm, G.w64 i (by omega)]
        exact G.pos (by omega) (G.pos (by omega) (G.pos (by omega) (G.neg (by omega) (G.pos (by omega) h2))))
theorem look_is (l : List S45) (seen width : Int) (hl : l.length ≤ 1048576) : ∃ r, Ev (fun k => spec_LookCloud.f k l seen width) r ∧ Ev (fun k => impl_LookCloud.f k l seen width) r ∧ r.1.length ≤ 60 := by
  have jt : Ev (fun k => spec_LookCloud.j0 k l seen width true) ([], false) := G.succ (G.now fun k => by simp [spec_LookCloud.j0])
  have jt' : Ev (fun k => impl_LookCloud.j0 k l seen width true) ([], false) := G.succ (G.now fun k => by simp [impl_LookCloud.j0])
  simp only [spec_LookCloud.f, impl_LookCloud.f]
  have hs := goodcloud_spec l
  have hi := goodcloud_impl l hl
  cases hg : (l.all good && decide (l.length ≤ 60)) with
  | false => rw [hg] at hs hi; exact ⟨([], false), G.bind hs (G.neg (by simp) jt), G.bind hi (G.neg (by simp) jt'), by simp⟩
  | true =>
    rw [hg] at hs hi
    simp only [Bool.and_eq_true, decide_eq_true_eq] at hg
    by_cases hsn : -1000000 ≤ seen ∧ seen ≤ 1000000
    · have e1 : spec_l11In.f seen = some true := by rw [in_is, decide_eq_true hsn]
      have e2 : impl_within.f seen 1000000 = some true := by rw [within_is, decide_eq_true hsn]
      by_cases hw0 : width < 1
      · exact ⟨([], false), G.bind hs (G.pos rfl (G.bind0 e1 (G.pos rfl (G.pos hw0 jt)))), G.bind hi (G.pos rfl (G.bind0 e2 (G.pos rfl (G.pos hw0 jt')))), by simp⟩
      · by_cases hw1 : width > 1000000
        · refine ⟨([], false), G.bind hs (G.pos rfl (G.bind0 e1 (G.pos rfl (G.neg hw0 ?_)))), G.bind hi (G.pos rfl (G.bind0 e2 (G.pos rfl (G.neg hw0 ?_)))), by simp⟩
          · rw [decide_eq_true hw1]; exact jt
          · rw [decide_eq_true hw1]; exact jt'
        · obtain ⟨r, h1, h2, h3⟩ := loops_is l hg.1 hg.2 seen width hsn.1 hsn.2 (by omega) (by omega) 0 (Nat.zero_le _) [] (Nat.le_refl _)
          refine ⟨r, G.bind hs (G.pos rfl (G.bind0 e1 (G.pos rfl (G.neg hw0 ?_)))), G.bind hi (G.pos rfl (G.bind0 e2 (G.pos rfl (G.neg hw0 ?_)))), h3⟩
          · rw [decide_eq_false hw1]; refine G.succ ?_; simp only [spec_LookCloud.j0]; exact G.neg (by simp) h1
          · rw [decide_eq_false hw1]; refine G.succ ?_; simp only [impl_LookCloud.j0]; exact G.neg (by simp) h2
    · have e1 : spec_l11In.f seen = some false := by rw [in_is, decide_eq_false hsn]
      have e2 : impl_within.f seen 1000000 = some false := by rw [within_is, decide_eq_false hsn]
      exact ⟨([], false), G.bind hs (G.pos rfl (G.bind0 e1 (G.neg (by simp) jt))), G.bind hi (G.pos rfl (G.bind0 e2 (G.neg (by simp) jt'))), by simp⟩
theorem FnExactLookCloud (l : List S48) (seen width : Int) {P Q R : Prop} (ok : l.length ≤ 9223372036854775807 ∧ P) (ok1 : Q) (ok2 : R) : ∃ k, laws_FnExactLookCloud.f k l seen width = some true := by
  refine Ev.rounds ?_
  simp only [laws_FnExactLookCloud.f]
  by_cases hl : l.length ≤ 1048576
  · rw [laws_szMoteS_le l _ (by omega) (by omega) (by omega)]
    have ht := laws_toMoteS_ev l hl
    have hl' : (l.map laws_toMoteS_cv).length ≤ 1048576 := by simpa using hl
    generalize l.map laws_toMoteS_cv = m at ht hl'
    obtain ⟨⟨o, b⟩, h1, h2, h3⟩ := look_is m seen width hl'
    have h3' : o.length ≤ 60 := h3
    have ho := laws_eqMoteS_refl o (by omega)
    have hm := laws_eqMoteS_refl m hl'
    have hmk := laws_markMoteS_ev o 1 (by omega) (by omega) (by omega)
    have hh := laws_heldMoteS_ev 1 o.length (by omega) (by omega) (by omega)
    have hmk1 := laws_markMoteS_ev m 1 (by omega) (by omega) hl'
    refine G.bind0 rfl (G.neg (by omega) (G.bind ht (G.bind h1 (G.bind ht (G.bind h2 (G.bind ho (G.pos rfl ?_)))))))
    simp only [bne_self_eq_false]
    refine G.succ ?_
    simp only [laws_FnExactLookCloud.j0]
    refine G.neg (by simp) (G.bind ht (G.bind hm (G.pos rfl (G.bind hmk1 (G.neg (by omega) (G.bind ho (G.pos rfl ?_)))))))
    simp only [bne_self_eq_false]
    refine G.succ ?_
    simp only [laws_FnExactLookCloud.j1]
    refine G.neg (by simp) (G.bind hmk (G.bind hh (G.neg (by omega) (G.pos rfl (G.bind ht (G.bind h2 (G.bind ho (G.pos rfl ?_))))))))
    simp only [bne_self_eq_false]
    refine G.succ ?_
    simp only [laws_FnExactLookCloud.j2]
    exact G.neg (by simp) (G.bind hh (G.neg (by omega) (G.pos rfl (G.now fun _ => rfl))))
  · rw [laws_szMoteS_gt l _ (by omega) (by omega) ok.1 (by omega)]
    exact G.bind0 rfl (G.pos (by omega) (G.now fun _ => rfl))

end Go.Proofs.Yteinhgiongoplaa.Pure
