/- For all arguments the printed law ExactLoopAt answers true: plain lists and numbers, no memory. Conditions: none beyond what the program's own guards ask. -/
import Derived.Test.YtonafpbnjgdlgaaPFnExactLoopAtx6
import Derived.Test.YtonafpbnjgdlgaaG
namespace Go.Proofs.Ytonafpbnjgdlgaa.Pure
open Go.RowKit Go.Proofs.Ytonafpbnjgdlgaa.PFnExactLoopAt Go.Proofs.YtonafpbnjgdlgaaW.PrintWords Go.Proofs.YtonafpbnjgdlgaaW.PrintLast
set_option linter.unusedVariables false
set_option linter.unusedSimpArgs false

theorem rdT33 {l : List S33} {i : Nat} (h : i < l.length) : rd_T33 l (i : Int) = l[i] := by
  unfold rd_T33; exact G.getD_nat h

theorem rdT75 {l : List S75} {i : Nat} (h : i < l.length) : rd_T75 l (i : Int) = l[i] := by
  unfold rd_T75; exact G.getD_nat h

theorem rdT25 {l : List S25} {i : Nat} (h : i < l.length) : rd_T25 l (i : Int) = l[i] := by
  unfold rd_T25; exact G.getD_nat h

theorem rdT60 {l : List S60} {i : Nat} (h : i < l.length) : rd_T60 l (i : Int) = l[i] := by
  unfold rd_T60; exact G.getD_nat h

theorem laws_eqGainS_refl (l : List S60) (hl : l.length ≤ 1048576) : Ev (fun k => laws_eqGainS.f k l l) true := by
  unfold laws_eqGainS.f
  refine G.pos rfl (G.true_loop (F := fun k i => laws_eqGainS.l0 k l l i) l.length ?_ ?_)
  · intro k; simp only [laws_eqGainS.l0]; rw [if_neg (by omega)]
  · intro k i h
    simp only [laws_eqGainS.l0, laws_eqGain.f, laws_eqLoop.f, if_true, Option.bind_some]
    rw [if_pos (by omega), if_pos (by omega), if_pos (by omega), G.w64 _ (by omega)]

theorem laws_szGainS_le (l : List S75) (a : Int) (ha : 0 ≤ a) (ha' : a ≤ 1048576) (h : (l.length : Int) ≤ a) : laws_szGainS.f l a = some (a - l.length) := by
  unfold laws_szGainS.f
  rw [G.w64' (by omega) (by omega), if_neg (by omega)]
theorem laws_szGainS_gt (l : List S75) (a : Int) (ha : 0 ≤ a) (ha' : a ≤ 1048576) (hm : l.length ≤ 9223372036854775807) (h : a < (l.length : Int)) : laws_szGainS.f l a = some (-1) := by
  unfold laws_szGainS.f
  rw [G.w64' (by omega) (by omega), if_pos (by omega)]

def laws_toGainS_cv (x : S75) : S60 := ⟨x.f0, ⟨x.f1.f0, x.f1.f1, x.f1.f2, x.f1.f3, x.f1.f4, x.f1.f5, x.f1.f6⟩⟩
theorem laws_toGainS_ev (l : List S75) (hl : l.length ≤ 1048576) : Ev (fun k => laws_toGainS.f k l) (l.map laws_toGainS_cv) := by
  simp only [laws_toGainS.f]
  refine G.pos (by omega) (G.pos (by omega) ?_)
  have h := G.to_loop (fun k out i => laws_toGainS.l0 k l out i) l laws_toGainS_cv ?_ ?_ 0 (Nat.zero_le _) (List.replicate l.length z60) (by simp) (by simp)
  · simpa using h
  · intro k out; simp only [laws_toGainS.l0]; rw [if_neg (by omega)]
  · intro k out i h ho
    simp only [laws_toGainS.l0, laws_toGain.f, laws_toLoop.f, Option.bind_some]
    rw [if_pos (by omega), if_pos (by omega), if_pos (by omega), G.w64 _ (by omega), rdT75 h]
    simp [laws_toGainS_cv]

theorem goodloop_is (a0 a1 a2 a3 a4 a5 a6 : Int) : ∃ r, spec_GoodLoop.f a0 a1 a2 a3 a4 a5 a6 = some r ∧ impl_GoodLoop.f a0 a1 a2 a3 a4 a5 a6 = some r := by
  simp only [spec_GoodLoop.f, impl_GoodLoop.f, impl_between.f, G.nest, Option.bind_some]
  refine ⟨_, rfl, ?_⟩
  simp [Bool.and_assoc]
theorem goodloop_eq (a0 a1 a2 a3 a4 a5 a6 : Int) : impl_GoodLoop.f a0 a1 a2 a3 a4 a5 a6 = spec_GoodLoop.f a0 a1 a2 a3 a4 a5 a6 := by
  obtain ⟨r, h1, h2⟩ := goodloop_is a0 a1 a2 a3 a4 a5 a6
  rw [h1, h2]
theorem loops_eq : ∀ k, (∀ x0 x1 x7 x15 x16 x17 c0 c1 c2 c3 c4 c5 c6, impl_LoopAt.l0 k x0 x1 x7 x15 x16 x17 c0 c1 c2 c3 c4 c5 c6 = spec_LoopAt.l0 k x0 x1 x7 x15 x16 x17 c0 c1 c2 c3 c4 c5 c6) ∧
    (∀ x0 x1 x7 x15 x16 x17 x40 c0 c1 c2 c3 c4 c5 c6 d0 d1 d2 d3 d4 d5 d6 d7, impl_LoopAt.j1 k x0 x1 x7 x15 x16 x17 x40 c0 c1 c2 c3 c4 c5 c6 d0 d1 d2 d3 d4 d5 d6 d7 = spec_LoopAt.j1 k x0 x1 x7 x15 x16 x17 x40 c0 c1 c2 c3 c4 c5 c6 d0 d1 d2 d3 d4 d5 d6 d7) := by
  intro k
  induction k with
  | zero => exact ⟨fun _ _ _ _ _ _ _ _ _ _ _ _ _ => by simp [impl_LoopAt.l0, spec_LoopAt.l0], fun _ _ _ _ _ _ _ _ _ _ _ _ _ _ _ _ _ _ _ _ _ _ => by simp [impl_LoopAt.j1, spec_LoopAt.j1]⟩
  | succ k ih =>
    refine ⟨fun _ _ _ _ _ _ _ _ _ _ _ _ _ => ?_, fun _ _ _ _ _ _ _ _ _ _ _ _ _ _ _ _ _ _ _ _ _ _ => ?_⟩
    · simp only [impl_LoopAt.l0, spec_LoopAt.l0, goodloop_eq, ih.2]
    · simp only [impl_LoopAt.j1, spec_LoopAt.j1, ih.1]
theorem loopat_eq (k : Nat) (l : List S60) (at_ : Int) : impl_LoopAt.f k l at_ = spec_LoopAt.f k l at_ := by
  simp only [impl_LoopAt.f, spec_LoopAt.f, (loops_eq k).1]
theorem loop_some (l : List S60) (at_ : Int) (hl : l.length ≤ 60) : ∀ i, i ≤ l.length → ∀ b c0 c1 c2 c3 c4 c5 c6, ∃ r, Ev (fun k => spec_LoopAt.l0 k l at_ b l l.length (i : Int) c0 c1 c2 c3 c4 c5 c6) r := by
  refine G.down_ind l.length (fun i => ∀ b c0 c1 c2 c3 c4 c5 c6, ∃ r, Ev (fun k => spec_LoopAt.l0 k l at_ b l l.length (i : Int) c0 c1 c2 c3 c4 c5 c6) r) ?_ ?_
  · intro b c0 c1 c2 c3 c4 c5 c6
    refine ⟨(c0, c1, c2, c3, c4, c5, c6, b), G.succ (G.now fun k => ?_)⟩
    simp only [spec_LoopAt.l0]; rw [if_neg (by omega)]
  · intro i hi ih b c0 c1 c2 c3 c4 c5 c6
    have hj : ∀ x d0 d1 d2 d3 d4 d5 d6 d7, ∃ r, Ev (fun k => spec_LoopAt.j1 k l at_ b l l.length (i : Int) x c0 c1 c2 c3 c4 c5 c6 d0 d1 d2 d3 d4 d5 d6 d7) r := by
      intro x d0 d1 d2 d3 d4 d5 d6 d7
      cases x with
      | true => exact ⟨_, G.succ (G.now fun k => by simp only [spec_LoopAt.j1, if_true]; rfl)⟩
      | false =>
        by_cases h : d0 ≤ at_
        · obtain ⟨r, hr⟩ := ih true d1 d2 d3 d4 d5 d6 d7
          refine ⟨r, G.succ ?_⟩
          simp only [spec_LoopAt.j1, G.w64 i (by omega)]
          exact G.neg (by simp) (G.pos h hr)
        · obtain ⟨r, hr⟩ := ih b c0 c1 c2 c3 c4 c5 c6
          refine ⟨r, G.succ ?_⟩
          simp only [spec_LoopAt.j1, G.w64 i (by omega)]
          exact G.neg (by simp) (G.neg h hr)
    obtain ⟨g, hg, _⟩ := goodloop_is (rd_T60 l i).f1.f0 (rd_T60 l i).f1.f1 (rd_T60 l i).f1.f2 (rd_T60 l i).f1.f3 (rd_T60 l i).f1.f4 (rd_T60 l i).f1.f5 (rd_T60 l i).f1.f6
    cases g with
    | false =>
      obtain ⟨r, hr⟩ := hj true _ _ _ _ _ _ _ _
      refine ⟨r, G.succ ?_⟩
      simp only [spec_LoopAt.l0]
      exact G.pos (by omega) (G.pos (by omega) (G.pos (by omega) (G.bind0 hg (G.neg (by simp) hr))))
    | true =>
      by_cases h0 : (i : Int) > 0
      · have e1 : wrap64 ((i : Int) - 1) = (i : Int) - 1 := G.w64' (by omega) (by omega)
        obtain ⟨r, hr⟩ := hj _ _ _ _ _ _ _ _ _
        refine ⟨r, G.succ ?_⟩
        simp only [spec_LoopAt.l0]
        refine G.pos (by omega) (G.pos (by omega) (G.pos (by omega) (G.bind0 hg (G.pos rfl (G.pos h0 ?_)))))
        rw [e1]
        exact G.pos (by omega) (G.pos (by omega) hr)
      · obtain ⟨r, hr⟩ := hj _ _ _ _ _ _ _ _ _
        refine ⟨r, G.succ ?_⟩
        simp only [spec_LoopAt.l0]
        exact G.pos (by omega) (G.pos (by omega) (G.pos (by omega) (G.bind0 hg (G.pos rfl (G.neg h0 hr)))))
theorem loopat_some (l : List S60) (at_ : Int) : ∃ r, Ev (fun k => spec_LoopAt.f k l at_) r := by
  simp only [spec_LoopAt.f]
  by_cases h : (l.length : Int) > 60
  · exact ⟨_, G.pos h (G.now fun _ => rfl)⟩
  · obtain ⟨r, hr⟩ := loop_some l at_ (by omega) 0 (Nat.zero_le _) false 0 0 0 0 0 0 0
    exact ⟨r, G.neg h hr⟩
theorem FnExactLoopAt (l : List S75) (at_ : Int) {P Q : Prop} (ok : l.length ≤ 9223372036854775807 ∧ P) (ok1 : Q) : ∃ k, laws_FnExactLoopAt.f k l at_ = some true := by
  refine Ev.rounds ?_
  simp only [laws_FnExactLoopAt.f]
  by_cases hl : l.length ≤ 1048576
  · rw [laws_szGainS_le l _ (by omega) (by omega) (by omega)]
    have ht := laws_toGainS_ev l hl
    have hl' : (l.map laws_toGainS_cv).length ≤ 1048576 := by simpa using hl
    generalize l.map laws_toGainS_cv = m at ht hl'
    obtain ⟨r, hr⟩ := loopat_some m at_
    refine G.bind0 rfl (G.neg (by omega) (G.bind ht (G.bind hr (G.bind ht (G.bind (a := r) (by simp only [loopat_eq]; exact hr) (G.bind0 (a := true) (by simp [laws_eqLoop.f]) (G.pos rfl ?_)))))))
    simp only [bne_self_eq_false]
    refine G.succ ?_
    simp only [laws_FnExactLoopAt.j0]
    exact G.neg (by simp) (G.bind ht (G.bind (laws_eqGainS_refl _ hl') (G.pos rfl (G.now fun _ => rfl))))
  · rw [laws_szGainS_gt l _ (by omega) (by omega) ok.1 (by omega)]
    exact G.bind0 rfl (G.pos (by omega) (G.now fun _ => rfl))

end Go.Proofs.Ytonafpbnjgdlgaa.Pure
