/- For all arguments the printed law ExactGoodWalls answers true: plain lists and numbers, no memory. Conditions: none beyond what the program's own guards ask. -/
import Derived.Test.YtcijdjanpajndaaPFnExactGoodWallsx2
import Derived.Test.YtcijdjanpajndaaG
namespace Go.Proofs.Ytcijdjanpajndaa.Pure
open Go.RowKit Go.Proofs.Ytcijdjanpajndaa.PFnExactGoodWalls Go.Proofs.YtcijdjanpajndaaW.PrintWords Go.Proofs.YtcijdjanpajndaaW.PrintLast
set_option linter.unusedVariables false
set_option linter.unusedSimpArgs false

theorem rdT95 {l : List S95} {i : Nat} (h : i < l.length) : rd_T95 l (i : Int) = l[i] := by
  unfold rd_T95; exact G.getD_nat h

theorem rdT93 {l : List S93} {i : Nat} (h : i < l.length) : rd_T93 l (i : Int) = l[i] := by
  unfold rd_T93; exact G.getD_nat h

theorem laws_eqWallS_refl (l : List S93) (hl : l.length ≤ 1048576) : Ev (fun k => laws_eqWallS.f k l l) true := by
  unfold laws_eqWallS.f
  refine G.pos rfl (G.true_loop (F := fun k i => laws_eqWallS.l0 k l l i) l.length ?_ ?_)
  · intro k; simp only [laws_eqWallS.l0]; rw [if_neg (by omega)]
  · intro k i h
    simp only [laws_eqWallS.l0, laws_eqWall.f, if_true, Option.bind_some]
    rw [if_pos (by omega), if_pos (by omega), if_pos (by omega), G.w64 _ (by omega)]

theorem laws_szWallS_le (l : List S95) (a : Int) (ha : 0 ≤ a) (ha' : a ≤ 1048576) (h : (l.length : Int) ≤ a) : laws_szWallS.f l a = some (a - l.length) := by
  unfold laws_szWallS.f
  rw [G.w64' (by omega) (by omega), if_neg (by omega)]
theorem laws_szWallS_gt (l : List S95) (a : Int) (ha : 0 ≤ a) (ha' : a ≤ 1048576) (hm : l.length ≤ 9223372036854775807) (h : a < (l.length : Int)) : laws_szWallS.f l a = some (-1) := by
  unfold laws_szWallS.f
  rw [G.w64' (by omega) (by omega), if_pos (by omega)]

def laws_toWallS_cv (x : S95) : S93 := ⟨x.f0, x.f1, x.f2, x.f3⟩
theorem laws_toWallS_ev (l : List S95) (hl : l.length ≤ 1048576) : Ev (fun k => laws_toWallS.f k l) (l.map laws_toWallS_cv) := by
  simp only [laws_toWallS.f]
  refine G.pos (by omega) (G.pos (by omega) ?_)
  have h := G.to_loop (fun k out i => laws_toWallS.l0 k l out i) l laws_toWallS_cv ?_ ?_ 0 (Nat.zero_le _) (List.replicate l.length z93) (by simp) (by simp)
  · simpa using h
  · intro k out; simp only [laws_toWallS.l0]; rw [if_neg (by omega)]
  · intro k out i h ho
    simp only [laws_toWallS.l0, laws_toWall.f, Option.bind_some]
    rw [if_pos (by omega), if_pos (by omega), if_pos (by omega), G.w64 _ (by omega), rdT95 h]
    simp [laws_toWallS_cv]

def inp (a : Int) : Bool := decide (-1000 ≤ a ∧ a ≤ 1000)
theorem place_is (a : Int) : spec_l8Place.f a = some (inp a) := by
  simp only [spec_l8Place.f, G.nest]; congr 1; simp [inp]
theorem within_is (a : Int) : impl_within.f a 1000 = some (inp a) := by
  unfold impl_within.f; rw [G.wneg (by omega) (by omega)]; exact place_is a
def good (m : S93) : Bool := inp m.f0 && inp m.f1 && inp m.f2 && inp m.f3 && !(decide (m.f0 = m.f2) && decide (m.f1 = m.f3))
theorem spec_is (l : List S93) : Ev (fun k => spec_GoodWalls.f k l) (l.all good && decide (l.length ≤ 12)) := by
  simp only [spec_GoodWalls.f]
  refine G.ite (fun h => G.now fun _ => ?_) (fun h => ?_)
  · rw [decide_eq_false (by omega), Bool.and_false]
  · rw [decide_eq_true (by omega)]
    refine G.all_loop (F := fun k i => spec_GoodWalls.l0 k l l.length i) l good true ?_ ?_
    · intro k; simp only [spec_GoodWalls.l0]; rw [if_neg (by omega)]
    · intro k i h
      simp only [spec_GoodWalls.l0, place_is, Option.bind_some]
      rw [if_pos (by omega), if_pos (by omega), if_pos (by omega), rdT93 h, G.w64 _ (by omega)]
      unfold good
      cases inp l[i].f0 <;> cases inp l[i].f1 <;> cases inp l[i].f2 <;> cases inp l[i].f3 <;> by_cases e1 : l[i].f0 = l[i].f2 <;> by_cases e2 : l[i].f1 = l[i].f3 <;> simp [e1, e2]
theorem impl_is (l : List S93) (hl : l.length ≤ 1048576) : Ev (fun k => impl_GoodWalls.f k l) (l.all good && decide (l.length ≤ 12)) := by
  simp only [impl_GoodWalls.f]
  have h : ∀ i, i ≤ l.length → Ev (fun k => impl_GoodWalls.l0 k l l l.length (i : Int)) ((l.drop i).all good && decide (l.length ≤ 12)) := by
    refine G.down_ind l.length (fun i => Ev (fun k => impl_GoodWalls.l0 k l l l.length (i : Int)) ((l.drop i).all good && decide (l.length ≤ 12))) ?_ ?_
    · refine G.succ (G.now fun k => ?_)
      simp only [impl_GoodWalls.l0]; rw [if_neg (by omega)]; congr 1; simp; omega
    · intro i hi ih
      have r0 (a b c d : Int) : rd [a, b, c, d] 0 = a := rfl
      have r1 (a b c d : Int) : rd [a, b, c, d] 1 = b := rfl
      have r2 (a b c d : Int) : rd [a, b, c, d] 2 = c := rfl
      have r3 (a b c d : Int) : rd [a, b, c, d] 3 = d := rfl
      refine G.succ ?_
      simp only [impl_GoodWalls.l0, Option.bind_some]
      refine G.pos (by omega) (G.pos (by omega) (G.pos (by omega) ?_))
      rw [rdT93 hi, List.drop_eq_getElem_cons hi, List.all_cons]
      generalize l[i] = m
      obtain ⟨a, b, c, d⟩ := m
      simp only [List.length_cons, List.length_nil]
      have step (j : Int) (h0 : 0 ≤ j) (h4 : j < 4) (k : Nat) : impl_GoodWalls.l1 (k + 1) l l l.length i [a, b, c, d] ((0 + 1 + 1 + 1 + 1 : Nat) : Int) j a b c d = if inp (rd [a, b, c, d] j) = true then impl_GoodWalls.l1 k l l l.length i [a, b, c, d] ((0 + 1 + 1 + 1 + 1 : Nat) : Int) (j + 1) a b c d else some false := by
        simp only [impl_GoodWalls.l1, within_is, Option.bind_some]
        rw [if_pos (by omega), if_pos (by omega), if_pos (by simp; omega), G.w64' (by omega) (by omega)]
      have fin : Ev (fun k => impl_GoodWalls.l1 k l l l.length i [a, b, c, d] ((0 + 1 + 1 + 1 + 1 : Nat) : Int) 4 a b c d) (!(decide (a = c) && decide (b = d)) && ((l.drop (i + 1)).all good && decide (l.length ≤ 12))) := by
        refine G.succ ?_
        simp only [impl_GoodWalls.l1]
        refine G.neg (by omega) ?_
        rw [G.w64 _ (by omega)]
        refine G.ite (fun e1 => G.ite (fun e2 => G.now fun _ => by simp [e1, e2]) (fun e2 => ?_)) (fun e1 => ?_)
        · rw [decide_eq_false e2]; simpa using ih
        · rw [decide_eq_false e1]; simpa using ih
      unfold good
      cases h0 : inp a
      · refine G.succ (G.now fun k => ?_); rw [step 0 (by omega) (by omega), r0, h0]; simp
      refine G.succ ?_; simp only [step 0 (by omega) (by omega), r0, h0, if_true, Int.zero_add]
      cases h1 : inp b
      · refine G.succ (G.now fun k => ?_); rw [step 1 (by omega) (by omega), r1, h1]; simp
      refine G.succ ?_; simp only [step 1 (by omega) (by omega), r1, h1, if_true, show (1 : Int) + 1 = 2 from rfl]
      cases h2 : inp c
      · refine G.succ (G.now fun k => ?_); rw [step 2 (by omega) (by omega), r2, h2]; simp
      refine G.succ ?_; simp only [step 2 (by omega) (by omega), r2, h2, if_true, show (2 : Int) + 1 = 3 from rfl]
      cases h3 : inp d
      · refine G.succ (G.now fun k => ?_); rw [step 3 (by omega) (by omega), r3, h3]; simp
      refine G.succ ?_; simp only [step 3 (by omega) (by omega), r3, h3, if_true, show (3 : Int) + 1 = 4 from rfl]
      refine G.eqv fin ?_
      change _ = (_ && List.all (l.drop (i + 1)) good && _)
      simp [Bool.and_assoc]
  exact h 0 (Nat.zero_le _)
theorem FnExactGoodWalls (l : List S95) {Q : Prop} (ok : l.length ≤ 9223372036854775807 ∧ Q) : ∃ k, laws_FnExactGoodWalls.f k l = some true := by
  refine Ev.rounds ?_
  simp only [laws_FnExactGoodWalls.f]
  by_cases hl : l.length ≤ 1048576
  · rw [laws_szWallS_le l _ (by omega) (by omega) (by omega)]
    have ht := laws_toWallS_ev l hl
    have hl' : (l.map laws_toWallS_cv).length ≤ 1048576 := by simpa using hl
    refine G.bind0 rfl (G.neg (by omega) (G.bind ht (G.bind (spec_is _) (G.bind ht (G.bind (impl_is _ hl') (G.neg (by simp) (G.bind ht (G.bind (laws_eqWallS_refl _ hl') (G.pos rfl (G.now fun _ => rfl))))))))))
  · rw [laws_szWallS_gt l _ (by omega) (by omega) ok.1 (by omega)]
    exact G.bind0 rfl (G.pos (by omega) (G.now fun _ => rfl))

end Go.Proofs.Ytcijdjanpajndaa.Pure
