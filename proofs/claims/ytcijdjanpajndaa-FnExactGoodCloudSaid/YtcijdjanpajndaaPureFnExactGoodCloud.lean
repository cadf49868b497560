/- For all arguments the printed law ExactGoodCloud answers true: plain lists and numbers, no memory. Conditions: none beyond what the program's own guards ask. -/
import Derived.Test.YtcijdjanpajndaaPFnExactGoodCloudx2
import Derived.Test.YtcijdjanpajndaaG
namespace Go.Proofs.Ytcijdjanpajndaa.Pure
open Go.RowKit Go.Proofs.Ytcijdjanpajndaa.PFnExactGoodCloud Go.Proofs.YtcijdjanpajndaaW.PrintWords Go.Proofs.YtcijdjanpajndaaW.PrintLast
set_option linter.unusedVariables false
set_option linter.unusedSimpArgs false

theorem rdT88 {l : List S88} {i : Nat} (h : i < l.length) : rd_T88 l (i : Int) = l[i] := by
  unfold rd_T88; exact G.getD_nat h

theorem rdT86 {l : List S86} {i : Nat} (h : i < l.length) : rd_T86 l (i : Int) = l[i] := by
  unfold rd_T86; exact G.getD_nat h

theorem laws_eqMoteS_refl (l : List S86) (hl : l.length ≤ 1048576) : Ev (fun k => laws_eqMoteS.f k l l) true := by
  unfold laws_eqMoteS.f
  refine G.pos rfl (G.true_loop (F := fun k i => laws_eqMoteS.l0 k l l i) l.length ?_ ?_)
  · intro k; simp only [laws_eqMoteS.l0]; rw [if_neg (by omega)]
  · intro k i h
    simp only [laws_eqMoteS.l0, laws_eqMote.f, if_true, Option.bind_some]
    rw [if_pos (by omega), if_pos (by omega), if_pos (by omega), G.w64 _ (by omega)]

theorem laws_szMoteS_le (l : List S88) (a : Int) (ha : 0 ≤ a) (ha' : a ≤ 1048576) (h : (l.length : Int) ≤ a) : laws_szMoteS.f l a = some (a - l.length) := by
  unfold laws_szMoteS.f
  rw [G.w64' (by omega) (by omega), if_neg (by omega)]
theorem laws_szMoteS_gt (l : List S88) (a : Int) (ha : 0 ≤ a) (ha' : a ≤ 1048576) (hm : l.length ≤ 9223372036854775807) (h : a < (l.length : Int)) : laws_szMoteS.f l a = some (-1) := by
  unfold laws_szMoteS.f
  rw [G.w64' (by omega) (by omega), if_pos (by omega)]

def laws_toMoteS_cv (x : S88) : S86 := ⟨x.f0, x.f1⟩
theorem laws_toMoteS_ev (l : List S88) (hl : l.length ≤ 1048576) : Ev (fun k => laws_toMoteS.f k l) (l.map laws_toMoteS_cv) := by
  simp only [laws_toMoteS.f]
  refine G.pos (by omega) (G.pos (by omega) ?_)
  have h := G.to_loop (fun k out i => laws_toMoteS.l0 k l out i) l laws_toMoteS_cv ?_ ?_ 0 (Nat.zero_le _) (List.replicate l.length z86) (by simp) (by simp)
  · simpa using h
  · intro k out; simp only [laws_toMoteS.l0]; rw [if_neg (by omega)]
  · intro k out i h ho
    simp only [laws_toMoteS.l0, laws_toMote.f, Option.bind_some]
    rw [if_pos (by omega), if_pos (by omega), if_pos (by omega), G.w64 _ (by omega), rdT88 h]
    simp [laws_toMoteS_cv]

def good (m : S86) : Bool := decide (-1000000 ≤ m.f0 ∧ m.f0 ≤ 1000000 ∧ 0 ≤ m.f1 ∧ m.f1 ≤ 1000000)
theorem in_is (a : Int) : spec_l11In.f a = some (decide (-1000000 ≤ a ∧ a ≤ 1000000)) := by
  simp only [spec_l11In.f, G.nest]; congr 1; simp
theorem within_is (a : Int) : impl_within.f a 1000000 = some (decide (-1000000 ≤ a ∧ a ≤ 1000000)) := by
  unfold impl_within.f; rw [G.wneg (by omega) (by omega)]; exact in_is a
theorem body (m : S86) {α : Type} (x y : α) : (if good m = true then x else y) = if -1000000 ≤ m.f0 ∧ m.f0 ≤ 1000000 then (if m.f1 < 0 then y else if m.f1 > 1000000 then y else x) else y := by
  unfold good
  by_cases h : -1000000 ≤ m.f0 ∧ m.f0 ≤ 1000000
  · rw [if_pos h]
    by_cases h1 : m.f1 < 0
    · rw [if_pos h1, if_neg (by simp; omega)]
    · rw [if_neg h1]
      by_cases h2 : m.f1 > 1000000
      · rw [if_pos h2, if_neg (by simp; omega)]
      · rw [if_neg h2, if_pos (by simp; omega)]
  · rw [if_neg h, if_neg (by simp; omega)]
theorem spec_is (l : List S86) : Ev (fun k => spec_GoodCloud.f k l) (l.all good && decide (l.length ≤ 60)) := by
  simp only [spec_GoodCloud.f]
  refine G.ite (fun h => G.now fun _ => ?_) (fun h => ?_)
  · rw [decide_eq_false (by omega), Bool.and_false]
  · rw [decide_eq_true (by omega)]
    refine G.all_loop (F := fun k i => spec_GoodCloud.l0 k l l.length i) l good true ?_ ?_
    · intro k; simp only [spec_GoodCloud.l0]; rw [if_neg (by omega)]
    · intro k i h
      simp only [spec_GoodCloud.l0, in_is, Option.bind_some]
      rw [if_pos (by omega), if_pos (by omega), if_pos (by omega), rdT86 h, G.w64 _ (by omega), body]
      simp only [decide_eq_true_eq]
theorem impl_is (l : List S86) (hl : l.length ≤ 1048576) : Ev (fun k => impl_GoodCloud.f k l) (l.all good && decide (l.length ≤ 60)) := by
  simp only [impl_GoodCloud.f]
  refine G.all_loop (F := fun k i => impl_GoodCloud.l0 k l l l.length i) l good _ ?_ ?_
  · intro k; simp only [impl_GoodCloud.l0]; rw [if_neg (by omega)]; congr 1; simp; omega
  · intro k i h
    simp only [impl_GoodCloud.l0, within_is, Option.bind_some]
    rw [if_pos (by omega), if_pos (by omega), if_pos (by omega), rdT86 h, G.w64 _ (by omega), body]
    simp only [decide_eq_true_eq]
theorem FnExactGoodCloud (l : List S88) {Q : Prop} (ok : l.length ≤ 9223372036854775807 ∧ Q) : ∃ k, laws_FnExactGoodCloud.f k l = some true := by
  refine Ev.rounds ?_
  simp only [laws_FnExactGoodCloud.f]
  by_cases hl : l.length ≤ 1048576
  · rw [laws_szMoteS_le l _ (by omega) (by omega) (by omega)]
    have ht := laws_toMoteS_ev l hl
    have hl' : (l.map laws_toMoteS_cv).length ≤ 1048576 := by simpa using hl
    refine G.bind0 rfl (G.neg (by omega) (G.bind ht (G.bind (spec_is _) (G.bind ht (G.bind (impl_is _ hl') (G.neg (by simp) (G.bind ht (G.bind (laws_eqMoteS_refl _ hl') (G.pos rfl (G.now fun _ => rfl))))))))))
  · rw [laws_szMoteS_gt l _ (by omega) (by omega) ok.1 (by omega)]
    exact G.bind0 rfl (G.pos (by omega) (G.now fun _ => rfl))

end Go.Proofs.Ytcijdjanpajndaa.Pure
