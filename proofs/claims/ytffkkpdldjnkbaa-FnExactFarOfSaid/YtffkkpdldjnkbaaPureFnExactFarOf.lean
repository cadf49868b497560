/- For all arguments the printed law ExactFarOf answers true: plain lists and numbers, no memory. Conditions: none beyond what the program's own guards ask. -/
import Derived.Test.YtffkkpdldjnkbaaRFnExactFarOfx3
import Derived.Test.YtffkkpdldjnkbaaG
import Derived.Test.YtffkkpdldjnkbaaGrid
namespace Go.Proofs.Ytffkkpdldjnkbaa.Pure
open Go.RowKit Go.Proofs.Ytffkkpdldjnkbaa.PFnExactFarOf Go.Proofs.YtffkkpdldjnkbaaW.PrintWords Go.Proofs.YtffkkpdldjnkbaaW.PrintLast
set_option linter.unusedVariables false
set_option linter.unusedSimpArgs false

theorem rdT27 {l : List S27} {i : Nat} (h : i < l.length) : rd_T27 l (i : Int) = l[i] := by
  unfold rd_T27; exact G.getD_nat h

theorem laws_eqIntS_refl (l : List Int) (hl : l.length ≤ 1048576) : Ev (fun k => laws_eqIntS.f k l l) true := by
  unfold laws_eqIntS.f
  refine G.pos rfl (G.true_loop (F := fun k i => laws_eqIntS.l0 k l l i) l.length ?_ ?_)
  · intro k; simp only [laws_eqIntS.l0]; rw [if_neg (by omega)]
  · intro k i h
    simp only [laws_eqIntS.l0]
    rw [if_pos (by omega), if_pos (by omega), if_pos (by omega), if_pos trivial, G.w64 _ (by omega)]

theorem laws_szIntS_le (l : List Int) (a : Int) (ha : 0 ≤ a) (ha' : a ≤ 1048576) (h : (l.length : Int) ≤ a) : laws_szIntS.f l a = some (a - l.length) := by
  unfold laws_szIntS.f
  rw [G.w64' (by omega) (by omega), if_neg (by omega)]
theorem laws_szIntS_gt (l : List Int) (a : Int) (ha : 0 ≤ a) (ha' : a ≤ 1048576) (hm : l.length ≤ 9223372036854775807) (h : a < (l.length : Int)) : laws_szIntS.f l a = some (-1) := by
  unfold laws_szIntS.f
  rw [G.w64' (by omega) (by omega), if_pos (by omega)]

theorem laws_toIntS_ev (l : List Int) (hl : l.length ≤ 1048576) : Ev (fun k => laws_toIntS.f k l) l := by
  simp only [laws_toIntS.f]
  refine G.pos (by omega) (G.pos (by omega) ?_)
  have h := G.to_loop (fun k out i => laws_toIntS.l0 k l out i) l id ?_ ?_ 0 (Nat.zero_le _) (List.replicate l.length 0) (by simp) (by simp)
  · simpa using h
  · intro k out; simp only [laws_toIntS.l0]; rw [if_neg (by omega)]
  · intro k out i h ho
    simp only [laws_toIntS.l0]
    rw [if_pos (by omega), if_pos (by omega), if_pos (by omega), G.w64 _ (by omega), G.rd_nat h]
    simp

theorem cast_mod (n w : Nat) : Int.tmod (n : Int) w = ((n % w : Nat) : Int) := by rw [Int.tmod_eq_emod_of_nonneg (by omega)]; rfl
theorem cast_div (n w : Nat) : Int.tdiv (n : Int) w = ((n / w : Nat) : Int) := by rw [Int.tdiv_eq_ediv_of_nonneg (by omega)]; rfl
theorem sized_ok (a : Int) (n : Nat) (hn : n ≤ 1048576) : ∃ b, spec_l12Sized.f a n = some b ∧ impl_squared.f a n = some b ∧ (b = true → ∃ w h : Nat, a = w ∧ 1 ≤ w ∧ w ≤ 16 ∧ 1 ≤ h ∧ h ≤ 16 ∧ n = w * h) := by
  unfold spec_l12Sized.f impl_squared.f
  by_cases h1 : a ≥ 1
  · obtain ⟨w, rfl⟩ : ∃ w : Nat, a = w := ⟨a.toNat, by omega⟩
    have hw : 0 < w := by omega
    rw [if_pos h1, if_pos h1]
    by_cases h2 : (w : Int) ≤ 16
    · have hq : n / w ≤ n := Nat.div_le_self _ _
      have hm := Nat.div_add_mod n w
      have hlt := Nat.mod_lt n hw
      have hz : n < w → n / w = 0 := Nat.div_eq_of_lt
      rw [if_pos h2, if_pos h2, if_neg (show ¬ (w : Int) = 0 by omega), if_neg (show ¬ (w : Int) = 0 by omega), cast_mod, cast_div]
      generalize n / w = q at *
      generalize n % w = r at *
      rw [G.w64' (i := (q : Int)) (by omega) (by omega)]
      by_cases h4 : (r : Int) = 0
      · by_cases h3 : (n : Int) ≥ w
        · have hq1 : 1 ≤ q := by
            rcases Nat.eq_zero_or_pos q with h | h
            · subst h; simp at hm; omega
            · exact h
          rw [if_pos h3, if_pos h4, if_pos h4, if_pos (by omega)]
          exact ⟨_, rfl, rfl, fun hb => ⟨w, q, rfl, by omega, by omega, hq1, by have := of_decide_eq_true hb; omega, by omega⟩⟩
        · have hq0 := hz (by omega)
          subst hq0
          rw [if_neg h3, if_pos h4, if_neg (by omega)]; exact ⟨false, rfl, rfl, by simp⟩
      · rw [if_neg h4, if_neg h4]; exact ⟨false, by split <;> rfl, rfl, by simp⟩
    · rw [if_neg h2, if_neg h2]; exact ⟨false, rfl, rfl, by simp⟩
  · rw [if_neg h1, if_neg h1]; exact ⟨false, rfl, rfl, by simp⟩
def okc (n : Int) : Bool := decide (0 ≤ n ∧ n ≤ 2)
theorem cbody (n : Int) {α : Type} (x y : α) : (if okc n = true then x else y) = if n < 0 then y else if n > 2 then y else x := by
  unfold okc
  by_cases h1 : n < 0
  · rw [if_pos h1, if_neg (by simp; omega)]
  · rw [if_neg h1]
    by_cases h2 : n > 2
    · rw [if_pos h2, if_neg (by simp; omega)]
    · rw [if_neg h2, if_pos (by simp; omega)]
theorem cells_spec_l0 (l : List Int) (hl : l.length ≤ 1048576) : Ev (fun k => spec_GoodCells.l0 k l l.length 0) (l.all okc && true) := by
  refine G.all_loop (F := fun k i => spec_GoodCells.l0 k l l.length i) l okc true ?_ ?_
  · intro k; simp only [spec_GoodCells.l0]; rw [if_neg (by omega)]
  · intro k i h
    simp only [spec_GoodCells.l0]
    rw [if_pos (by omega), if_pos (by omega), if_pos (by omega), G.rd_nat h, G.w64 _ (by omega), cbody]
theorem cells_impl_l0 (l : List Int) (hl : l.length ≤ 1048576) : Ev (fun k => impl_GoodCells.l0 k l l.length 0) (l.all okc && true) := by
  refine G.all_loop (F := fun k i => impl_GoodCells.l0 k l l.length i) l okc true ?_ ?_
  · intro k; simp only [impl_GoodCells.l0]; rw [if_neg (by omega)]
  · intro k i h
    simp only [impl_GoodCells.l0]
    rw [if_pos (by omega), if_pos (by omega), if_pos (by omega), G.rd_nat h, G.w64 _ (by omega), cbody]
theorem goodcells_ok (a : Int) (l : List Int) (hl : l.length ≤ 1048576) : ∃ r, Ev (fun k => spec_GoodCells.f k a l) r ∧ Ev (fun k => impl_GoodCells.f k a l) r ∧ (r = true → ∃ w h : Nat, a = w ∧ 1 ≤ w ∧ w ≤ 16 ∧ 1 ≤ h ∧ h ≤ 16 ∧ l.length = w * h) := by
  obtain ⟨b, h1, h2, h3⟩ := sized_ok a l.length hl
  simp only [spec_GoodCells.f, impl_GoodCells.f]
  cases b with
  | true => exact ⟨_, G.bind0 h1 (G.pos rfl (cells_spec_l0 l hl)), G.bind0 h2 (G.pos rfl (cells_impl_l0 l hl)), fun _ => h3 rfl⟩
  | false => exact ⟨false, G.bind0 h1 (G.neg (by simp) (G.now fun _ => rfl)), G.bind0 h2 (G.neg (by simp) (G.now fun _ => rfl)), by simp⟩
open Grid (can nto nxt mu nxf far ofO)
section
variable {w h : Nat} {l : List Int}
theorem free_nat (a : Int) {j : Nat} (hj : j < l.length) : impl_Cells_free.f a l (j : Int) = some (l[j] == 0) := by
  unfold impl_Cells_free.f
  rw [if_pos (by omega), if_pos (by omega), if_pos (by omega), G.rd_nat hj]
theorem free_neg (a : Int) : impl_Cells_free.f a l (-1) = some false := by unfold impl_Cells_free.f; rw [if_neg (by omega)]
theorem free_both (a t : Int) : ∃ r, impl_Cells_free.f a l t = some r ∧ spec_l12Free.f a l t = some r ∧ (r = true → ∃ j : Nat, t = j ∧ ∃ hj : j < l.length, l[j] = 0) := by
  unfold impl_Cells_free.f spec_l12Free.f
  by_cases h0 : t ≥ 0
  · obtain ⟨j, rfl⟩ : ∃ j : Nat, t = j := ⟨t.toNat, by omega⟩
    by_cases h1 : (j : Int) < l.length
    · have hj : j < l.length := by omega
      rw [if_pos h0, if_pos h1, if_pos (by omega), G.rd_nat hj]
      exact ⟨_, rfl, rfl, fun e => ⟨j, rfl, hj, by simpa using e⟩⟩
    · rw [if_pos h0, if_neg h1]; exact ⟨_, rfl, rfl, by simp⟩
  · rw [if_neg h0]; exact ⟨_, rfl, rfl, by simp⟩
/-- What is in the grid's bounds. -/
theorem prod_le {y w : Nat} (hy : y ≤ 16) (hw : w ≤ 16) : y * w ≤ 256 := by
  have := Nat.mul_le_mul hy hw; omega
theorem next_is (hw : 1 ≤ w) (hw' : w ≤ 16) (hh : 1 ≤ h) (hh' : h ≤ 16) (hl : l.length = w * h) {at_ : Nat} (ha : at_ < w * h) (dx dy : Int) (h1 : -1 ≤ dx) (h2 : dx ≤ 1) (h3 : -1 ≤ dy) (h4 : dy ≤ 1) :
    impl_Cells_next.f w l at_ dx dy = some (if 0 ≤ ((at_ % w : Nat) : Int) + dx ∧ ((at_ % w : Nat) : Int) + dx < w ∧ 0 ≤ ((at_ / w : Nat) : Int) + dy ∧ ((at_ / w : Nat) : Int) + dy < h then (((at_ / w : Nat) : Int) + dy) * w + (((at_ % w : Nat) : Int) + dx) else -1) := by
  obtain ⟨c1, c2, c3⟩ := Grid.coords (show 0 < w by omega) ha
  clear c3
  have hd : (l.length : Int) / (w : Int) = h := by rw [hl]; simp only [Int.natCast_mul]; exact Int.mul_ediv_cancel_left _ (by omega)
  unfold impl_Cells_next.f
  rw [if_neg (show ¬ (w : Int) = 0 by omega), cast_mod, cast_div, hd]
  generalize at_ % w = x at *
  generalize at_ / w = y at *
  rw [G.w64' (i := (x : Int) + dx) (by omega) (by omega), G.w64' (i := (y : Int)) (by omega) (by omega), G.w64' (i := (y : Int) + dy) (by omega) (by omega), G.w64' (i := (h : Int)) (by omega) (by omega)]
  by_cases e1 : (x : Int) + dx < 0
  · rw [if_pos e1, if_neg (by omega)]
  by_cases e2 : (x : Int) + dx ≥ w
  · rw [if_neg e1, if_pos e2, if_neg (by omega)]
  by_cases e3 : (y : Int) + dy < 0
  · rw [if_neg e1, if_neg e2, if_pos e3, if_neg (by omega)]
  by_cases e4 : (y : Int) + dy ≥ h
  · rw [if_neg e1, if_neg e2, if_neg e3, if_pos e4, if_neg (by omega)]
  rw [if_neg e1, if_neg e2, if_neg e3, if_neg e4, if_pos (by omega)]
  obtain ⟨z, hz⟩ : ∃ z : Nat, (y : Int) + dy = z := ⟨((y : Int) + dy).toNat, by omega⟩
  have hp := prod_le (y := z) (w := w) (by omega) hw'
  have hp' : ((z : Int) * w) = ((z * w : Nat) : Int) := by simp
  rw [hz, hp', G.w64' (i := ((z * w : Nat) : Int)) (by omega) (by omega), G.w64' (by omega) (by omega)]
theorem along_is (hw : 1 ≤ w) (hw' : w ≤ 16) (hh : 1 ≤ h) (hh' : h ≤ 16) (hl : l.length = w * h) {at_ : Nat} (ha : at_ < w * h) {way : Int} (hy : 0 ≤ way) (hy' : way ≤ 3) :
    impl_Cells_along.f w l at_ way = some (ofO (nxt w h at_ way)) := by
  obtain ⟨c1, c2, c3⟩ := Grid.coords (show 0 < w by omega) ha
  have hc4 : way = 0 ∨ way = 1 ∨ way = 2 ∨ way = 3 := by omega
  have key : ∀ dx dy : Int, -1 ≤ dx → dx ≤ 1 → -1 ≤ dy → dy ≤ 1 → (can w h at_ way ↔ (0 ≤ ((at_ % w : Nat) : Int) + dx ∧ ((at_ % w : Nat) : Int) + dx < w ∧ 0 ≤ ((at_ / w : Nat) : Int) + dy ∧ ((at_ / w : Nat) : Int) + dy < h)) → (can w h at_ way → (nto w at_ way : Int) = at_ + dy * w + dx) → impl_Cells_next.f w l at_ dx dy = some (ofO (nxt w h at_ way)) := by
    intro dx dy a1 a2 a3 a4 hiff hto
    rw [next_is hw hw' hh hh' hl ha dx dy a1 a2 a3 a4]
    unfold nxt
    by_cases hcan : can w h at_ way
    · rw [if_pos (hiff.1 hcan), if_pos hcan]
      show some _ = some ((nto w at_ way : Nat) : Int)
      rw [hto hcan, Int.add_mul]
      have : ((at_ / w : Nat) : Int) * w + ((at_ % w : Nat) : Int) = at_ := by
        have e : ((w * (at_ / w) + at_ % w : Nat) : Int) = at_ := by rw [Nat.div_add_mod]
        rw [Int.natCast_add, Int.natCast_mul, Int.mul_comm] at e; exact e
      congr 1
      omega
    · rw [if_neg (fun hx => hcan (hiff.2 hx)), if_neg hcan]; rfl
  unfold impl_Cells_along.f
  have hw0 : 0 < w := by omega
  rcases hc4 with rfl | rfl | rfl | rfl
  · rw [if_pos rfl]
    refine key 1 0 (by omega) (by omega) (by omega) (by omega) ?_ ?_
    · unfold can; clear key c3; generalize at_ % w = x at *; generalize at_ / w = y at *; omega
    · intro hcan; rcases Grid.to_coords hw0 ha hcan with ⟨e, _, _, h4⟩ | ⟨e, _⟩ | ⟨e, _⟩ | ⟨e, _⟩ <;> first | (rw [h4]; omega) | (exfalso; omega)
  · rw [if_neg (by omega), if_pos rfl]
    refine key 0 1 (by omega) (by omega) (by omega) (by omega) ?_ ?_
    · unfold can; clear key c3; generalize at_ % w = x at *; generalize at_ / w = y at *; omega
    · intro hcan; rcases Grid.to_coords hw0 ha hcan with ⟨e, _⟩ | ⟨e, _, _, h4⟩ | ⟨e, _⟩ | ⟨e, _⟩ <;> first | (rw [h4]; omega) | (exfalso; omega)
  · rw [if_neg (by omega), if_neg (by omega), if_pos rfl]
    refine key (-1) 0 (by omega) (by omega) (by omega) (by omega) ?_ ?_
    · unfold can; clear key c3; generalize at_ % w = x at *; generalize at_ / w = y at *; omega
    · intro hcan; rcases Grid.to_coords hw0 ha hcan with ⟨e, _⟩ | ⟨e, _⟩ | ⟨e, _, _, h4⟩ | ⟨e, _⟩ <;> first | (rw [h4]; omega) | (exfalso; omega)
  · rw [if_neg (by omega), if_neg (by omega), if_neg (by omega), if_pos rfl]
    refine key 0 (-1) (by omega) (by omega) (by omega) (by omega) ?_ ?_
    · unfold can; clear key c3; generalize at_ % w = x at *; generalize at_ / w = y at *; omega
    · intro hcan; rcases Grid.to_coords hw0 ha hcan with ⟨e, _⟩ | ⟨e, _⟩ | ⟨e, _⟩ | ⟨e, _, _, h4⟩ <;> first | (rw [h4]; omega) | (exfalso; omega)
theorem has_is (hw : 1 ≤ w) (hh' : h ≤ 16) (hw' : w ≤ 16) (hl : l.length = w * h) (x y : Int) : spec_l12Has.f w l.length x y = some (decide (0 ≤ x ∧ x < w ∧ 0 ≤ y ∧ y < h)) := by
  have hd : Int.tdiv (l.length : Int) (w : Int) = h := by rw [cast_div, hl, Nat.mul_div_cancel_left _ (by omega)]
  unfold spec_l12Has.f
  rw [hd, G.w64' (by omega) (by omega)]
  by_cases e1 : x ≥ 0
  · by_cases e2 : x < w
    · by_cases e3 : y ≥ 0
      · rw [if_pos e1, if_pos e2, if_pos e3, if_neg (by omega)]; congr 1; rw [Bool.eq_iff_iff]; simp only [decide_eq_true_eq]; omega
      · rw [if_pos e1, if_pos e2, if_neg e3, decide_eq_false (by omega)]
    · rw [if_pos e1, if_neg e2, decide_eq_false (by omega)]
  · rw [if_neg e1, decide_eq_false (by omega)]
theorem spec_next_is (hw : 1 ≤ w) (hw' : w ≤ 16) (hh : 1 ≤ h) (hh' : h ≤ 16) (hl : l.length = w * h) {at_ : Nat} (ha : at_ < w * h) {way : Int} (hy : 0 ≤ way) (hy' : way ≤ 3) :
    spec_l12Next.f w l at_ way = some (ofO (nxf w h l at_ way)) := by
  obtain ⟨c1, c2, c3⟩ := Grid.coords (show 0 < w by omega) ha
  have hc4 : way = 0 ∨ way = 1 ∨ way = 2 ∨ way = 3 := by omega
  have hw0 : 0 < w := by omega
  have key : ∀ x y i : Int, (can w h at_ way ↔ (0 ≤ x ∧ x < w ∧ 0 ≤ y ∧ y < h)) → (can w h at_ way → i = (nto w at_ way : Int)) →
      ((spec_l12Has.f w l.length x y).bind fun t => if t = true then (if 0 ≤ i then (if i < (l.length : Int) then (if rd l i = 0 then some i else some (-1)) else none) else none) else some (-1)) = some (ofO (nxf w h l at_ way)) := by
    intro x y i hiff hi
    rw [has_is hw hh' hw' hl]
    simp only [Option.bind_some, decide_eq_true_eq]
    unfold nxf
    by_cases hcan : can w h at_ way
    · have hlt := Grid.to_lt hw0 ha hcan
      rw [if_pos (hiff.1 hcan), hi hcan, if_pos (by omega), if_pos (by omega), G.rd_nat (by omega)]
      have e : l.getD (nto w at_ way) 1 = l[nto w at_ way]'(by omega) := by rw [List.getD_eq_getElem?_getD, List.getElem?_eq_getElem (by omega)]; rfl
      rw [e]
      by_cases hz : l[nto w at_ way]'(by omega) = 0
      · rw [if_pos hz, if_pos ⟨hcan, hz⟩]; rfl
      · rw [if_neg hz, if_neg (fun hx => hz hx.2)]; rfl
    · rw [if_neg (fun hx => hcan (hiff.2 hx)), if_neg (fun hx => hcan hx.1)]; rfl
  have hat : ((at_ / w : Nat) : Int) * w + ((at_ % w : Nat) : Int) = at_ := by
    have e : ((w * (at_ / w) + at_ % w : Nat) : Int) = at_ := by rw [Nat.div_add_mod]
    rw [Int.natCast_add, Int.natCast_mul, Int.mul_comm] at e; exact e
  have hyb : ((at_ / w : Nat) : Int) * w ≤ 256 ∧ 0 ≤ ((at_ / w : Nat) : Int) * w := by
    have := prod_le (y := at_ / w) (w := w) (by omega) hw'
    have e : ((at_ / w * w : Nat) : Int) = ((at_ / w : Nat) : Int) * w := by simp
    omega
  have hx0 := Int.natCast_nonneg (at_ % w)
  have hy0 := Int.natCast_nonneg (at_ / w)
  unfold spec_l12Next.f
  rw [if_neg (show ¬ (w : Int) = 0 by omega), cast_mod, cast_div, G.w64' (i := ((at_ / w : Nat) : Int)) (by omega) (by omega)]
  rcases hc4 with rfl | rfl | rfl | rfl
  · rw [if_pos rfl, G.w64' (i := ((at_ % w : Nat) : Int) + 1) (by omega) (by omega)]
    refine key _ _ _ ?_ ?_
    · unfold can; clear key c3 hat hyb; generalize at_ % w = x at *; generalize at_ / w = y at *; omega
    · intro hcan; rcases Grid.to_coords hw0 ha hcan with ⟨e, _, _, h4⟩ | ⟨e, _⟩ | ⟨e, _⟩ | ⟨e, _⟩ <;> first | (rw [h4, G.w64' (i := ((at_ / w : Nat) : Int) * w) (by omega) (by omega), G.w64' (by omega) (by omega)]; omega) | (exfalso; omega)
  · rw [if_neg (by omega), if_pos rfl, G.w64' (i := ((at_ / w : Nat) : Int) + 1) (by omega) (by omega)]
    refine key _ _ _ ?_ ?_
    · unfold can; clear key c3 hat hyb; generalize at_ % w = x at *; generalize at_ / w = y at *; omega
    · intro hcan; rcases Grid.to_coords hw0 ha hcan with ⟨e, _⟩ | ⟨e, _, _, h4⟩ | ⟨e, _⟩ | ⟨e, _⟩ <;> first | (rw [h4, Int.add_mul, Int.one_mul, G.w64' (i := ((at_ / w : Nat) : Int) * w + w) (by omega) (by omega), G.w64' (by omega) (by omega)]; omega) | (exfalso; omega)
  · rw [if_neg (by omega), if_neg (by omega), if_pos rfl, G.w64' (i := ((at_ % w : Nat) : Int) - 1) (by omega) (by omega)]
    refine key _ _ _ ?_ ?_
    · unfold can; clear key c3 hat hyb; generalize at_ % w = x at *; generalize at_ / w = y at *; omega
    · intro hcan; rcases Grid.to_coords hw0 ha hcan with ⟨e, _⟩ | ⟨e, _⟩ | ⟨e, _, _, h4⟩ | ⟨e, _⟩ <;> first | (rw [h4, G.w64' (i := ((at_ / w : Nat) : Int) * w) (by omega) (by omega), G.w64' (by omega) (by omega)]; omega) | (exfalso; omega)
  · rw [if_neg (by omega), if_neg (by omega), if_neg (by omega), G.w64' (i := ((at_ / w : Nat) : Int) - 1) (by omega) (by omega)]
    refine key _ _ _ ?_ ?_
    · unfold can; clear key c3 hat hyb; generalize at_ % w = x at *; generalize at_ / w = y at *; omega
    · intro hcan; rcases Grid.to_coords hw0 ha hcan with ⟨e, _⟩ | ⟨e, _⟩ | ⟨e, _⟩ | ⟨e, _, _, h4⟩ <;> first | (rw [h4, Int.sub_mul, Int.one_mul, G.w64' (i := ((at_ / w : Nat) : Int) * w - w) (by omega) (by omega), G.w64' (by omega) (by omega)]; omega) | (exfalso; omega)
end
section
variable {w h : Nat} {l : List Int} {way : Int}
theorem nxf_of_nxt {at_ j : Nat} (hn : nxt w h at_ way = some j) : nxf w h l at_ way = if l.getD j 1 = 0 then some j else none := by
  unfold nxt at hn
  by_cases hc : can w h at_ way
  · rw [if_pos hc] at hn
    obtain rfl := Option.some.inj hn
    unfold nxf
    by_cases hz : l.getD (nto w at_ way) 1 = 0
    · rw [if_pos ⟨hc, hz⟩, if_pos hz]
    · rw [if_neg (fun x => hz x.2), if_neg hz]
  · rw [if_neg hc] at hn; cases hn
theorem nxf_of_none {at_ : Nat} (hn : nxt w h at_ way = none) : nxf w h l at_ way = none := by
  unfold nxt at hn
  by_cases hc : can w h at_ way
  · rw [if_pos hc] at hn; cases hn
  · unfold nxf; rw [if_neg (fun x => hc x.1)]
theorem nxt_of_nxf {at_ j : Nat} (hn : nxf w h l at_ way = some j) : nxt w h at_ way = some j ∧ l.getD j 1 = 0 := by
  obtain ⟨hc, hz, rfl⟩ := Grid.nxf_some hn
  exact ⟨if_pos hc, hz⟩
theorem nxt_lt {at_ j : Nat} (hw : 0 < w) (ha : at_ < w * h) (hn : nxt w h at_ way = some j) : j < w * h := by
  unfold nxt at hn
  by_cases hc : can w h at_ way
  · rw [if_pos hc] at hn
    obtain rfl := Option.some.inj hn
    exact Grid.to_lt hw ha hc
  · rw [if_neg hc] at hn; cases hn
theorem getD_of {j : Nat} (hj : j < l.length) : l.getD j 1 = l[j] := by rw [List.getD_eq_getElem?_getD, List.getElem?_eq_getElem hj]; rfl
theorem free_ofO (hw : 0 < w) (hl : l.length = w * h) {at_ : Nat} (ha : at_ < w * h) : impl_Cells_free.f w l (ofO (nxt w h at_ way)) = some (nxf w h l at_ way).isSome := by
  rcases hn : nxt w h at_ way with _ | j
  · rw [nxf_of_none hn]; exact free_neg _
  · have hj := nxt_lt hw ha hn
    rw [nxf_of_nxt hn, getD_of (by omega)]
    show impl_Cells_free.f w l (j : Int) = _
    rw [free_nat _ (by omega)]
    by_cases hz : l[j]'(by omega) = 0
    · rw [if_pos hz]; simp [hz]
    · rw [if_neg hz]; simp [hz]
theorem far_evi (hw : 1 ≤ w) (hw' : w ≤ 16) (hh : 1 ≤ h) (hh' : h ≤ 16) (hl : l.length = w * h) (hy : 0 ≤ way) (hy' : way ≤ 3) : ∀ m at_, at_ < w * h → mu w h at_ way ≤ m → ∀ c : Nat, c + m ≤ 100000 →
    Ev (fun k => impl_Cells_far.l0 k (ofO (nxt w h at_ way)) way (c : Int) w l) ((c + far w h l way at_ : Nat) : Int) := by
  intro m
  induction m with
  | zero =>
    intro at_ ha hm c hc
    rcases hn : nxf w h l at_ way with _ | j
    · rw [Grid.far_none hn]
      refine G.succ ?_
      · simp only [impl_Cells_far.l0, free_ofO (l := l) (by omega) hl ha, hn, Option.isSome_none, Option.bind_some]
        exact G.neg (by simp) (G.now fun _ => rfl)
    · have := Grid.mu_to (by omega) ha (Grid.nxf_some hn).1; omega
  | succ m ih =>
    intro at_ ha hm c hc
    rcases hn : nxf w h l at_ way with _ | j
    · rw [Grid.far_none hn]
      refine G.succ ?_
      · simp only [impl_Cells_far.l0, free_ofO (l := l) (by omega) hl ha, hn, Option.isSome_none, Option.bind_some]
        exact G.neg (by simp) (G.now fun _ => rfl)
    · obtain ⟨hc1, hc2, hc3⟩ := Grid.nxf_some hn
      have hmu := Grid.mu_to (by omega) ha hc1
      have hj : j < w * h := by rw [hc3]; exact Grid.to_lt (by omega) ha hc1
      have hnt := (nxt_of_nxf hn).1
      rw [← hc3] at hmu
      have e2 := ih j hj (by omega) (c + 1) (by omega)
      have hf := free_ofO (l := l) (way := way) (show 0 < w by omega) hl ha
      rw [hnt, hn] at hf
      rw [Grid.far_some (by omega) ha hn, hnt, show c + (far w h l way j + 1) = c + 1 + far w h l way j by omega]
      refine G.succ ?_
      · simp only [impl_Cells_far.l0]
        refine G.bind0 hf (G.pos rfl ?_)
        simp only [ofO, along_is hw hw' hh hh' hl hj hy hy', Option.bind_some, G.w64 c (by omega)]
        exact e2
theorem impl_far_ev (hw : 1 ≤ w) (hw' : w ≤ 16) (hh : 1 ≤ h) (hh' : h ≤ 16) (hl : l.length = w * h) (hy : 0 ≤ way) (hy' : way ≤ 3) {at_ : Nat} (ha : at_ < w * h) :
    Ev (fun k => impl_Cells_far.f k w l at_ way) ((far w h l way at_ : Nat) : Int) := by
  have hm := Grid.mu_lt (way := way) (show 0 < w by omega) hw' hh' ha
  have e2 := far_evi hw hw' hh hh' hl hy hy' 16 at_ ha (by omega) 0 (by omega)
  simp only [impl_Cells_far.f, along_is hw hw' hh hh' hl ha hy hy', Option.bind_some]
  simpa using e2
end
theorem szcells_le (a : Int) (l : List Int) (hl : l.length ≤ 1048576) : laws_szCells.f a l 1048576 = some (1048576 - (l.length : Int)) := by
  unfold laws_szCells.f
  rw [laws_szIntS_le l _ (by omega) (by omega) (by omega)]
  simp only [Option.bind_some]; rw [if_neg (by omega)]
theorem szcells_gt (a : Int) (l : List Int) (hm : l.length ≤ 9223372036854775807) (hl : ¬ l.length ≤ 1048576) : laws_szCells.f a l 1048576 = some (-1) := by
  unfold laws_szCells.f
  rw [laws_szIntS_gt l _ (by omega) (by omega) hm (by omega)]; rfl
theorem tocells_ev (a : Int) (l : List Int) (hl : l.length ≤ 1048576) : Ev (fun k => laws_toCells.f k a l) (a, l) := by
  simp only [laws_toCells.f]
  exact G.bind (laws_toIntS_ev l hl) (G.now fun _ => rfl)
theorem eqcells_ev (a : Int) (l : List Int) (hl : l.length ≤ 1048576) : Ev (fun k => laws_eqCells.f k a l a l) true := by
  unfold laws_eqCells.f
  exact G.pos rfl (G.bind (laws_eqIntS_refl l hl) (G.pos rfl (G.now fun _ => rfl)))
section
variable {w h : Nat} {l : List Int} {way : Int}
theorem far_evs (hw : 1 ≤ w) (hw' : w ≤ 16) (hh : 1 ≤ h) (hh' : h ≤ 16) (hl : l.length = w * h) (hy : 0 ≤ way) (hy' : way ≤ 3) : ∀ m at_, at_ < w * h → mu w h at_ way ≤ m → ∀ c : Nat, c + m ≤ 100000 →
    Ev (fun k => spec_FarOf.l0 k (ofO (nxf w h l at_ way)) way (c : Int) w l) ((c + far w h l way at_ : Nat) : Int) := by
  intro m
  induction m with
  | zero =>
    intro at_ ha hm c hc
    rcases hn : nxf w h l at_ way with _ | j
    · rw [Grid.far_none hn]
      refine G.succ ?_
      · simp only [spec_FarOf.l0, ofO]; exact G.neg (by omega) (G.now fun _ => rfl)
    · have := Grid.mu_to (by omega) ha (Grid.nxf_some hn).1; omega
  | succ m ih =>
    intro at_ ha hm c hc
    rcases hn : nxf w h l at_ way with _ | j
    · rw [Grid.far_none hn]
      refine G.succ ?_
      · simp only [spec_FarOf.l0, ofO]; exact G.neg (by omega) (G.now fun _ => rfl)
    · obtain ⟨hc1, hc2, hc3⟩ := Grid.nxf_some hn
      have hmu := Grid.mu_to (by omega) ha hc1
      have hj : j < w * h := by rw [hc3]; exact Grid.to_lt (by omega) ha hc1
      have hnt := (nxt_of_nxf hn).1
      rw [← hc3] at hmu
      have e1 := ih j hj (by omega) (c + 1) (by omega)
      have hf := free_ofO (l := l) (way := way) (show 0 < w by omega) hl ha
      rw [hnt, hn] at hf
      rw [Grid.far_some (by omega) ha hn, show c + (far w h l way j + 1) = c + 1 + far w h l way j by omega]
      refine G.succ ?_
      · simp only [spec_FarOf.l0, ofO, spec_next_is hw hw' hh hh' hl hj hy hy', Option.bind_some, G.w64 c (by omega)]
        exact G.pos (by omega) e1
theorem spec_far_ev (hw : 1 ≤ w) (hw' : w ≤ 16) (hh : 1 ≤ h) (hh' : h ≤ 16) (hl : l.length = w * h) (hy : 0 ≤ way) (hy' : way ≤ 3) {at_ : Nat} (ha : at_ < w * h) (hg : Ev (fun k => spec_GoodCells.f k w l) true) (hz : l[at_]'(by omega) = 0) :
    Ev (fun k => spec_FarOf.f k w l at_ way) ((far w h l way at_ : Nat) : Int) := by
  have hm := Grid.mu_lt (way := way) (show 0 < w by omega) hw' hh' ha
  have e1 := far_evs hw hw' hh hh' hl hy hy' 16 at_ ha (by omega) 0 (by omega)
  have hf : spec_l12Free.f w l (at_ : Int) = some true := by
    unfold spec_l12Free.f
    rw [if_pos (by omega), if_pos (by omega), if_pos (by omega), G.rd_nat (by omega), hz]; rfl
  have hwy : spec_l12Way.f way = some true := by unfold spec_l12Way.f; rw [if_pos (by omega), decide_eq_true hy']
  simp only [spec_FarOf.f]
  refine G.bind hg (G.pos rfl (G.bind0 hf (G.pos rfl (G.bind0 hwy ?_))))
  refine G.succ ?_
  simp only [spec_FarOf.j0]
  refine G.neg (by simp) (G.bind0 (spec_next_is hw hw' hh hh' hl ha hy hy') ?_)
  simpa using e1
end
theorem farof_both (a : Int) (l : List Int) (hl : l.length ≤ 1048576) (t way : Int) : ∃ r, Ev (fun k => spec_FarOf.f k a l t way) r ∧ Ev (fun k => impl_FarOf.f k a l t way) r := by
  obtain ⟨b, h1, h2, h3⟩ := goodcells_ok a l hl
  cases b with
  | false =>
    refine ⟨-1, ?_, ?_⟩
    · simp only [spec_FarOf.f]
      refine G.bind h1 (G.neg (by simp) (G.succ ?_))
      simp only [spec_FarOf.j0]; exact G.pos (by trivial) (G.now fun _ => rfl)
    · simp only [impl_FarOf.f]
      exact G.bind h2 (G.neg (by simp) (G.now fun _ => rfl))
  | true =>
    obtain ⟨w, h, rfl, hw, hw', hh, hh', hlen⟩ := h3 rfl
    obtain ⟨f, f1, f2, f3⟩ := free_both (l := l) (w : Int) t
    cases f with
    | false =>
      refine ⟨-1, ?_, ?_⟩
      · simp only [spec_FarOf.f]
        refine G.bind h1 (G.pos rfl (G.bind0 f2 (G.neg (by simp) (G.succ ?_))))
        simp only [spec_FarOf.j0]; exact G.pos (by trivial) (G.now fun _ => rfl)
      · simp only [impl_FarOf.f]
        exact G.bind h2 (G.pos rfl (G.bind0 f1 (G.neg (by simp) (G.now fun _ => rfl))))
    | true =>
      obtain ⟨j, rfl, hj, hz⟩ := f3 rfl
      by_cases hy : 0 ≤ way
      · by_cases hy' : way ≤ 3
        · refine ⟨_, spec_far_ev hw hw' hh hh' hlen hy hy' (by omega) h1 hz, ?_⟩
          simp only [impl_FarOf.f]
          exact G.bind h2 (G.pos rfl (G.bind0 f1 (G.pos rfl (G.neg (by omega) (G.neg (by omega) (G.bind (impl_far_ev hw hw' hh hh' hlen hy hy' (by omega)) (G.now fun _ => rfl)))))))
        · have hwy : spec_l12Way.f way = some false := by unfold spec_l12Way.f; rw [if_pos (by omega), decide_eq_false hy']
          refine ⟨-1, ?_, ?_⟩
          · simp only [spec_FarOf.f]
            refine G.bind h1 (G.pos rfl (G.bind0 f2 (G.pos rfl (G.bind0 hwy (G.succ ?_)))))
            simp only [spec_FarOf.j0]; exact G.pos (by trivial) (G.now fun _ => rfl)
          · simp only [impl_FarOf.f]
            exact G.bind h2 (G.pos rfl (G.bind0 f1 (G.pos rfl (G.neg (by omega) (G.pos (by omega) (G.now fun _ => rfl))))))
      · have hwy : spec_l12Way.f way = some false := by unfold spec_l12Way.f; rw [if_neg (by omega)]
        refine ⟨-1, ?_, ?_⟩
        · simp only [spec_FarOf.f]
          refine G.bind h1 (G.pos rfl (G.bind0 f2 (G.pos rfl (G.bind0 hwy (G.succ ?_)))))
          simp only [spec_FarOf.j0]; exact G.pos (by trivial) (G.now fun _ => rfl)
        · simp only [impl_FarOf.f]
          exact G.bind h2 (G.pos rfl (G.bind0 f1 (G.pos rfl (G.pos (by omega) (G.now fun _ => rfl)))))
theorem FnExactFarOf (a : Int) (l : List Int) (at_ way : Int) {P Q : Prop} (ok : P ∧ (l.length ≤ 9223372036854775807 ∧ Q)) (hat : (Lit.int .i64 at_).wf = true) (hway : (Lit.int .i64 way).wf = true) : ∃ k, laws_FnExactFarOf.f k a l at_ way = some true := by
  refine Ev.rounds ?_
  simp only [laws_FnExactFarOf.f]
  by_cases hl : l.length ≤ 1048576
  · have ht := tocells_ev a l hl
    obtain ⟨r, h1, h2⟩ := farof_both a l hl at_ way
    exact G.bind0 (szcells_le a l hl) (G.neg (by omega) (G.bind ht (G.bind h1 (G.bind ht (G.bind h2 (G.pos rfl (G.bind ht (G.bind (eqcells_ev a l hl) (G.pos rfl (G.now fun _ => rfl))))))))))
  · exact G.bind0 (szcells_gt a l ok.2.1 hl) (G.pos (by omega) (G.now fun _ => rfl))

end Go.Proofs.Ytffkkpdldjnkbaa.Pure
