/- For all arguments the printed law Steps answers true: plain lists and numbers, no memory. Conditions: none beyond what the program's own guards ask. -/
import Derived.Test.YtffkkpdldjnkbaaRFnStepsx12
import Derived.Test.YtffkkpdldjnkbaaG
import Derived.Test.YtffkkpdldjnkbaaGrid
namespace Go.Proofs.Ytffkkpdldjnkbaa.Pure
open Go.RowKit Go.Proofs.Ytffkkpdldjnkbaa.PFnSteps Go.Proofs.YtffkkpdldjnkbaaW.PrintWords Go.Proofs.YtffkkpdldjnkbaaW.PrintLast
set_option linter.unusedVariables false
set_option linter.unusedSimpArgs false

theorem rdT27 {l : List S27} {i : Nat} (h : i < l.length) : rd_T27 l (i : Int) = l[i] := by
  unfold rd_T27; exact G.getD_nat h

theorem rdT53 {l : List S53} {i : Nat} (h : i < l.length) : rd_T53 l (i : Int) = l[i] := by
  unfold rd_T53; exact G.getD_nat h

theorem cast_mod (n w : Nat) : Int.tmod (n : Int) w = ((n % w : Nat) : Int) := by rw [Int.tmod_eq_emod_of_nonneg (by omega)]; rfl
theorem cast_div (n w : Nat) : Int.tdiv (n : Int) w = ((n / w : Nat) : Int) := by rw [Int.tdiv_eq_ediv_of_nonneg (by omega)]; rfl
theorem sized_ok (a : Int) (n : Nat) (hn : n ≤ 1048576) : ∃ b, spec_l12Sized.f a n = some b ∧ impl_squared.f a n = some b ∧ (b = true → ∃ w h : Nat, a = w ∧ 1 ≤ w ∧ w ≤ 16 ∧ 1 ≤ h ∧ h ≤ 16 ∧ n = w * h) := by
  unfold spec_l12Sized.f impl_squared.f
  by_cases h1 : a ≥ 1
  · obtain ⟨w, rfl⟩ : ∃ w : Nat, a = w := ⟨a.toNat, by omega⟩
    have hw : 0 < w := by omega
    rw [if_pos h1, if_pos h1]
    by_cases h2 : (w : Int) ≤ 16
    · have hq : n / w ≤ n := Nat.div_le_self _ _
      have hm := Nat.div_add_mod n w
      have hlt := Nat.mod_lt n hw
      have hz : n < w → n / w = 0 := Nat.div_eq_of_lt
      rw [if_pos h2, if_pos h2, if_neg (show ¬ (w : Int) = 0 by omega), if_neg (show ¬ (w : Int) = 0 by omega), cast_mod, cast_div]
      generalize n / w = q at *
      generalize n % w = r at *
      rw [G.w64' (i := (q : Int)) (by omega) (by omega)]
      by_cases h4 : (r : Int) = 0
      · by_cases h3 : (n : Int) ≥ w
        · have hq1 : 1 ≤ q := by
            rcases Nat.eq_zero_or_pos q with h | h
            · subst h; simp at hm; omega
            · exact h
          rw [if_pos h3, if_pos h4, if_pos h4, if_pos (by omega)]
          exact ⟨_, rfl, rfl, fun hb => ⟨w, q, rfl, by omega, by omega, hq1, by have := of_decide_eq_true hb; omega, by omega⟩⟩
        · have hq0 := hz (by omega)
          subst hq0
          rw [if_neg h3, if_pos h4, if_neg (by omega)]; exact ⟨false, rfl, rfl, by simp⟩
      · rw [if_neg h4, if_neg h4]; exact ⟨false, by split <;> rfl, rfl, by simp⟩
    · rw [if_neg h2, if_neg h2]; exact ⟨false, rfl, rfl, by simp⟩
  · rw [if_neg h1, if_neg h1]; exact ⟨false, rfl, rfl, by simp⟩
def okc (n : Int) : Bool := decide (0 ≤ n ∧ n ≤ 2)
theorem cbody (n : Int) {α : Type} (x y : α) : (if okc n = true then x else y) = if n < 0 then y else if n > 2 then y else x := by
  unfold okc
  by_cases h1 : n < 0
  · rw [if_pos h1, if_neg (by simp; omega)]
  · rw [if_neg h1]
    by_cases h2 : n > 2
    · rw [if_pos h2, if_neg (by simp; omega)]
    · rw [if_neg h2, if_pos (by simp; omega)]
theorem cells_spec_l0 (l : List Int) (hl : l.length ≤ 1048576) : Ev (fun k => spec_GoodCells.l0 k l l.length 0) (l.all okc && true) := by
  refine G.all_loop (F := fun k i => spec_GoodCells.l0 k l l.length i) l okc true ?_ ?_
  · intro k; simp only [spec_GoodCells.l0]; rw [if_neg (by omega)]
  · intro k i h
    simp only [spec_GoodCells.l0]
    rw [if_pos (by omega), if_pos (by omega), if_pos (by omega), G.rd_nat h, G.w64 _ (by omega), cbody]
theorem cells_impl_l0 (l : List Int) (hl : l.length ≤ 1048576) : Ev (fun k => impl_GoodCells.l0 k l l.length 0) (l.all okc && true) := by
  refine G.all_loop (F := fun k i => impl_GoodCells.l0 k l l.length i) l okc true ?_ ?_
  · intro k; simp only [impl_GoodCells.l0]; rw [if_neg (by omega)]
  · intro k i h
    simp only [impl_GoodCells.l0]
    rw [if_pos (by omega), if_pos (by omega), if_pos (by omega), G.rd_nat h, G.w64 _ (by omega), cbody]
theorem goodcells_ok (a : Int) (l : List Int) (hl : l.length ≤ 1048576) : ∃ r, Ev (fun k => spec_GoodCells.f k a l) r ∧ Ev (fun k => impl_GoodCells.f k a l) r ∧ (r = true → ∃ w h : Nat, a = w ∧ 1 ≤ w ∧ w ≤ 16 ∧ 1 ≤ h ∧ h ≤ 16 ∧ l.length = w * h) := by
  obtain ⟨b, h1, h2, h3⟩ := sized_ok a l.length hl
  simp only [spec_GoodCells.f, impl_GoodCells.f]
  cases b with
  | true => exact ⟨_, G.bind0 h1 (G.pos rfl (cells_spec_l0 l hl)), G.bind0 h2 (G.pos rfl (cells_impl_l0 l hl)), fun _ => h3 rfl⟩
  | false => exact ⟨false, G.bind0 h1 (G.neg (by simp) (G.now fun _ => rfl)), G.bind0 h2 (G.neg (by simp) (G.now fun _ => rfl)), by simp⟩
open Grid (can nto nxt mu nxf far ofO)
section
variable {w h : Nat} {l : List Int}
theorem free_nat (a : Int) {j : Nat} (hj : j < l.length) : impl_Cells_free.f a l (j : Int) = some (l[j] == 0) := by
  unfold impl_Cells_free.f
  rw [if_pos (by omega), if_pos (by omega), if_pos (by omega), G.rd_nat hj]
theorem free_neg (a : Int) : impl_Cells_free.f a l (-1) = some false := by unfold impl_Cells_free.f; rw [if_neg (by omega)]
theorem free_both (a t : Int) : ∃ r, impl_Cells_free.f a l t = some r ∧ spec_l12Free.f a l t = some r ∧ (r = true → ∃ j : Nat, t = j ∧ ∃ hj : j < l.length, l[j] = 0) := by
  unfold impl_Cells_free.f spec_l12Free.f
  by_cases h0 : t ≥ 0
  · obtain ⟨j, rfl⟩ : ∃ j : Nat, t = j := ⟨t.toNat, by omega⟩
    by_cases h1 : (j : Int) < l.length
    · have hj : j < l.length := by omega
      rw [if_pos h0, if_pos h1, if_pos (by omega), G.rd_nat hj]
      exact ⟨_, rfl, rfl, fun e => ⟨j, rfl, hj, by simpa using e⟩⟩
    · rw [if_pos h0, if_neg h1]; exact ⟨_, rfl, rfl, by simp⟩
  · rw [if_neg h0]; exact ⟨_, rfl, rfl, by simp⟩
/-- What is in the grid's bounds. -/
theorem prod_le {y w : Nat} (hy : y ≤ 16) (hw : w ≤ 16) : y * w ≤ 256 := by
  have := Nat.mul_le_mul hy hw; omega
theorem next_is (hw : 1 ≤ w) (hw' : w ≤ 16) (hh : 1 ≤ h) (hh' : h ≤ 16) (hl : l.length = w * h) {at_ : Nat} (ha : at_ < w * h) (dx dy : Int) (h1 : -1 ≤ dx) (h2 : dx ≤ 1) (h3 : -1 ≤ dy) (h4 : dy ≤ 1) :
    impl_Cells_next.f w l at_ dx dy = some (if 0 ≤ ((at_ % w : Nat) : Int) + dx ∧ ((at_ % w : Nat) : Int) + dx < w ∧ 0 ≤ ((at_ / w : Nat) : Int) + dy ∧ ((at_ / w : Nat) : Int) + dy < h then (((at_ / w : Nat) : Int) + dy) * w + (((at_ % w : Nat) : Int) + dx) else -1) := by
  obtain ⟨c1, c2, c3⟩ := Grid.coords (show 0 < w by omega) ha
  clear c3
  have hd : (l.length : Int) / (w : Int) = h := by rw [hl]; simp only [Int.natCast_mul]; exact Int.mul_ediv_cancel_left _ (by omega)
  unfold impl_Cells_next.f
  rw [if_neg (show ¬ (w : Int) = 0 by omega), cast_mod, cast_div, hd]
  generalize at_ % w = x at *
  generalize at_ / w = y at *
  rw [G.w64' (i := (x : Int) + dx) (by omega) (by omega), G.w64' (i := (y : Int)) (by omega) (by omega), G.w64' (i := (y : Int) + dy) (by omega) (by omega), G.w64' (i := (h : Int)) (by omega) (by omega)]
  by_cases e1 : (x : Int) + dx < 0
  · rw [if_pos e1, if_neg (by omega)]
  by_cases e2 : (x : Int) + dx ≥ w
  · rw [if_neg e1, if_pos e2, if_neg (by omega)]
  by_cases e3 : (y : Int) + dy < 0
  · rw [if_neg e1, if_neg e2, if_pos e3, if_neg (by omega)]
  by_cases e4 : (y : Int) + dy ≥ h
  · rw [if_neg e1, if_neg e2, if_neg e3, if_pos e4, if_neg (by omega)]
  rw [if_neg e1, if_neg e2, if_neg e3, if_neg e4, if_pos (by omega)]
  obtain ⟨z, hz⟩ : ∃ z : Nat, (y : Int) + dy = z := ⟨((y : Int) + dy).toNat, by omega⟩
  have hp := prod_le (y := z) (w := w) (by omega) hw'
  have hp' : ((z : Int) * w) = ((z * w : Nat) : Int) := by simp
  rw [hz, hp', G.w64' (i := ((z * w : Nat) : Int)) (by omega) (by omega), G.w64' (by omega) (by omega)]
theorem along_is (hw : 1 ≤ w) (hw' : w ≤ 16) (hh : 1 ≤ h) (hh' : h ≤ 16) (hl : l.length = w * h) {at_ : Nat} (ha : at_ < w * h) {way : Int} (hy : 0 ≤ way) (hy' : way ≤ 3) :
    impl_Cells_along.f w l at_ way = some (ofO (nxt w h at_ way)) := by
  obtain ⟨c1, c2, c3⟩ := Grid.coords (show 0 < w by omega) ha
  have hc4 : way = 0 ∨ way = 1 ∨ way = 2 ∨ way = 3 := by omega
  have key : ∀ dx dy : Int, -1 ≤ dx → dx ≤ 1 → -1 ≤ dy → dy ≤ 1 → (can w h at_ way ↔ (0 ≤ ((at_ % w : Nat) : Int) + dx ∧ ((at_ % w : Nat) : Int) + dx < w ∧ 0 ≤ ((at_ / w : Nat) : Int) + dy ∧ ((at_ / w : Nat) : Int) + dy < h)) → (can w h at_ way → (nto w at_ way : Int) = at_ + dy * w + dx) → impl_Cells_next.f w l at_ dx dy = some (ofO (nxt w h at_ way)) := by
    intro dx dy a1 a2 a3 a4 hiff hto
    rw [next_is hw hw' hh hh' hl ha dx dy a1 a2 a3 a4]
    unfold nxt
    by_cases hcan : can w h at_ way
    · rw [if_pos (hiff.1 hcan), if_pos hcan]
      show some _ = some ((nto w at_ way : Nat) : Int)
      rw [hto hcan, Int.add_mul]
      have : ((at_ / w : Nat) : Int) * w + ((at_ % w : Nat) : Int) = at_ := by
        have e : ((w * (at_ / w) + at_ % w : Nat) : Int) = at_ := by rw [Nat.div_add_mod]
        rw [Int.natCast_add, Int.natCast_mul, Int.mul_comm] at e; exact e
      congr 1
      omega
    · rw [if_neg (fun hx => hcan (hiff.2 hx)), if_neg hcan]; rfl
  unfold impl_Cells_along.f
  have hw0 : 0 < w := by omega
  rcases hc4 with rfl | rfl | rfl | rfl
  · rw [if_pos rfl]
    refine key 1 0 (by omega) (by omega) (by omega) (by omega) ?_ ?_
    · unfold can; clear key c3; generalize at_ % w = x at *; generalize at_ / w = y at *; omega
    · intro hcan; rcases Grid.to_coords hw0 ha hcan with ⟨e, _, _, h4⟩ | ⟨e, _⟩ | ⟨e, _⟩ | ⟨e, _⟩ <;> first | (rw [h4]; omega) | (exfalso; omega)
  · rw [if_neg (by omega), if_pos rfl]
    refine key 0 1 (by omega) (by omega) (by omega) (by omega) ?_ ?_
    · unfold can; clear key c3; generalize at_ % w = x at *; generalize at_ / w = y at *; omega
    · intro hcan; rcases Grid.to_coords hw0 ha hcan with ⟨e, _⟩ | ⟨e, _, _, h4⟩ | ⟨e, _⟩ | ⟨e, _⟩ <;> first | (rw [h4]; omega) | (exfalso; omega)
  · rw [if_neg (by omega), if_neg (by omega), if_pos rfl]
    refine key (-1) 0 (by omega) (by omega) (by omega) (by omega) ?_ ?_
    · unfold can; clear key c3; generalize at_ % w = x at *; generalize at_ / w = y at *; omega
    · intro hcan; rcases Grid.to_coords hw0 ha hcan with ⟨e, _⟩ | ⟨e, _⟩ | ⟨e, _, _, h4⟩ | ⟨e, _⟩ <;> first | (rw [h4]; omega) | (exfalso; omega)
  · rw [if_neg (by omega), if_neg (by omega), if_neg (by omega), if_pos rfl]
    refine key 0 (-1) (by omega) (by omega) (by omega) (by omega) ?_ ?_
    · unfold can; clear key c3; generalize at_ % w = x at *; generalize at_ / w = y at *; omega
    · intro hcan; rcases Grid.to_coords hw0 ha hcan with ⟨e, _⟩ | ⟨e, _⟩ | ⟨e, _⟩ | ⟨e, _, _, h4⟩ <;> first | (rw [h4]; omega) | (exfalso; omega)
theorem has_is (hw : 1 ≤ w) (hh' : h ≤ 16) (hw' : w ≤ 16) (hl : l.length = w * h) (x y : Int) : spec_l12Has.f w l.length x y = some (decide (0 ≤ x ∧ x < w ∧ 0 ≤ y ∧ y < h)) := by
  have hd : Int.tdiv (l.length : Int) (w : Int) = h := by rw [cast_div, hl, Nat.mul_div_cancel_left _ (by omega)]
  unfold spec_l12Has.f
  rw [hd, G.w64' (by omega) (by omega)]
  by_cases e1 : x ≥ 0
  · by_cases e2 : x < w
    · by_cases e3 : y ≥ 0
      · rw [if_pos e1, if_pos e2, if_pos e3, if_neg (by omega)]; congr 1; rw [Bool.eq_iff_iff]; simp only [decide_eq_true_eq]; omega
      · rw [if_pos e1, if_pos e2, if_neg e3, decide_eq_false (by omega)]
    · rw [if_pos e1, if_neg e2, decide_eq_false (by omega)]
  · rw [if_neg e1, decide_eq_false (by omega)]
theorem spec_next_is (hw : 1 ≤ w) (hw' : w ≤ 16) (hh : 1 ≤ h) (hh' : h ≤ 16) (hl : l.length = w * h) {at_ : Nat} (ha : at_ < w * h) {way : Int} (hy : 0 ≤ way) (hy' : way ≤ 3) :
    spec_l12Next.f w l at_ way = some (ofO (nxf w h l at_ way)) := by
  obtain ⟨c1, c2, c3⟩ := Grid.coords (show 0 < w by omega) ha
  have hc4 : way = 0 ∨ way = 1 ∨ way = 2 ∨ way = 3 := by omega
  have hw0 : 0 < w := by omega
  have key : ∀ x y i : Int, (can w h at_ way ↔ (0 ≤ x ∧ x < w ∧ 0 ≤ y ∧ y < h)) → (can w h at_ way → i = (nto w at_ way : Int)) →
      ((spec_l12Has.f w l.length x y).bind fun t => if t = true then (if 0 ≤ i then (if i < (l.length : Int) then (if rd l i = 0 then some i else some (-1)) else none) else none) else some (-1)) = some (ofO (nxf w h l at_ way)) := by
    intro x y i hiff hi
    rw [has_is hw hh' hw' hl]
    simp only [Option.bind_some, decide_eq_true_eq]
    unfold nxf
    by_cases hcan : can w h at_ way
    · have hlt := Grid.to_lt hw0 ha hcan
      rw [if_pos (hiff.1 hcan), hi hcan, if_pos (by omega), if_pos (by omega), G.rd_nat (by omega)]
      have e : l.getD (nto w at_ way) 1 = l[nto w at_ way]'(by omega) := by rw [List.getD_eq_getElem?_getD, List.getElem?_eq_getElem (by omega)]; rfl
      rw [e]
      by_cases hz : l[nto w at_ way]'(by omega) = 0
      · rw [if_pos hz, if_pos ⟨hcan, hz⟩]; rfl
      · rw [if_neg hz, if_neg (fun hx => hz hx.2)]; rfl
    · rw [if_neg (fun hx => hcan (hiff.2 hx)), if_neg (fun hx => hcan hx.1)]; rfl
  have hat : ((at_ / w : Nat) : Int) * w + ((at_ % w : Nat) : Int) = at_ := by
    have e : ((w * (at_ / w) + at_ % w : Nat) : Int) = at_ := by rw [Nat.div_add_mod]
    rw [Int.natCast_add, Int.natCast_mul, Int.mul_comm] at e; exact e
  have hyb : ((at_ / w : Nat) : Int) * w ≤ 256 ∧ 0 ≤ ((at_ / w : Nat) : Int) * w := by
    have := prod_le (y := at_ / w) (w := w) (by omega) hw'
    have e : ((at_ / w * w : Nat) : Int) = ((at_ / w : Nat) : Int) * w := by simp
    omega
  have hx0 := Int.natCast_nonneg (at_ % w)
  have hy0 := Int.natCast_nonneg (at_ / w)
  unfold spec_l12Next.f
  rw [if_neg (show ¬ (w : Int) = 0 by omega), cast_mod, cast_div, G.w64' (i := ((at_ / w : Nat) : Int)) (by omega) (by omega)]
  rcases hc4 with rfl | rfl | rfl | rfl
  · rw [if_pos rfl, G.w64' (i := ((at_ % w : Nat) : Int) + 1) (by omega) (by omega)]
    refine key _ _ _ ?_ ?_
    · unfold can; clear key c3 hat hyb; generalize at_ % w = x at *; generalize at_ / w = y at *; omega
    · intro hcan; rcases Grid.to_coords hw0 ha hcan with ⟨e, _, _, h4⟩ | ⟨e, _⟩ | ⟨e, _⟩ | ⟨e, _⟩ <;> first | (rw [h4, G.w64' (i := ((at_ / w : Nat) : Int) * w) (by omega) (by omega), G.w64' (by omega) (by omega)]; omega) | (exfalso; omega)
  · rw [if_neg (by omega), if_pos rfl, G.w64' (i := ((at_ / w : Nat) : Int) + 1) (by omega) (by omega)]
    refine key _ _ _ ?_ ?_
    · unfold can; clear key c3 hat hyb; generalize at_ % w = x at *; generalize at_ / w = y at *; omega
    · intro hcan; rcases Grid.to_coords hw0 ha hcan with ⟨e, _⟩ | ⟨e, _, _, h4⟩ | ⟨e, _⟩ | ⟨e, _⟩ <;> first | (rw [h4, Int.add_mul, Int.one_mul, G.w64' (i := ((at_ / w : Nat) : Int) * w + w) (by omega) (by omega), G.w64' (by omega) (by omega)]; omega) | (exfalso; omega)
  · rw [if_neg (by omega), if_neg (by omega), if_pos rfl, G.w64' (i := ((at_ % w : Nat) : Int) - 1) (by omega) (by omega)]
    refine key _ _ _ ?_ ?_
    · unfold can; clear key c3 hat hyb; generalize at_ % w = x at *; generalize at_ / w = y at *; omega
    · intro hcan; rcases Grid.to_coords hw0 ha hcan with ⟨e, _⟩ | ⟨e, _⟩ | ⟨e, _, _, h4⟩ | ⟨e, _⟩ <;> first | (rw [h4, G.w64' (i := ((at_ / w : Nat) : Int) * w) (by omega) (by omega), G.w64' (by omega) (by omega)]; omega) | (exfalso; omega)
  · rw [if_neg (by omega), if_neg (by omega), if_neg (by omega), G.w64' (i := ((at_ / w : Nat) : Int) - 1) (by omega) (by omega)]
    refine key _ _ _ ?_ ?_
    · unfold can; clear key c3 hat hyb; generalize at_ % w = x at *; generalize at_ / w = y at *; omega
    · intro hcan; rcases Grid.to_coords hw0 ha hcan with ⟨e, _⟩ | ⟨e, _⟩ | ⟨e, _⟩ | ⟨e, _, _, h4⟩ <;> first | (rw [h4, Int.sub_mul, Int.one_mul, G.w64' (i := ((at_ / w : Nat) : Int) * w - w) (by omega) (by omega), G.w64' (by omega) (by omega)]; omega) | (exfalso; omega)
end
section
variable {w h : Nat} {l : List Int} {way : Int}
theorem nxf_of_nxt {at_ j : Nat} (hn : nxt w h at_ way = some j) : nxf w h l at_ way = if l.getD j 1 = 0 then some j else none := by
  unfold nxt at hn
  by_cases hc : can w h at_ way
  · rw [if_pos hc] at hn
    obtain rfl := Option.some.inj hn
    unfold nxf
    by_cases hz : l.getD (nto w at_ way) 1 = 0
    · rw [if_pos ⟨hc, hz⟩, if_pos hz]
    · rw [if_neg (fun x => hz x.2), if_neg hz]
  · rw [if_neg hc] at hn; cases hn
theorem nxf_of_none {at_ : Nat} (hn : nxt w h at_ way = none) : nxf w h l at_ way = none := by
  unfold nxt at hn
  by_cases hc : can w h at_ way
  · rw [if_pos hc] at hn; cases hn
  · unfold nxf; rw [if_neg (fun x => hc x.1)]
theorem nxt_of_nxf {at_ j : Nat} (hn : nxf w h l at_ way = some j) : nxt w h at_ way = some j ∧ l.getD j 1 = 0 := by
  obtain ⟨hc, hz, rfl⟩ := Grid.nxf_some hn
  exact ⟨if_pos hc, hz⟩
theorem nxt_lt {at_ j : Nat} (hw : 0 < w) (ha : at_ < w * h) (hn : nxt w h at_ way = some j) : j < w * h := by
  unfold nxt at hn
  by_cases hc : can w h at_ way
  · rw [if_pos hc] at hn
    obtain rfl := Option.some.inj hn
    exact Grid.to_lt hw ha hc
  · rw [if_neg hc] at hn; cases hn
theorem getD_of {j : Nat} (hj : j < l.length) : l.getD j 1 = l[j] := by rw [List.getD_eq_getElem?_getD, List.getElem?_eq_getElem hj]; rfl
theorem free_ofO (hw : 0 < w) (hl : l.length = w * h) {at_ : Nat} (ha : at_ < w * h) : impl_Cells_free.f w l (ofO (nxt w h at_ way)) = some (nxf w h l at_ way).isSome := by
  rcases hn : nxt w h at_ way with _ | j
  · rw [nxf_of_none hn]; exact free_neg _
  · have hj := nxt_lt hw ha hn
    rw [nxf_of_nxt hn, getD_of (by omega)]
    show impl_Cells_free.f w l (j : Int) = _
    rw [free_nat _ (by omega)]
    by_cases hz : l[j]'(by omega) = 0
    · rw [if_pos hz]; simp [hz]
    · rw [if_neg hz]; simp [hz]
theorem far_evi (hw : 1 ≤ w) (hw' : w ≤ 16) (hh : 1 ≤ h) (hh' : h ≤ 16) (hl : l.length = w * h) (hy : 0 ≤ way) (hy' : way ≤ 3) : ∀ m at_, at_ < w * h → mu w h at_ way ≤ m → ∀ c : Nat, c + m ≤ 100000 →
    Ev (fun k => impl_Cells_far.l0 k (ofO (nxt w h at_ way)) way (c : Int) w l) ((c + far w h l way at_ : Nat) : Int) := by
  intro m
  induction m with
  | zero =>
    intro at_ ha hm c hc
    rcases hn : nxf w h l at_ way with _ | j
    · rw [Grid.far_none hn]
      refine G.succ ?_
      · simp only [impl_Cells_far.l0, free_ofO (l := l) (by omega) hl ha, hn, Option.isSome_none, Option.bind_some]
        exact G.neg (by simp) (G.now fun _ => rfl)
    · have := Grid.mu_to (by omega) ha (Grid.nxf_some hn).1; omega
  | succ m ih =>
    intro at_ ha hm c hc
    rcases hn : nxf w h l at_ way with _ | j
    · rw [Grid.far_none hn]
      refine G.succ ?_
      · simp only [impl_Cells_far.l0, free_ofO (l := l) (by omega) hl ha, hn, Option.isSome_none, Option.bind_some]
        exact G.neg (by simp) (G.now fun _ => rfl)
    · obtain ⟨hc1, hc2, hc3⟩ := Grid.nxf_some hn
      have hmu := Grid.mu_to (by omega) ha hc1
      have hj : j < w * h := by rw [hc3]; exact Grid.to_lt (by omega) ha hc1
      have hnt := (nxt_of_nxf hn).1
      rw [← hc3] at hmu
      have e2 := ih j hj (by omega) (c + 1) (by omega)
      have hf := free_ofO (l := l) (way := way) (show 0 < w by omega) hl ha
      rw [hnt, hn] at hf
      rw [Grid.far_some (by omega) ha hn, hnt, show c + (far w h l way j + 1) = c + 1 + far w h l way j by omega]
      refine G.succ ?_
      · simp only [impl_Cells_far.l0]
        refine G.bind0 hf (G.pos rfl ?_)
        simp only [ofO, along_is hw hw' hh hh' hl hj hy hy', Option.bind_some, G.w64 c (by omega)]
        exact e2
theorem impl_far_ev (hw : 1 ≤ w) (hw' : w ≤ 16) (hh : 1 ≤ h) (hh' : h ≤ 16) (hl : l.length = w * h) (hy : 0 ≤ way) (hy' : way ≤ 3) {at_ : Nat} (ha : at_ < w * h) :
    Ev (fun k => impl_Cells_far.f k w l at_ way) ((far w h l way at_ : Nat) : Int) := by
  have hm := Grid.mu_lt (way := way) (show 0 < w by omega) hw' hh' ha
  have e2 := far_evi hw hw' hh hh' hl hy hy' 16 at_ ha (by omega) 0 (by omega)
  simp only [impl_Cells_far.f, along_is hw hw' hh hh' hl ha hy hy', Option.bind_some]
  simpa using e2
end
/-- Places are free cells, in rising order, from i on. -/
def Rising (l p : List Int) (i : Nat) : Prop := ∀ j, i ≤ j → ∀ hj : j < p.length, ∃ q : Nat, p[j] = q ∧ (∃ hq : q < l.length, l[q] = 0) ∧ (0 < j → p[j - 1]'(by omega) < p[j])
theorem pred64 (i : Nat) (h : i < 9223372036854775807) : wrap64 (((i + 1 : Nat) : Int) - 1) = (i : Int) := by unfold wrap64; omega
theorem places_loop (a : Int) (l p : List Int) (hp : p.length ≤ 1048576) : ∀ i, i ≤ p.length → ∃ r, Ev (fun k => spec_l12Places.l0 k p p p.length (i : Int) a l) r ∧ Ev (fun k => impl_goodPlaces.l0 k p p p.length (i : Int) a l) r ∧ (r = true ↔ Rising l p i) := by
  refine G.down_ind p.length (fun i => ∃ r, Ev (fun k => spec_l12Places.l0 k p p p.length (i : Int) a l) r ∧ Ev (fun k => impl_goodPlaces.l0 k p p p.length (i : Int) a l) r ∧ (r = true ↔ Rising l p i)) ?_ ?_
  · refine ⟨true, G.succ (G.now fun k => ?_), G.succ (G.now fun k => ?_), ⟨fun _ j h1 h2 => by omega, fun _ => rfl⟩⟩
    · simp only [spec_l12Places.l0]; rw [if_neg (by omega)]
    · simp only [impl_goodPlaces.l0]; rw [if_neg (by omega)]
  · intro i hi ih
    obtain ⟨f, f1, f2, f3⟩ := free_both (l := l) a p[i]
    cases f with
    | false =>
      have hno : ¬ Rising l p i := by
        intro hr
        obtain ⟨q, hq, ⟨hq1, hq2⟩, _⟩ := hr i (Nat.le_refl _) hi
        rw [hq, free_nat a hq1, hq2] at f1
        simp at f1
      refine ⟨false, G.succ ?_, G.succ ?_, ⟨by simp, fun h => absurd h hno⟩⟩
      · simp only [spec_l12Places.l0, G.rd_nat hi]
        exact G.pos (by omega) (G.pos (by omega) (G.pos (by omega) (G.bind0 f2 (G.neg (by simp) (G.now fun _ => rfl)))))
      · simp only [impl_goodPlaces.l0, G.rd_nat hi]
        exact G.pos (by omega) (G.pos (by omega) (G.pos (by omega) (G.bind0 f1 (G.neg (by simp) (G.now fun _ => rfl)))))
    | true =>
      obtain ⟨q, hq, hq1, hq2⟩ := f3 rfl
      obtain ⟨r, e1, e2, e3⟩ := ih
      have here : ∀ (_ : 0 < i → p[i - 1]'(by omega) < p[i]), (r = true ↔ Rising l p i) := by
        intro hr
        refine ⟨fun hrt j h1 h2 => ?_, fun h => e3.2 fun j h1 h2 => h j (by omega) h2⟩
        by_cases hj : j = i
        · subst hj; exact ⟨q, hq, ⟨hq1, hq2⟩, hr⟩
        · exact e3.1 hrt j (by omega) h2
      rcases Nat.eq_zero_or_pos i with h0 | h0
      · subst h0
        refine ⟨r, G.succ ?_, G.succ ?_, here (by omega)⟩
        · simp only [spec_l12Places.l0, G.rd_nat hi, G.w64 0 (by omega)]
          exact G.pos (by omega) (G.pos (by omega) (G.pos (by omega) (G.bind0 f2 (G.pos rfl (G.neg (by omega) e1)))))
        · simp only [impl_goodPlaces.l0, G.rd_nat hi, G.w64 0 (by omega)]
          exact G.pos (by omega) (G.pos (by omega) (G.pos (by omega) (G.bind0 f1 (G.pos rfl (G.neg (by omega) e2)))))
      · obtain ⟨m, rfl⟩ : ∃ m, i = m + 1 := ⟨i - 1, by omega⟩
        have hm : m < p.length := by omega
        by_cases hc : p[m] < p[m + 1]
        · refine ⟨r, G.succ ?_, G.succ ?_, here (fun _ => hc)⟩
          · simp only [spec_l12Places.l0, G.rd_nat hi, G.w64 (m + 1) (by omega), pred64 m (by omega), G.rd_nat hm]
            exact G.pos (by omega) (G.pos (by omega) (G.pos (by omega) (G.bind0 f2 (G.pos rfl (G.pos (by omega) (G.pos (by omega) (G.pos (by omega) (G.neg (by omega) e1))))))))
          · simp only [impl_goodPlaces.l0, G.rd_nat hi, G.w64 (m + 1) (by omega), pred64 m (by omega), G.rd_nat hm]
            exact G.pos (by omega) (G.pos (by omega) (G.pos (by omega) (G.bind0 f1 (G.pos rfl (G.pos (by omega) (G.pos (by omega) (G.pos (by omega) (G.neg (by omega) e2))))))))
        · have hno : ¬ Rising l p (m + 1) := by
            intro hr
            obtain ⟨_, _, _, h4⟩ := hr (m + 1) (Nat.le_refl _) hi
            exact hc (h4 (by omega))
          refine ⟨false, G.succ ?_, G.succ ?_, ⟨by simp, fun h => absurd h hno⟩⟩
          · simp only [spec_l12Places.l0, G.rd_nat hi, G.w64 (m + 1) (by omega), pred64 m (by omega), G.rd_nat hm]
            exact G.pos (by omega) (G.pos (by omega) (G.pos (by omega) (G.bind0 f2 (G.pos rfl (G.pos (by omega) (G.pos (by omega) (G.pos (by omega) (G.pos (by omega) (G.now fun _ => rfl)))))))))
          · simp only [impl_goodPlaces.l0, G.rd_nat hi, G.w64 (m + 1) (by omega), pred64 m (by omega), G.rd_nat hm]
            exact G.pos (by omega) (G.pos (by omega) (G.pos (by omega) (G.bind0 f1 (G.pos rfl (G.pos (by omega) (G.pos (by omega) (G.pos (by omega) (G.pos (by omega) (G.now fun _ => rfl)))))))))
theorem ev_unique {α : Type} {g : Nat → Option α} {r s : α} (h1 : Ev g r) (h2 : Ev g s) : r = s := by
  obtain ⟨k1, h1⟩ := h1
  obtain ⟨k2, h2⟩ := h2
  have e1 := h1 (k1 + k2) (by omega)
  rw [h2 (k1 + k2) (by omega)] at e1
  exact (Option.some.inj e1).symm
theorem way_is (way : Int) : spec_l12Way.f way = some (decide (0 ≤ way ∧ way ≤ 3)) := by
  unfold spec_l12Way.f
  by_cases h : way ≥ 0
  · rw [if_pos h]; congr 1; rw [Bool.eq_iff_iff]; simp only [decide_eq_true_eq]; omega
  · rw [if_neg h, decide_eq_false (by omega)]
/-- What the guards of both say. -/
theorem places_both (a : Int) (l p : List Int) (way : Int) (hl : l.length ≤ 1048576) (hp : p.length ≤ 1048576) :
    (∃ r, Ev (fun k => spec_l12Places.f k a l p) r ∧ Ev (fun k => impl_goodPlaces.f k a l p way) (r && decide (0 ≤ way ∧ way ≤ 3)) ∧
      (r = true → Rising l p 0 ∧ Ev (fun k => spec_GoodCells.f k a l) true ∧ ∃ w h : Nat, a = w ∧ 1 ≤ w ∧ w ≤ 16 ∧ 1 ≤ h ∧ h ≤ 16 ∧ l.length = w * h) ∧ (Ev (fun k => spec_GoodCells.f k a l) true → Rising l p 0 → r = true)) := by
  obtain ⟨b, h1, h2, h3⟩ := goodcells_ok a l hl
  obtain ⟨r, e1, e2, e3⟩ := places_loop a l p hp 0 (Nat.zero_le _)
  cases b with
  | false =>
    refine ⟨false, ?_, ?_, by simp, fun hx _ => absurd (ev_unique h1 hx) (by simp)⟩
    · simp only [spec_l12Places.f]; exact G.bind h1 (G.neg (by simp) (G.now fun _ => rfl))
    · simp only [impl_goodPlaces.f]
      refine G.bind h2 (G.neg (by simp) (G.succ ?_))
      simp only [impl_goodPlaces.j0]; exact G.pos (by trivial) (G.now fun _ => rfl)
  | true =>
    refine ⟨r, ?_, ?_, fun hr => ⟨e3.1 hr, h1, h3 rfl⟩, fun _ hr => e3.2 hr⟩
    · simp only [spec_l12Places.f]; exact G.bind h1 (G.pos rfl e1)
    · simp only [impl_goodPlaces.f]
      refine G.bind h2 (G.pos rfl ?_)
      by_cases hy : way < 0
      · refine G.pos hy (G.succ ?_)
        simp only [impl_goodPlaces.j0]
        refine G.pos (by trivial) (G.now fun _ => ?_)
        rw [decide_eq_false (by omega), Bool.and_false]
      · refine G.neg hy (G.succ ?_)
        simp only [impl_goodPlaces.j0]
        by_cases hy' : way > 3
        · refine G.pos (decide_eq_true hy') (G.now fun _ => ?_)
          rw [decide_eq_false (by omega), Bool.and_false]
        · refine G.neg (by simpa using hy') ?_
          rw [decide_eq_true (show 0 ≤ way ∧ way ≤ 3 by omega), Bool.and_true]
          exact e2
def b2i (b : Bool) : Int := if b = true then 1 else 0
/-- The cells that are stepped to, marked. -/
def marksOf (w h : Nat) (l : List Int) (way : Int) : List Int → List Bool → List Bool
  | [], bs => bs
  | q :: qs, bs => marksOf w h l way qs (bs.set (Grid.step w h l way q.toNat) true)
theorem marksOf_length (w h : Nat) (l : List Int) (way : Int) : ∀ (p : List Int) (bs : List Bool), (marksOf w h l way p bs).length = bs.length
  | [], _ => rfl
  | q :: qs, bs => by simp only [marksOf]; rw [marksOf_length w h l way qs]; simp
/-- The marked cells, in order. -/
def listOf (bs : List Bool) (i : Nat) : List Int := ((List.range' i (bs.length - i)).filter fun j => bs.getD j false).map fun j : Nat => (j : Int)
theorem map_set_b2i (bs : List Bool) (i : Nat) : (bs.map b2i).set i 1 = (bs.set i true).map b2i := by rw [List.map_set]; rfl
theorem gather (bs : List Bool) (hb : bs.length ≤ 1048576) : ∀ i, i ≤ bs.length → ∀ out : List Int, out.length ≤ i →
    Ev (fun k => spec_StepPlaces.l1 k (bs.map b2i) out bs.length (i : Int)) (out ++ listOf bs i, true) ∧ Ev (fun k => impl_StepPlaces.l1 k out bs bs.length (i : Int)) (out ++ listOf bs i, true) := by
  refine G.down_ind bs.length (fun i => ∀ out : List Int, out.length ≤ i → Ev (fun k => spec_StepPlaces.l1 k (bs.map b2i) out bs.length (i : Int)) (out ++ listOf bs i, true) ∧ Ev (fun k => impl_StepPlaces.l1 k out bs bs.length (i : Int)) (out ++ listOf bs i, true)) ?_ ?_
  · intro out ho
    have e : listOf bs bs.length = [] := by simp [listOf]
    rw [e, List.append_nil]
    refine ⟨G.succ (G.now fun k => ?_), G.succ (G.now fun k => ?_)⟩
    · simp only [spec_StepPlaces.l1]; rw [if_neg (by omega)]
    · simp only [impl_StepPlaces.l1]; rw [if_neg (by omega)]
  · intro i hi ih out ho
    have hm : i < (bs.map b2i).length := by simpa using hi
    have hrd : rd (bs.map b2i) (i : Int) = b2i bs[i] := by rw [G.rd_nat hm]; simp
    have hrb : rdOf false bs (i : Int) = bs[i] := G.getD_nat hi
    have hr' : bs.length - i = (bs.length - (i + 1)) + 1 := by omega
    have hgd : bs.getD i false = bs[i] := by rw [List.getD_eq_getElem?_getD, List.getElem?_eq_getElem hi]; rfl
    have hstep : listOf bs i = (if bs[i] = true then [(i : Int)] else []) ++ listOf bs (i + 1) := by
      unfold listOf
      rw [hr', List.range'_succ, List.filter_cons, hgd]
      cases bs[i] <;> simp
    have hlen : ((bs.map b2i).length : Int) = bs.length := by simp
    cases hbi : bs[i] with
    | true =>
      obtain ⟨e1, e2⟩ := ih (out ++ [(i : Int)]) (by simp; omega)
      rw [hstep, hbi, if_pos rfl, ← List.append_assoc]
      refine ⟨G.succ ?_, G.succ ?_⟩
      · simp only [spec_StepPlaces.l1, hrd, hbi, G.w64 i (by omega)]
        exact G.pos (by omega) (G.pos (by omega) (G.pos (by omega) (G.pos rfl (G.pos (by omega) e1))))
      · simp only [impl_StepPlaces.l1, hrb, hbi, G.w64 i (by omega)]
        exact G.pos (by omega) (G.pos (by omega) (G.pos (by omega) (G.pos (by trivial) (G.pos (by omega) e2))))
    | false =>
      obtain ⟨e1, e2⟩ := ih out (by omega)
      rw [hstep, hbi, if_neg (by simp), List.nil_append]
      refine ⟨G.succ ?_, G.succ ?_⟩
      · simp only [spec_StepPlaces.l1, hrd, hbi, G.w64 i (by omega)]
        exact G.pos (by omega) (G.pos (by omega) (G.pos (by omega) (G.neg (by simp [b2i]) e1)))
      · simp only [impl_StepPlaces.l1, hrb, hbi, G.w64 i (by omega)]
        exact G.pos (by omega) (G.pos (by omega) (G.pos (by omega) (G.neg (by simp) e2)))
theorem step_loop {w h : Nat} {l p : List Int} {way : Int} (hw : 1 ≤ w) (hw' : w ≤ 16) (hh : 1 ≤ h) (hh' : h ≤ 16) (hl : l.length = w * h) (hy : 0 ≤ way) (hy' : way ≤ 3) (hp : p.length ≤ 1048576) (hr : Rising l p 0) (hll : l.length ≤ 1048576) :
    ∀ i, i ≤ p.length → ∀ bs : List Bool, bs.length = l.length → Ev (fun k => spec_StepPlaces.l0 k way (bs.map b2i) p p.length (i : Int) w l) (listOf (marksOf w h l way (p.drop i) bs) 0, true) ∧ Ev (fun k => impl_StepPlaces.l0 k way bs p p.length (i : Int) w l) (listOf (marksOf w h l way (p.drop i) bs) 0, true) := by
  refine G.down_ind p.length (fun i => ∀ bs : List Bool, bs.length = l.length → Ev (fun k => spec_StepPlaces.l0 k way (bs.map b2i) p p.length (i : Int) w l) (listOf (marksOf w h l way (p.drop i) bs) 0, true) ∧ Ev (fun k => impl_StepPlaces.l0 k way bs p p.length (i : Int) w l) (listOf (marksOf w h l way (p.drop i) bs) 0, true)) ?_ ?_
  · intro bs hb
    rw [List.drop_length]
    obtain ⟨e1, e2⟩ := gather bs (by omega) 0 (Nat.zero_le _) [] (Nat.le_refl _)
    have hlen : ((bs.map b2i).length : Int) = bs.length := by simp
    refine ⟨G.succ ?_, G.succ ?_⟩
    · simp only [spec_StepPlaces.l0, hlen]; exact G.neg (by omega) e1
    · simp only [impl_StepPlaces.l0]; exact G.neg (by omega) e2
  · intro i hi ih bs hb
    obtain ⟨q, hq, ⟨hq1, hq2⟩, _⟩ := hr i (Nat.zero_le _) hi
    have hq3 : q < w * h := by omega
    have hd : p.drop i = p[i] :: p.drop (i + 1) := List.drop_eq_getElem_cons hi
    have hsn := spec_next_is hw hw' hh hh' hl hq3 hy hy'
    have hal := along_is hw hw' hh hh' hl hq3 hy hy'
    have hfar := impl_far_ev (l := l) hw hw' hh hh' hl hy hy' hq3
    have hslt := Grid.step_lt (l := l) (way := way) (show 0 < w by omega) hq3
    have hm : marksOf w h l way (p.drop i) bs = marksOf w h l way (p.drop (i + 1)) (bs.set (Grid.step w h l way q) true) := by
      rw [hd, hq]; rfl
    obtain ⟨e1, e2⟩ := ih (bs.set (Grid.step w h l way q) true) (by simpa using hb)
    have hlen : ((bs.map b2i).length : Int) = bs.length := by simp
    rw [hm]
    rcases hn : nxf w h l q way with _ | j
    · have hst : Grid.step w h l way q = q := by unfold Grid.step; rw [hn]; rfl
      rw [hst] at e1 e2 ⊢
      rw [hn] at hsn
      rw [Grid.far_none hn] at hfar
      refine ⟨G.succ ?_, G.succ ?_⟩
      · simp only [spec_StepPlaces.l0, G.rd_nat hi, G.w64 i (by omega), hlen, hq, Int.toNat_natCast, map_set_b2i]
        exact G.pos (by omega) (G.pos (by omega) (G.pos (by omega) (G.bind0 hsn (G.pos (by simp [ofO]) (G.pos (by omega) (G.pos (by omega) e1))))))
      · simp only [impl_StepPlaces.l0, G.rd_nat hi, G.w64 i (by omega), hq, Int.toNat_natCast]
        exact G.pos (by omega) (G.pos (by omega) (G.pos (by omega) (G.bind hfar (G.neg (by simp) (G.pos (by omega) (G.pos (by omega) e2))))))
    · have hst : Grid.step w h l way q = j := by unfold Grid.step; rw [hn]; rfl
      rw [hst] at e1 e2 hslt ⊢
      rw [hn] at hsn
      rw [(nxt_of_nxf hn).1] at hal
      have hpos := (Grid.far_pos (l := l) (way := way) (show 0 < w by omega) hq3).2 ⟨j, hn⟩
      refine ⟨G.succ ?_, G.succ ?_⟩
      · simp only [spec_StepPlaces.l0, G.rd_nat hi, G.w64 i (by omega), hlen, hq]
        refine G.pos (by omega) (G.pos (by omega) (G.pos (by omega) (G.bind0 hsn ?_)))
        simp only [ofO, Int.toNat_natCast, map_set_b2i]
        exact G.neg (by omega) (G.pos (by omega) (G.pos (by omega) e1))
      · simp only [impl_StepPlaces.l0, G.rd_nat hi, G.w64 i (by omega), hq]
        refine G.pos (by omega) (G.pos (by omega) (G.pos (by omega) (G.bind hfar (G.pos (by omega) (G.bind0 hal ?_)))))
        simp only [ofO, Int.toNat_natCast]
        exact G.pos (by omega) (G.pos (by omega) e2)
/-- Where a step of places leads. -/
def stepL (w h : Nat) (l : List Int) (way : Int) (p : List Int) : List Int := listOf (marksOf w h l way p (List.replicate l.length false)) 0
theorem replicate_b2i (n : Nat) : List.replicate n (0 : Int) = (List.replicate n false).map b2i := by simp [b2i]
theorem listOf_len (bs : List Bool) (i : Nat) : (listOf bs i).length ≤ bs.length := by
  unfold listOf
  rw [List.length_map]
  refine Nat.le_trans (List.length_filter_le _ _) ?_
  simp
theorem stepL_len (w h : Nat) (l : List Int) (way : Int) (p : List Int) : (stepL w h l way p).length ≤ l.length := by
  have := listOf_len (marksOf w h l way p (List.replicate l.length false)) 0
  rw [marksOf_length, List.length_replicate] at this
  exact this
theorem step_yes {w h : Nat} {l p : List Int} {way : Int} (hw : 1 ≤ w) (hw' : w ≤ 16) (hh : 1 ≤ h) (hh' : h ≤ 16) (hl : l.length = w * h) (hy : 0 ≤ way) (hy' : way ≤ 3) (hp : p.length ≤ 1048576) (hr : Rising l p 0) (hll : l.length ≤ 1048576)
    (g1 : Ev (fun k => spec_l12Places.f k w l p) true) (g2 : Ev (fun k => impl_goodPlaces.f k w l p way) true) :
    Ev (fun k => spec_StepPlaces.f k w l p way) (stepL w h l way p, true) ∧ Ev (fun k => impl_StepPlaces.f k w l p way) (stepL w h l way p, true) := by
  obtain ⟨e1, e2⟩ := step_loop hw hw' hh hh' hl hy hy' hp hr hll 0 (Nat.zero_le _) (List.replicate l.length false) (by simp)
  rw [List.drop_zero] at e1 e2
  constructor
  · simp only [spec_StepPlaces.f]
    refine G.bind g1 (G.pos rfl (G.bind0 (way_is way) (G.succ ?_)))
    simp only [spec_StepPlaces.j0, Int.toNat_natCast, replicate_b2i]
    refine G.neg (by rw [decide_eq_true (show 0 ≤ way ∧ way ≤ 3 from ⟨hy, hy'⟩)]; simp) (G.pos (by omega) (G.pos (by omega) e1))
  · simp only [impl_StepPlaces.f, Int.toNat_natCast]; exact G.bind g2 (G.pos rfl (G.pos (by omega) (G.pos (by omega) e2)))
theorem step_no {a : Int} {l p : List Int} {way : Int} {g : Bool} (hok : ¬ (g = true ∧ 0 ≤ way ∧ way ≤ 3)) (g1 : Ev (fun k => spec_l12Places.f k a l p) g) (g2 : Ev (fun k => impl_goodPlaces.f k a l p way) (g && decide (0 ≤ way ∧ way ≤ 3))) :
    Ev (fun k => spec_StepPlaces.f k a l p way) ([], false) ∧ Ev (fun k => impl_StepPlaces.f k a l p way) ([], false) := by
  constructor
  · simp only [spec_StepPlaces.f]
    refine G.bind g1 ?_
    cases g with
    | false => refine G.neg (by simp) (G.succ ?_); simp only [spec_StepPlaces.j0]; exact G.pos (by trivial) (G.now fun _ => rfl)
    | true =>
      refine G.pos rfl (G.bind0 (way_is way) (G.succ ?_))
      simp only [spec_StepPlaces.j0]
      exact G.pos (by rw [decide_eq_false (fun h => hok ⟨rfl, h⟩)]; rfl) (G.now fun _ => rfl)
  · simp only [impl_StepPlaces.f]
    refine G.bind g2 (G.neg ?_ (G.now fun _ => rfl))
    cases g with
    | false => simp
    | true => rw [decide_eq_false (fun h => hok ⟨rfl, h⟩)]; simp
theorem step_both (a : Int) (l p : List Int) (way : Int) (hl : l.length ≤ 1048576) (hp : p.length ≤ 1048576) :
    ∃ r : List Int × Bool, Ev (fun k => spec_StepPlaces.f k a l p way) r ∧ Ev (fun k => impl_StepPlaces.f k a l p way) r ∧ r.1.length ≤ l.length := by
  obtain ⟨g, g1, g2, g3, _⟩ := places_both a l p way hl hp
  by_cases hok : g = true ∧ 0 ≤ way ∧ way ≤ 3
  · obtain ⟨rfl, hy, hy'⟩ := hok
    obtain ⟨hr, hg, w, h, rfl, hw, hw', hh, hh', hlen⟩ := g3 rfl
    rw [decide_eq_true (show 0 ≤ way ∧ way ≤ 3 from ⟨hy, hy'⟩)] at g2
    obtain ⟨e1, e2⟩ := step_yes hw hw' hh hh' hlen hy hy' hp hr hl g1 g2
    exact ⟨_, e1, e2, stepL_len _ _ _ _ _⟩
  · obtain ⟨e1, e2⟩ := step_no hok g1 g2
    exact ⟨_, e1, e2, by simp⟩
theorem listOf_cons (bs : List Bool) {i : Nat} (hi : i < bs.length) : listOf bs i = (if bs[i] = true then [(i : Int)] else []) ++ listOf bs (i + 1) := by
  have hr' : bs.length - i = (bs.length - (i + 1)) + 1 := by omega
  have hgd : bs.getD i false = bs[i] := by rw [List.getD_eq_getElem?_getD, List.getElem?_eq_getElem hi]; rfl
  unfold listOf
  rw [hr', List.range'_succ, List.filter_cons, hgd]
  cases bs[i] <;> simp
theorem listOf_count (bs : List Bool) : ∀ i, i ≤ bs.length → (listOf bs i).length = (bs.drop i).count true := by
  refine G.down_ind bs.length (fun i => (listOf bs i).length = (bs.drop i).count true) ?_ ?_
  · rw [List.drop_length]; simp [listOf]
  · intro i hi ih
    rw [listOf_cons bs hi, List.drop_eq_getElem_cons hi, List.length_append, ih, List.count_cons]
    cases bs[i] <;> simp; omega
theorem count_set : ∀ (bs : List Bool) (i : Nat), (bs.set i true).count true ≤ bs.count true + 1
  | [], _ => by simp
  | b :: bs, 0 => by simp only [List.set_cons_zero, List.count_cons]; cases b <;> simp
  | b :: bs, i + 1 => by
    have := count_set bs i
    simp only [List.set_cons_succ, List.count_cons]
    omega
theorem marks_count (w h : Nat) (l : List Int) (way : Int) : ∀ (p : List Int) (bs : List Bool), (marksOf w h l way p bs).count true ≤ bs.count true + p.length
  | [], bs => by simp [marksOf]
  | q :: qs, bs => by
    simp only [marksOf]
    have := marks_count w h l way qs (bs.set (Grid.step w h l way q.toNat) true)
    have := count_set bs (Grid.step w h l way q.toNat)
    simp only [List.length_cons]
    omega
theorem stepL_le (w h : Nat) (l : List Int) (way : Int) (p : List Int) : (stepL w h l way p).length ≤ p.length := by
  unfold stepL
  rw [listOf_count _ 0 (Nat.zero_le _), List.drop_zero]
  have := marks_count w h l way p (List.replicate l.length false)
  have e : (List.replicate l.length false).count true = 0 := by simp [List.count_replicate]
  omega
theorem marks_get (w h : Nat) (l : List Int) (way : Int) : ∀ (p : List Int) (bs : List Bool) (j : Nat), j < bs.length → ((marksOf w h l way p bs).getD j false = true ↔ bs.getD j false = true ∨ ∃ q ∈ p, Grid.step w h l way q.toNat = j)
  | [], bs, j, _ => by simp [marksOf]
  | q :: qs, bs, j, hj => by
    simp only [marksOf]
    rw [marks_get w h l way qs _ j (by simpa using hj)]
    have e : (bs.set (Grid.step w h l way q.toNat) true).getD j false = true ↔ bs.getD j false = true ∨ Grid.step w h l way q.toNat = j := by
      rw [List.getD_eq_getElem?_getD, List.getD_eq_getElem?_getD, List.getElem?_set]
      by_cases he : Grid.step w h l way q.toNat = j
      · rw [if_pos he, if_pos (by omega)]; simp [he]
      · rw [if_neg he]; simp [he]
    rw [e]
    simp only [List.mem_cons, exists_eq_or_imp]
    constructor
    · rintro ((h1 | h1) | h1)
      · exact .inl h1
      · exact .inr (.inl h1)
      · exact .inr (.inr h1)
    · rintro (h1 | h1 | h1)
      · exact .inl (.inl h1)
      · exact .inl (.inr h1)
      · exact .inr h1
theorem mem_stepL {w h : Nat} {l : List Int} {way : Int} {p : List Int} {x : Int} : x ∈ stepL w h l way p ↔ ∃ j : Nat, x = j ∧ j < l.length ∧ ∃ q ∈ p, Grid.step w h l way q.toNat = j := by
  unfold stepL listOf
  simp only [List.mem_map, List.mem_filter, List.mem_range'_1, marksOf_length, List.length_replicate]
  constructor
  · rintro ⟨j, ⟨hj, hm⟩, rfl⟩
    refine ⟨j, rfl, by omega, ?_⟩
    rcases (marks_get w h l way p _ j (by simp; omega)).1 hm with h1 | h1
    · rw [List.getD_eq_getElem?_getD, List.getElem?_replicate] at h1
      split at h1 <;> simp at h1
    · exact h1
  · rintro ⟨j, rfl, hj, hq⟩
    exact ⟨j, ⟨by omega, (marks_get w h l way p _ j (by simpa using hj)).2 (.inr hq)⟩, rfl⟩
theorem stepL_sorted (w h : Nat) (l : List Int) (way : Int) (p : List Int) : (stepL w h l way p).Pairwise (· < ·) := by
  unfold stepL listOf
  rw [List.pairwise_map]
  refine List.Pairwise.filter _ ?_
  exact (List.pairwise_lt_range' (s := 0)).imp (fun h => by omega)
theorem rising_of {l p : List Int} (h1 : ∀ x ∈ p, ∃ q : Nat, x = q ∧ ∃ hq : q < l.length, l[q] = 0) (h2 : p.Pairwise (· < ·)) : Rising l p 0 := by
  intro j _ hj
  obtain ⟨q, e, hq⟩ := h1 p[j] (List.getElem_mem hj)
  refine ⟨q, e, hq, fun h0 => ?_⟩
  exact List.pairwise_iff_getElem.1 h2 (j - 1) j (by omega) hj (by omega)
theorem step_free {w h : Nat} {l : List Int} {way : Int} (hw : 0 < w) (hl : l.length = w * h) {q : Nat} (hq : q < l.length) (hz : l[q] = 0) : ∃ hs : Grid.step w h l way q < l.length, l[Grid.step w h l way q] = 0 := by
  have hlt := Grid.step_lt (l := l) (way := way) hw (show q < w * h by omega)
  refine ⟨by omega, ?_⟩
  rw [← getD_of]
  unfold Grid.step
  rcases hn : nxf w h l q way with _ | j
  · show l.getD q 1 = 0
    rw [getD_of hq]; exact hz
  · exact (Grid.nxf_some hn).2.1
theorem stepL_rising {w h : Nat} {l : List Int} {way : Int} (hw : 0 < w) (hl : l.length = w * h) {p : List Int} (hr : Rising l p 0) : Rising l (stepL w h l way p) 0 := by
  refine rising_of (fun x hx => ?_) (stepL_sorted _ _ _ _ _)
  obtain ⟨j, rfl, hj, q, hq, rfl⟩ := mem_stepL.1 hx
  obtain ⟨i, hi, rfl⟩ := List.mem_iff_getElem.1 hq
  obtain ⟨m, hm, ⟨hm1, hm2⟩, _⟩ := hr i (Nat.zero_le _) hi
  rw [hm, Int.toNat_natCast]
  exact ⟨_, rfl, step_free hw hl hm1 hm2⟩
theorem u64_small (n : Int) (h0 : 0 ≤ n) (h1 : n < 2 ^ 24) : IntKind.u64.wrap n = n := by simp [IntKind.wrap, IntKind.bits, IntKind.signed]; omega
theorem u64_range (n : Int) : 0 ≤ IntKind.u64.wrap n ∧ IntKind.u64.wrap n < 18446744073709551616 := by simp [IntKind.wrap, IntKind.bits, IntKind.signed]; omega
theorem byte_and (x : Int) (h0 : 0 ≤ x) (h1 : x < 18446744073709551616) : 0 ≤ wrap64 (Go.bits .and .u64 (x / 1099511627776) 255) ∧ wrap64 (Go.bits .and .u64 (x / 1099511627776) 255) ≤ 255 := by
  have e : Go.bits .and .u64 (x / 1099511627776) 255 = (x / 1099511627776) % 256 := bits_mask .u64 24 (by decide) u64_small 8 (by decide) (x / 1099511627776) (by omega) (by omega)
  rw [e, G.w64' (by omega) (by omega)]
  omega
def Bytes (c : List Int) : Prop := ∀ b ∈ c, 0 ≤ b ∧ b ≤ 255
theorem next_ok {c : List Int} (hc : Bytes c) (hl : c.length ≤ 1048576) (a s : Int) (h0 : 0 ≤ a) (h1 : a ≤ 1000000000000) : ∃ b s', spec_l1Cur_next.f c a s = some (b, a + 1, s') ∧ 0 ≤ b ∧ b ≤ 255 := by
  unfold spec_l1Cur_next.f
  rw [G.w64' (i := a + 1) (by omega) (by omega)]
  by_cases h2 : a < (c.length : Int)
  · obtain ⟨i, rfl⟩ : ∃ i : Nat, a = i := ⟨a.toNat, by omega⟩
    have hi : i < c.length := by omega
    have hb := hc c[i] (List.getElem_mem hi)
    rw [if_pos h2, if_pos h0, G.rd_nat hi, G.w64' (i := c[i]) (by omega) (by omega), if_pos (by omega)]
    exact ⟨_, _, rfl, hb.1, hb.2⟩
  · rw [if_neg h2, if_neg (by omega)]
    exact ⟨_, _, rfl, (byte_and _ (u64_range _).1 (u64_range _).2).1, (byte_and _ (u64_range _).1 (u64_range _).2).2⟩
theorem pick_ok {c : List Int} (hc : Bytes c) (hl : c.length ≤ 1048576) (n a s : Int) (h0 : 0 ≤ a) (h1 : a ≤ 900000000000) : ∃ r a' s', spec_l1Cur_pick.f c a s n = some (r, a', s') ∧ 0 ≤ r ∧ (1 < n → r < n) ∧ (n ≤ 1 → r = 0) ∧ a ≤ a' ∧ a' ≤ a + 2 := by
  unfold spec_l1Cur_pick.f
  by_cases hn : n ≤ 1
  · rw [if_pos hn]; exact ⟨0, a, s, rfl, by omega, by omega, by omega, by omega, by omega⟩
  · rw [if_neg hn]
    obtain ⟨b, s1, e1, b0, b1⟩ := next_ok hc hl a s h0 (by omega)
    rw [e1]
    simp only [Option.bind_some]
    by_cases h2 : n > 200
    · obtain ⟨d, s2, e2, d0, d1⟩ := next_ok hc hl (a + 1) s1 (by omega) (by omega)
      rw [if_pos h2, e2]
      simp only [Option.bind_some]
      rw [if_neg (by omega), G.w64' (i := b * 256) (by omega) (by omega), G.w64' (by omega) (by omega), Int.tmod_eq_emod_of_nonneg (by omega)]
      exact ⟨_, _, _, rfl, Int.emod_nonneg _ (by omega), fun _ => Int.emod_lt_of_pos _ (by omega), fun h => absurd h hn, by omega, by omega⟩
    · rw [if_neg h2, if_neg (by omega), Int.tmod_eq_emod_of_nonneg (by omega)]
      exact ⟨_, _, _, rfl, Int.emod_nonneg _ (by omega), fun _ => Int.emod_lt_of_pos _ (by omega), fun h => absurd h hn, by omega, by omega⟩
theorem one_ok {c : List Int} (hc : Bytes c) (hl : c.length ≤ 1048576) (n a s : Int) (h0 : 0 ≤ a) (h1 : a ≤ 900000000000) : ∃ r a' s', spec_l1Cur_one.f c a s n = some (r, a', s') ∧ a ≤ a' ∧ a' ≤ a + 2 := by
  obtain ⟨r, a', s', e, _, _, _, h2, h3⟩ := pick_ok hc hl n a s h0 h1
  unfold spec_l1Cur_one.f
  rw [e]
  exact ⟨_, _, _, rfl, h2, h3⟩
theorem among_ok {c : List Int} (hc : Bytes c) (hl : c.length ≤ 1048576) (l : List Int) (hne : 0 < l.length) (hll : l.length ≤ 1000) (a s : Int) (h0 : 0 ≤ a) (h1 : a ≤ 900000000000) : ∃ r a' s', spec_l1Cur_among.f c a s l = some (r, a', s') ∧ r ∈ l ∧ a ≤ a' ∧ a' ≤ a + 2 := by
  obtain ⟨r, a', s', e, r0, r1, r2, h2, h3⟩ := pick_ok hc hl (l.length : Int) a s h0 h1
  unfold spec_l1Cur_among.f
  rw [e]
  simp only [Option.bind_some]
  have hr : r < l.length := by
    by_cases h : (1 : Int) < l.length
    · exact r1 h
    · have := r2 (by omega); omega
  obtain ⟨i, rfl⟩ : ∃ i : Nat, r = i := ⟨r.toNat, by omega⟩
  have hi : i < l.length := by omega
  rw [if_pos r0, if_pos hr, G.rd_nat hi]
  exact ⟨_, _, _, rfl, List.getElem_mem hi, h2, h3⟩
theorem extent_ok {c : List Int} (hc : Bytes c) (hl : c.length ≤ 1048576) (a s : Int) (h0 : 0 ≤ a) (h1 : a ≤ 800000000000) : ∃ w h a' s', spec_l1Cur_extent.f c a s = some (w, h, a', s') ∧ 0 ≤ w ∧ w ≤ 17 ∧ 0 ≤ h ∧ h ≤ 17 ∧ a ≤ a' ∧ a' ≤ a + 6 := by
  obtain ⟨b, a1, s1, e1, p1, q1⟩ := one_ok hc hl 12 a s h0 (by omega)
  unfold spec_l1Cur_extent.f
  rw [e1]
  simp only [Option.bind_some]
  cases b with
  | true =>
    obtain ⟨w, a2, s2, e2, m2, p2, q2⟩ := among_ok hc hl [16, 1, 17, 0] (by decide) (by decide) a1 s1 (by omega) (by omega)
    obtain ⟨h, a3, s3, e3, m3, p3, q3⟩ := among_ok hc hl [16, 1, 0, 17] (by decide) (by decide) a2 s2 (by omega) (by omega)
    rw [if_pos rfl, e2]; simp only [Option.bind_some]; rw [e3]
    simp at m2 m3
    exact ⟨_, _, _, _, rfl, by omega, by omega, by omega, by omega, by dsimp only; omega, by dsimp only; omega⟩
  | false =>
    obtain ⟨w, a2, s2, e2, w0, w1, _, p2, q2⟩ := pick_ok hc hl 6 a1 s1 (by omega) (by omega)
    obtain ⟨h, a3, s3, e3, v0, v1, _, p3, q3⟩ := pick_ok hc hl 6 a2 s2 (by omega) (by omega)
    have := w1 (by omega)
    have := v1 (by omega)
    rw [if_neg (by simp), e2]; simp only [Option.bind_some]; rw [e3]
    simp only [Option.bind_some]
    rw [G.w64' (i := 1 + w) (by omega) (by omega), G.w64' (i := 1 + h) (by omega) (by omega)]
    exact ⟨_, _, _, _, rfl, by omega, by omega, by omega, by omega, by omega, by omega⟩
/-- What the cells' draw ends with. -/
theorem cells_end {c : List Int} (hc : Bytes c) (hl : c.length ≤ 1048576) (b : Bool) (a s w : Int) (l : List Int) (hll : l.length ≤ 1000) (hb : b = true → 0 < l.length) (h0 : 0 ≤ a) (h1 : a ≤ 700000000000) :
    ∃ r : Int × List Int × Int × Int, Ev (fun k => spec_l1Cur_cells.j1 k b c a s w l) r ∧ r.1 = w ∧ r.2.1.length ≤ l.length + 1 ∧ a ≤ r.2.2.1 ∧ r.2.2.1 ≤ a + 6 := by
  cases b with
  | true =>
    obtain ⟨x, a2, s2, e2, m2, p2, q2⟩ := among_ok hc hl [-1, 3] (by decide) (by decide) a s (by omega) (by omega)
    obtain ⟨b3, a3, s3, e3, p3, q3⟩ := one_ok hc hl 30 a2 s2 (by omega) (by omega)
    have hpos := hb rfl
    cases b3 with
    | true =>
      refine ⟨(w, l.set 0 x ++ [0], a3, s3), G.succ ?_, rfl, by simp, by simp only; omega, by simp only; omega⟩
      simp only [spec_l1Cur_cells.j1]
      exact G.pos (by trivial) (G.bind0 e2 (G.pos (by omega) (G.bind0 rfl (G.bind0 e3 (G.pos rfl (G.pos (by simp; omega) (G.now fun _ => rfl)))))))
    | false =>
      refine ⟨(w, l.set 0 x, a3, s3), G.succ ?_, rfl, by simp, by simp only; omega, by simp only; omega⟩
      simp only [spec_l1Cur_cells.j1]
      exact G.pos (by trivial) (G.bind0 e2 (G.pos (by omega) (G.bind0 rfl (G.bind0 e3 (G.neg (by simp) (G.now fun _ => rfl))))))
  | false =>
    obtain ⟨b3, a3, s3, e3, p3, q3⟩ := one_ok hc hl 30 a s (by omega) (by omega)
    cases b3 with
    | true =>
      refine ⟨(w, l ++ [0], a3, s3), G.succ ?_, rfl, by simp, by simp only; omega, by simp only; omega⟩
      simp only [spec_l1Cur_cells.j1]
      exact G.neg (by simp) (G.bind0 e3 (G.pos rfl (G.pos (by omega) (G.now fun _ => rfl))))
    | false =>
      refine ⟨(w, l, a3, s3), G.succ ?_, rfl, by simp, by simp only; omega, by simp only; omega⟩
      simp only [spec_l1Cur_cells.j1]
      exact G.neg (by simp) (G.bind0 e3 (G.neg (by simp) (G.now fun _ => rfl)))
theorem cells_loop {c : List Int} (hc : Bytes c) (hl : c.length ≤ 1048576) (w h walls : Int) (hw : 0 ≤ w) (hw' : w ≤ 17) (hh : 0 ≤ h) (hh' : h ≤ 17) :
    ∀ d (i : Int) (a s : Int) (l : List Int), 0 ≤ i → (w * h - i).toNat = d → (l.length : Int) ≤ i → 0 ≤ a → a ≤ 600000000000 - 4 * d → d ≤ 289 → l.length + d ≤ 900 →
      ∃ r : Int × List Int × Int × Int, Ev (fun k => spec_l1Cur_cells.l0 k w h walls i c a s w l) r ∧ r.1 = w ∧ r.2.1.length ≤ l.length + d + 1 ∧ a ≤ r.2.2.1 ∧ r.2.2.1 ≤ a + 4 * d + 8 := by
  have hp : w * h ≤ 289 := by
    obtain ⟨u, rfl⟩ : ∃ u : Nat, w = u := ⟨w.toNat, by omega⟩
    obtain ⟨v, rfl⟩ : ∃ v : Nat, h = v := ⟨h.toNat, by omega⟩
    have := Nat.mul_le_mul (show u ≤ 17 by omega) (show v ≤ 17 by omega)
    have e : ((u * v : Nat) : Int) = (u : Int) * v := by simp
    omega
  have hp0 : 0 ≤ w * h := Int.mul_nonneg hw hh
  have hwr : wrap64 (w * h) = w * h := G.w64' (by omega) (by omega)
  generalize hz : w * h = z at *
  intro d
  induction d with
  | zero =>
    intro i a s l hi hd hli h0 h1 h289 hle
    obtain ⟨b, a1, s1, e1, p1, q1⟩ := one_ok hc hl 24 a s h0 (by omega)
    cases b with
    | true =>
      obtain ⟨r, e, r1, r2, r3, r4⟩ := cells_end hc hl (decide ((l.length : Int) > 0)) a1 s1 w l (by omega) (fun h => by have := of_decide_eq_true h; omega) (by omega) (by omega)
      refine ⟨r, G.succ ?_, r1, by omega, by omega, by omega⟩
      simp only [spec_l1Cur_cells.l0, hz, hwr]
      exact G.neg (by omega) (G.bind0 e1 (G.pos rfl e))
    | false =>
      obtain ⟨r, e, r1, r2, r3, r4⟩ := cells_end hc hl false a1 s1 w l (by omega) (by simp) (by omega) (by omega)
      refine ⟨r, G.succ ?_, r1, by omega, by omega, by omega⟩
      simp only [spec_l1Cur_cells.l0, hz, hwr]
      exact G.neg (by omega) (G.bind0 e1 (G.neg (by simp) e))
  | succ d ih =>
    intro i a s l hi hd hli h0 h1 h289 hle
    obtain ⟨x, a1, s1, e1, x0, x1, _, p1, q1⟩ := pick_ok hc hl 10 a s h0 (by omega)
    obtain ⟨b, a2, s2, e2, p2, q2⟩ := one_ok hc hl 20 a1 s1 (by omega) (by omega)
    have hwi : wrap64 (i + 1) = i + 1 := G.w64' (by omega) (by omega)
    have go : ∀ y : Int, ∃ r : Int × List Int × Int × Int, Ev (fun k => spec_l1Cur_cells.l0 k w h walls (i + 1) c a2 s2 w (l ++ [y])) r ∧ r.1 = w ∧ r.2.1.length ≤ l.length + (d + 1) + 1 ∧ a ≤ r.2.2.1 ∧ r.2.2.1 ≤ a + 4 * ((d + 1 : Nat) : Int) + 8 := by
      intro y
      obtain ⟨r, e, r1, r2, r3, r4⟩ := ih (i + 1) a2 s2 (l ++ [y]) (by omega) (by omega) (by simp; omega) (by omega) (by omega) (by omega) (by simp; omega)
      exact ⟨r, e, r1, by simp at r2; omega, by omega, by omega⟩
    by_cases hx : x < walls
    · cases b with
      | true =>
        obtain ⟨r, e, r1⟩ := go 2
        refine ⟨r, G.succ ?_, r1⟩
        simp only [spec_l1Cur_cells.l0, hz, hwr, hwi]
        exact G.pos (by omega) (G.bind0 e1 (G.pos hx (G.bind0 e2 (G.pos rfl (G.pos (by omega) e)))))
      | false =>
        obtain ⟨r, e, r1⟩ := go 1
        refine ⟨r, G.succ ?_, r1⟩
        simp only [spec_l1Cur_cells.l0, hz, hwr, hwi]
        exact G.pos (by omega) (G.bind0 e1 (G.pos hx (G.bind0 e2 (G.neg (by simp) (G.pos (by omega) e)))))
    · cases b with
      | true =>
        obtain ⟨r, e, r1⟩ := go 2
        refine ⟨r, G.succ ?_, r1⟩
        simp only [spec_l1Cur_cells.l0, hz, hwr, hwi]
        exact G.pos (by omega) (G.bind0 e1 (G.neg hx (G.bind0 e2 (G.pos rfl (G.pos (by omega) e)))))
      | false =>
        obtain ⟨r, e, r1⟩ := go 0
        refine ⟨r, G.succ ?_, r1⟩
        simp only [spec_l1Cur_cells.l0, hz, hwr, hwi]
        exact G.pos (by omega) (G.bind0 e1 (G.neg hx (G.bind0 e2 (G.neg (by simp) (G.pos (by omega) e)))))
theorem cells_ok {c : List Int} (hc : Bytes c) (hl : c.length ≤ 1048576) (a s : Int) (h0 : 0 ≤ a) (h1 : a ≤ 500000000000) : ∃ r : Int × List Int × Int × Int, Ev (fun k => spec_l1Cur_cells.f k c a s) r ∧ 0 ≤ r.1 ∧ r.1 ≤ 17 ∧ r.2.1.length ≤ 290 ∧ a ≤ r.2.2.1 ∧ r.2.2.1 ≤ a + 2000 := by
  obtain ⟨w, h, a1, s1, e1, w0, w1, v0, v1, p1, q1⟩ := extent_ok hc hl a s h0 (by omega)
  obtain ⟨walls, a2, s2, e2, x0, x1, _, p2, q2⟩ := pick_ok hc hl 5 a1 s1 (by omega) (by omega)
  have hp : w * h ≤ 289 := by
    obtain ⟨u, rfl⟩ : ∃ u : Nat, w = u := ⟨w.toNat, by omega⟩
    obtain ⟨v, rfl⟩ : ∃ v : Nat, h = v := ⟨h.toNat, by omega⟩
    have := Nat.mul_le_mul (show u ≤ 17 by omega) (show v ≤ 17 by omega)
    have e : ((u * v : Nat) : Int) = (u : Int) * v := by simp
    omega
  obtain ⟨r, e3, r1, r2, r3, r4⟩ := cells_loop hc hl w h walls w0 w1 v0 v1 _ 0 a2 s2 [] (by omega) rfl (by simp) (by omega) (by omega) (by omega) (by simp; omega)
  refine ⟨r, ?_, by omega, by omega, by simp at r2; omega, by omega, by omega⟩
  simp only [spec_l1Cur_cells.f]
  exact G.bind0 e1 (G.bind0 e2 e3)
theorem allplaces_ok (a : Int) (l : List Int) (hl : l.length ≤ 1048576) : ∃ r : List Int, Ev (fun k => spec_AllPlaces.f k a l) r ∧ r.length ≤ l.length := by
  obtain ⟨g, h1, h2, _⟩ := goodcells_ok a l hl
  simp only [spec_AllPlaces.f]
  have loop : ∀ i, i ≤ l.length → ∀ out : List Int, out.length ≤ i → ∃ r, Ev (fun k => spec_AllPlaces.l0 k out l.length (i : Int) a l) r ∧ r.length ≤ l.length := by
    refine G.down_ind l.length (fun i => ∀ out : List Int, out.length ≤ i → ∃ r, Ev (fun k => spec_AllPlaces.l0 k out l.length (i : Int) a l) r ∧ r.length ≤ l.length) ?_ ?_
    · intro out ho
      refine ⟨out, G.succ (G.now fun k => ?_), ho⟩
      simp only [spec_AllPlaces.l0]; rw [if_neg (by omega)]
    · intro i hi ih out ho
      by_cases hz : l[i] = 0
      · obtain ⟨r, e, hr⟩ := ih (out ++ [(i : Int)]) (by simp; omega)
        refine ⟨r, G.succ ?_, hr⟩
        simp only [spec_AllPlaces.l0, G.rd_nat hi, G.w64 i (by omega)]
        exact G.pos (by omega) (G.pos (by omega) (G.pos (by omega) (G.pos hz (G.pos (by omega) e))))
      · obtain ⟨r, e, hr⟩ := ih out (by omega)
        refine ⟨r, G.succ ?_, hr⟩
        simp only [spec_AllPlaces.l0, G.rd_nat hi, G.w64 i (by omega)]
        exact G.pos (by omega) (G.pos (by omega) (G.pos (by omega) (G.neg hz e)))
  cases g with
  | true =>
    obtain ⟨r, e, hr⟩ := loop 0 (Nat.zero_le _) [] (Nat.le_refl _)
    exact ⟨r, G.bind h1 (G.pos rfl e), hr⟩
  | false => exact ⟨[], G.bind h1 (G.neg (by simp) (G.now fun _ => rfl)), by simp⟩
theorem places_draw {c : List Int} (hc : Bytes c) (hl : c.length ≤ 1048576) (a s w : Int) (l : List Int) (hll : l.length ≤ 1000) (h0 : 0 ≤ a) (h1 : a ≤ 100000000000) :
    ∃ r : List Int × Int × Int, Ev (fun k => spec_l1Cur_places.f k c a s w l) r ∧ r.1.length ≤ l.length + 1 ∧ a ≤ r.2.1 ∧ r.2.1 ≤ a + 10000 := by
  obtain ⟨t, ht, htl⟩ := allplaces_ok w l (by omega)
  have loop : ∀ i, i ≤ t.length → ∀ (out : List Int) (a s : Int), out.length ≤ i → 0 ≤ a → a ≤ 200000000000 - 2 * (t.length - i : Nat) → ∃ r : List Int × Int × Int, Ev (fun k => spec_l1Cur_places.l0 k out t t.length (i : Int) c a s w l) r ∧ r.1.length ≤ t.length + 1 ∧ a ≤ r.2.1 ∧ r.2.1 ≤ a + 2 * (t.length - i : Nat) + 4 := by
    refine G.down_ind t.length (fun i => ∀ (out : List Int) (a s : Int), out.length ≤ i → 0 ≤ a → a ≤ 200000000000 - 2 * (t.length - i : Nat) → ∃ r : List Int × Int × Int, Ev (fun k => spec_l1Cur_places.l0 k out t t.length (i : Int) c a s w l) r ∧ r.1.length ≤ t.length + 1 ∧ a ≤ r.2.1 ∧ r.2.1 ≤ a + 2 * (t.length - i : Nat) + 4) ?_ ?_
    · intro out a s ho h0 h1
      obtain ⟨b, a1, s1, e1, p1, q1⟩ := one_ok hc hl 16 a s h0 (by omega)
      cases b with
      | true =>
        obtain ⟨x, a2, s2, e2, _, _, _, p2, q2⟩ := pick_ok hc hl (wrap64 ((l.length : Int) + 1)) a1 s1 (by omega) (by omega)
        refine ⟨(out ++ [x], a2, s2), G.succ ?_, by simp; omega, by simp only; omega, by simp only; omega⟩
        simp only [spec_l1Cur_places.l0]
        exact G.neg (by omega) (G.bind0 e1 (G.pos rfl (G.bind0 e2 (G.pos (by omega) (G.now fun _ => rfl)))))
      | false =>
        refine ⟨(out, a1, s1), G.succ ?_, by simp; omega, by simp only; omega, by simp only; omega⟩
        simp only [spec_l1Cur_places.l0]
        exact G.neg (by omega) (G.bind0 e1 (G.neg (by simp) (G.now fun _ => rfl)))
    · intro i hi ih out a s ho h0 h1
      obtain ⟨b, a1, s1, e1, p1, q1⟩ := one_ok hc hl 2 a s h0 (by omega)
      cases b with
      | true =>
        obtain ⟨r, e, r1, r2, r3⟩ := ih (out ++ [t[i]]) a1 s1 (by simp; omega) (by omega) (by omega)
        refine ⟨r, G.succ ?_, r1, by omega, by omega⟩
        simp only [spec_l1Cur_places.l0, G.rd_nat hi, G.w64 i (by omega)]
        exact G.pos (by omega) (G.pos (by omega) (G.pos (by omega) (G.bind0 e1 (G.pos rfl (G.pos (by omega) e)))))
      | false =>
        obtain ⟨r, e, r1, r2, r3⟩ := ih out a1 s1 (by omega) (by omega) (by omega)
        refine ⟨r, G.succ ?_, r1, by omega, by omega⟩
        simp only [spec_l1Cur_places.l0, G.w64 i (by omega)]
        exact G.pos (by omega) (G.pos (by omega) (G.pos (by omega) (G.bind0 e1 (G.neg (by simp) e))))
  obtain ⟨r, e, r1, r2, r3⟩ := loop 0 (Nat.zero_le _) [] a s (by simp) h0 (by omega)
  simp only [spec_l1Cur_places.f]
  exact ⟨r, G.bind ht e, by omega, by omega, by omega⟩
theorem cloud_loop {c : List Int} (hc : Bytes c) (hl : c.length ≤ 1048576) (big : Bool) : ∀ (d : Nat) (n a s : Int) (out : List S53), n.toNat = d → n ≤ 1000 → out.length + d ≤ 1000 → 0 ≤ a → a ≤ 600000000000 - 14 * d →
    ∃ r : List S53 × Int × Int, Ev (fun k => spec_l1Cur_cloud.l0 k out n big c a s) r ∧ r.1.length = out.length + d ∧ a ≤ r.2.1 ∧ r.2.1 ≤ a + 14 * d := by
  intro d
  induction d with
  | zero =>
    intro n a s out hn hn' ho h0 h1
    refine ⟨(out, a, s), G.succ ?_, by simp, by simp, by simp⟩
    simp only [spec_l1Cur_cloud.l0]
    exact G.neg (by omega) (G.now fun _ => rfl)
  | succ d ih =>
    intro n a s out hn hn' ho h0 h1
    have hw : wrap64 (n - 1) = n - 1 := G.w64' (by omega) (by omega)
    have last : ∀ (x y a s : Int), 0 ≤ a → a ≤ 600000000000 - 14 * d - 4 → ∃ r : List S53 × Int × Int, Ev (fun k => spec_l1Cur_cloud.j2 k out n big c a s x y) r ∧ r.1.length = out.length + (d + 1) ∧ a ≤ r.2.1 ∧ r.2.1 ≤ a + 14 * d + 4 := by
      intro x y a s h0 h1
      obtain ⟨b, a1, s1, e1, p1, q1⟩ := one_ok hc hl 60 a s h0 (by omega)
      cases b with
      | true =>
        obtain ⟨z, a2, s2, e2, m2, p2, q2⟩ := among_ok hc hl [-1, 1000001] (by decide) (by decide) a1 s1 (by omega) (by omega)
        obtain ⟨r, e, r1, r2, r3⟩ := ih (n - 1) a2 s2 (out ++ [⟨x, z⟩]) (by omega) (by omega) (by simp; omega) (by omega) (by omega)
        refine ⟨r, G.succ ?_, by simp at r1; omega, by omega, by omega⟩
        simp only [spec_l1Cur_cloud.j2, hw]
        exact G.bind0 e1 (G.pos rfl (G.bind0 e2 (G.pos (by omega) e)))
      | false =>
        obtain ⟨r, e, r1, r2, r3⟩ := ih (n - 1) a1 s1 (out ++ [⟨x, y⟩]) (by omega) (by omega) (by simp; omega) (by omega) (by omega)
        refine ⟨r, G.succ ?_, by simp at r1; omega, by omega, by omega⟩
        simp only [spec_l1Cur_cloud.j2, hw]
        exact G.bind0 e1 (G.neg (by simp) (G.pos (by omega) e))
    obtain ⟨x, a1, s1, e1, x0, x1, _, p1, q1⟩ := pick_ok hc hl 41 a s h0 (by omega)
    obtain ⟨y, a2, s2, e2, y0, y1, _, p2, q2⟩ := pick_ok hc hl 6 a1 s1 (by omega) (by omega)
    cases big with
    | true =>
      obtain ⟨u, a3, s3, e3, m3, p3, q3⟩ := among_ok hc hl [1000000, -1000000, 999999, 0, 500000] (by decide) (by decide) a2 s2 (by omega) (by omega)
      obtain ⟨v, a4, s4, e4, m4, p4, q4⟩ := among_ok hc hl [1000000, 999999, 1, 0] (by decide) (by decide) a3 s3 (by omega) (by omega)
      obtain ⟨r, e, r1, r2, r3⟩ := last u v a4 s4 (by omega) (by omega)
      refine ⟨r, G.succ ?_, r1, by omega, by omega⟩
      simp only [spec_l1Cur_cloud.l0]
      exact G.pos (by omega) (G.bind0 e1 (G.bind0 e2 (G.pos (by trivial) (G.bind0 e3 (G.bind0 e4 e)))))
    | false =>
      obtain ⟨r, e, r1, r2, r3⟩ := last (wrap64 (x - 20)) y a2 s2 (by omega) (by omega)
      refine ⟨r, G.succ ?_, r1, by omega, by omega⟩
      simp only [spec_l1Cur_cloud.l0]
      exact G.pos (by omega) (G.bind0 e1 (G.bind0 e2 (G.neg (by simp) e)))
theorem cloud_ok {c : List Int} (hc : Bytes c) (hl : c.length ≤ 1048576) (a s : Int) (h0 : 0 ≤ a) (h1 : a ≤ 500000000000) : ∃ r : List S53 × Int × Int, Ev (fun k => spec_l1Cur_cloud.f k c a s) r ∧ r.1.length ≤ 61 ∧ a ≤ r.2.1 ∧ r.2.1 ≤ a + 1000 := by
  obtain ⟨n, a1, s1, e1, n0, n1, _, p1, q1⟩ := pick_ok hc hl 9 a s h0 (by omega)
  obtain ⟨b, a2, s2, e2, p2, q2⟩ := one_ok hc hl 16 a1 s1 (by omega) (by omega)
  have go : ∀ (m a s : Int), 0 ≤ m → m ≤ 61 → 0 ≤ a → a ≤ 500000000100 → ∃ r : List S53 × Int × Int, Ev (fun k => spec_l1Cur_cloud.j0 k [] m c a s) r ∧ r.1.length ≤ 61 ∧ a ≤ r.2.1 ∧ r.2.1 ≤ a + 900 := by
    intro m a s m0 m1 h0 h1
    obtain ⟨b, a3, s3, e3, p3, q3⟩ := one_ok hc hl 6 a s h0 (by omega)
    obtain ⟨r, e, r1, r2, r3⟩ := cloud_loop hc hl b m.toNat m a3 s3 [] rfl (by omega) (by simp; omega) (by omega) (by omega)
    refine ⟨r, G.succ ?_, by simp at r1; omega, by omega, by omega⟩
    simp only [spec_l1Cur_cloud.j0]
    exact G.bind0 e3 e
  have := n1 (by omega)
  simp only [spec_l1Cur_cloud.f]
  cases b with
  | true =>
    obtain ⟨x, a3, s3, e3, x0, x1, _, p3, q3⟩ := pick_ok hc hl 3 a2 s2 (by omega) (by omega)
    have := x1 (by omega)
    obtain ⟨r, e, r1, r2, r3⟩ := go (wrap64 (59 + x)) a3 s3 (by rw [G.w64' (by omega) (by omega)]; omega) (by rw [G.w64' (by omega) (by omega)]; omega) (by omega) (by omega)
    exact ⟨r, G.bind0 e1 (G.bind0 e2 (G.pos rfl (G.bind0 e3 e))), r1, by omega, by omega⟩
  | false =>
    obtain ⟨r, e, r1, r2, r3⟩ := go n a2 s2 (by omega) (by omega) (by omega) (by omega)
    exact ⟨r, G.bind0 e1 (G.bind0 e2 (G.neg (by simp) e)), r1, by omega, by omega⟩
def good (m : S53) : Bool := decide (-1000000 ≤ m.f0 ∧ m.f0 ≤ 1000000 ∧ 0 ≤ m.f1 ∧ m.f1 ≤ 1000000)
theorem in_is (a : Int) : spec_l11In.f a = some (decide (-1000000 ≤ a ∧ a ≤ 1000000)) := by
  simp only [spec_l11In.f, G.nest]; congr 1; simp
theorem within_is (a : Int) : impl_within.f a 1000000 = some (decide (-1000000 ≤ a ∧ a ≤ 1000000)) := by
  unfold impl_within.f; rw [G.wneg (by omega) (by omega)]; exact in_is a
theorem body (m : S53) {α : Type} (x y : α) : (if good m = true then x else y) = if -1000000 ≤ m.f0 ∧ m.f0 ≤ 1000000 then (if m.f1 < 0 then y else if m.f1 > 1000000 then y else x) else y := by
  unfold good
  by_cases h : -1000000 ≤ m.f0 ∧ m.f0 ≤ 1000000
  · rw [if_pos h]
    by_cases h1 : m.f1 < 0
    · rw [if_pos h1, if_neg (by simp; omega)]
    · rw [if_neg h1]
      by_cases h2 : m.f1 > 1000000
      · rw [if_pos h2, if_neg (by simp; omega)]
      · rw [if_neg h2, if_pos (by simp; omega)]
  · rw [if_neg h, if_neg (by simp; omega)]
theorem goodcloud_spec (l : List S53) : Ev (fun k => spec_GoodCloud.f k l) (l.all good && decide (l.length ≤ 60)) := by
  simp only [spec_GoodCloud.f]
  refine G.ite (fun h => G.now fun _ => ?_) (fun h => ?_)
  · rw [decide_eq_false (by omega), Bool.and_false]
  · rw [decide_eq_true (by omega)]
    refine G.all_loop (F := fun k i => spec_GoodCloud.l0 k l l.length i) l good true ?_ ?_
    · intro k; simp only [spec_GoodCloud.l0]; rw [if_neg (by omega)]
    · intro k i h
      simp only [spec_GoodCloud.l0, in_is, Option.bind_some]
      rw [if_pos (by omega), if_pos (by omega), if_pos (by omega), rdT53 h, G.w64 _ (by omega), body]
      simp only [decide_eq_true_eq]
theorem goodcloud_impl (l : List S53) (hl : l.length ≤ 1048576) : Ev (fun k => impl_GoodCloud.f k l) (l.all good && decide (l.length ≤ 60)) := by
  simp only [impl_GoodCloud.f]
  refine G.all_loop (F := fun k i => impl_GoodCloud.l0 k l l l.length i) l good _ ?_ ?_
  · intro k; simp only [impl_GoodCloud.l0]; rw [if_neg (by omega)]; congr 1; simp; omega
  · intro k i h
    simp only [impl_GoodCloud.l0, within_is, Option.bind_some]
    rw [if_pos (by omega), if_pos (by omega), if_pos (by omega), rdT53 h, G.w64 _ (by omega), body]
    simp only [decide_eq_true_eq]
theorem within_eq (a : Int) : impl_within.f a 1000000 = spec_l11In.f a := by rw [within_is, in_is]
theorem loops_eq : ∀ k, (∀ x0 x1 x2 x25, impl_MoveCloud.j0 k x0 x1 x2 x25 = spec_MoveCloud.j0 k x0 x1 x2 x25) ∧ (∀ x0 x1 x2 x3 x4 x5, impl_MoveCloud.l0 k x0 x1 x2 x3 x4 x5 = spec_MoveCloud.l0 k x0 x1 x2 x3 x4 x5) ∧ (∀ x0 x1 x2 x3 x4 x5, impl_MoveCloud.l1 k x0 x1 x2 x3 x4 x5 = spec_MoveCloud.l1 k x0 x1 x2 x3 x4 x5) := by
  intro k
  induction k with
  | zero => exact ⟨fun _ _ _ _ => by simp [impl_MoveCloud.j0, spec_MoveCloud.j0], fun _ _ _ _ _ _ => by simp [impl_MoveCloud.l0, spec_MoveCloud.l0], fun _ _ _ _ _ _ => by simp [impl_MoveCloud.l1, spec_MoveCloud.l1]⟩
  | succ k ih =>
    refine ⟨fun _ _ _ _ => ?_, fun _ _ _ _ _ _ => ?_, fun _ _ _ _ _ _ => ?_⟩
    · simp only [impl_MoveCloud.j0, spec_MoveCloud.j0, ih.2.1]
    · simp only [impl_MoveCloud.l0, spec_MoveCloud.l0, within_eq, ih.2.1, ih.2.2]
    · simp only [impl_MoveCloud.l1, spec_MoveCloud.l1, within_eq, ih.2.2]
theorem in_some (a : Int) : ∃ b, spec_l11In.f a = some b := ⟨_, in_is a⟩
/-- A mote, moved. -/
def mv (by_ : Int) (c : List Int) (m : S53) (i : Nat) : S53 := if c.length > 0 then ⟨wrap64 (wrap64 (m.f0 + by_) + rd c ((i % c.length : Nat) : Int)), m.f1⟩ else ⟨wrap64 (m.f0 + by_), m.f1⟩
def Moved (by_ : Int) (c : List Int) (l out : List S53) (i : Nat) : Prop := out.length = i ∧ ∀ j (h : j < out.length) (h' : j < l.length), out[j] = mv by_ c l[j] j
theorem moved_snoc {by_ : Int} {c : List Int} {l out : List S53} {i : Nat} (hi : i < l.length) (h : Moved by_ c l out i) (m : S53) (e : m = mv by_ c l[i] i) : Moved by_ c l (out ++ [m]) (i + 1) := by
  obtain ⟨h1, h2⟩ := h
  refine ⟨by simp [h1], fun j hj hj' => ?_⟩
  by_cases hji : j < out.length
  · rw [List.getElem_append_left hji]; exact h2 j hji hj'
  · have : j = out.length := by simp at hj; omega
    subst this
    rw [List.getElem_append_right (by omega)]
    simp only [Nat.sub_self, List.getElem_cons_zero]
    rw [e]; congr 1 <;> (try congr 1) <;> omega
theorem l1_some (by_ : Int) (c : List Int) (l : List S53) (hl : l.length ≤ 60) (hc : c.length ≤ 60) : ∀ i, i ≤ l.length → ∀ out : List S53, Moved by_ c l out i → ∃ r, Ev (fun k => spec_MoveCloud.l1 k by_ c out l l.length (i : Int)) r ∧ r.1.length ≤ 60 ∧ (r.2 = true → Moved by_ c l r.1 l.length) := by
  refine G.down_ind l.length (fun i => ∀ out : List S53, Moved by_ c l out i → ∃ r, Ev (fun k => spec_MoveCloud.l1 k by_ c out l l.length (i : Int)) r ∧ r.1.length ≤ 60 ∧ (r.2 = true → Moved by_ c l r.1 l.length)) ?_ ?_
  · intro out ho
    refine ⟨(out, true), G.succ (G.now fun k => ?_), by have := ho.1; simp; omega, fun _ => ho⟩
    simp only [spec_MoveCloud.l1]; rw [if_neg (by omega)]
  · intro i hi ih out ho
    by_cases h0 : (c.length : Int) > 0
    · have e : Int.tmod (i : Int) (c.length : Int) = ((i % c.length : Nat) : Int) := by rw [Int.tmod_eq_emod_of_nonneg (by omega)]; omega
      have hlt : i % c.length < c.length := Nat.mod_lt _ (by omega)
      obtain ⟨b, hb⟩ := in_some (wrap64 ((wrap64 (((rd_T53 l i).f0) + by_)) + (rd c ((i % c.length : Nat) : Int))))
      cases b with
      | false =>
        refine ⟨([], false), G.succ ?_, by simp, by simp⟩
        simp only [spec_MoveCloud.l1, e]
        exact G.pos (by omega) (G.pos (by omega) (G.pos (by omega) (G.pos h0 (G.neg (by omega) (G.pos (by omega) (G.pos (by omega) (G.bind0 hb (G.neg (by simp) (G.now fun _ => rfl)))))))))
      | true =>
        have hol := ho.1
        obtain ⟨r, hr, hr'⟩ := ih (out ++ [⟨wrap64 ((wrap64 (((rd_T53 l i).f0) + by_)) + (rd c ((i % c.length : Nat) : Int))), (rd_T53 l i).f1⟩]) (moved_snoc hi ho _ (by rw [rdT53 hi]; unfold mv; rw [if_pos (by omega)]))
        refine ⟨r, G.succ ?_, hr'⟩
        simp only [spec_MoveCloud.l1, e, G.w64 i (by omega)]
        exact G.pos (by omega) (G.pos (by omega) (G.pos (by omega) (G.pos h0 (G.neg (by omega) (G.pos (by omega) (G.pos (by omega) (G.bind0 hb (G.pos rfl (G.pos (by omega) hr)))))))))
    · obtain ⟨b, hb⟩ := in_some (wrap64 (((rd_T53 l i).f0) + by_))
      cases b with
      | false =>
        refine ⟨([], false), G.succ ?_, by simp, by simp⟩
        simp only [spec_MoveCloud.l1]
        exact G.pos (by omega) (G.pos (by omega) (G.pos (by omega) (G.neg h0 (G.bind0 hb (G.neg (by simp) (G.now fun _ => rfl))))))
      | true =>
        have hol := ho.1
        obtain ⟨r, hr, hr'⟩ := ih (out ++ [⟨wrap64 (((rd_T53 l i).f0) + by_), (rd_T53 l i).f1⟩]) (moved_snoc hi ho _ (by rw [rdT53 hi]; unfold mv; rw [if_neg (by omega)]))
        refine ⟨r, G.succ ?_, hr'⟩
        simp only [spec_MoveCloud.l1, G.w64 i (by omega)]
        exact G.pos (by omega) (G.pos (by omega) (G.pos (by omega) (G.neg h0 (G.bind0 hb (G.pos rfl (G.pos (by omega) hr))))))
theorem l0_some (l : List S53) (by_ : Int) (c : List Int) (hl : l.length ≤ 60) (hc : c.length ≤ 60) : ∀ i, i ≤ c.length → ∃ r, Ev (fun k => spec_MoveCloud.l0 k l by_ c c c.length (i : Int)) r ∧ r.1.length ≤ 60 ∧ (r.2 = true → Moved by_ c l r.1 l.length) := by
  obtain ⟨r0, hr0, hr0'⟩ := l1_some by_ c l hl hc 0 (Nat.zero_le _) [] ⟨rfl, fun j h => by simp at h⟩
  refine G.down_ind c.length (fun i => ∃ r, Ev (fun k => spec_MoveCloud.l0 k l by_ c c c.length (i : Int)) r ∧ r.1.length ≤ 60 ∧ (r.2 = true → Moved by_ c l r.1 l.length)) ?_ ?_
  · refine ⟨r0, G.succ ?_, hr0'⟩
    simp only [spec_MoveCloud.l0]; exact G.neg (by omega) hr0
  · intro i hi ⟨r, hr, hr'⟩
    obtain ⟨b, hb⟩ := in_some (rd c i)
    cases b with
    | false =>
      refine ⟨([], false), G.succ ?_, by simp, by simp⟩
      simp only [spec_MoveCloud.l0]
      exact G.pos (by omega) (G.pos (by omega) (G.pos (by omega) (G.bind0 hb (G.neg (by simp) (G.now fun _ => rfl)))))
    | true =>
      refine ⟨r, G.succ ?_, hr'⟩
      simp only [spec_MoveCloud.l0, G.w64 i (by omega)]
      exact G.pos (by omega) (G.pos (by omega) (G.pos (by omega) (G.bind0 hb (G.pos rfl hr))))
theorem move_is (l : List S53) (by_ : Int) (c : List Int) (hl : l.length ≤ 1048576) : ∃ r, Ev (fun k => spec_MoveCloud.f k l by_ c) r ∧ Ev (fun k => impl_MoveCloud.f k l by_ c) r ∧ r.1.length ≤ 60 ∧ (r.2 = true → Moved by_ c l r.1 l.length) := by
  have jt : Ev (fun k => spec_MoveCloud.j0 k l by_ c true) ([], false) := G.succ (G.now fun k => by simp [spec_MoveCloud.j0])
  simp only [spec_MoveCloud.f, impl_MoveCloud.f, within_eq, (loops_eq _).1]
  have hs := goodcloud_spec l
  have hi := goodcloud_impl l hl
  cases hg : (l.all good && decide (l.length ≤ 60)) with
  | false => rw [hg] at hs hi; exact ⟨([], false), G.bind hs (G.neg (by simp) jt), G.bind hi (G.neg (by simp) jt), by simp, by simp⟩
  | true =>
    rw [hg] at hs hi
    have hl60 : l.length ≤ 60 := by simp only [Bool.and_eq_true, decide_eq_true_eq] at hg; exact hg.2
    obtain ⟨b, hb⟩ := in_some by_
    cases b with
    | false => exact ⟨([], false), G.bind hs (G.pos rfl (G.bind0 hb (G.neg (by simp) jt))), G.bind hi (G.pos rfl (G.bind0 hb (G.neg (by simp) jt))), by simp, by simp⟩
    | true =>
      by_cases hc : (c.length : Int) > 60
      · have : Ev (fun k => spec_MoveCloud.j0 k l by_ c (decide ((c.length : Int) > 60))) ([], false) := by rw [decide_eq_true hc]; exact jt
        exact ⟨([], false), G.bind hs (G.pos rfl (G.bind0 hb (G.pos rfl this))), G.bind hi (G.pos rfl (G.bind0 hb (G.pos rfl this))), by simp, by simp⟩
      · obtain ⟨r, hr, hr'⟩ := l0_some l by_ c hl60 (by omega) 0 (Nat.zero_le _)
        have : Ev (fun k => spec_MoveCloud.j0 k l by_ c (decide ((c.length : Int) > 60))) r := by
          rw [decide_eq_false hc]; refine G.succ ?_
          simp only [spec_MoveCloud.j0]; exact G.neg (by simp) hr
        exact ⟨r, G.bind hs (G.pos rfl (G.bind0 hb (G.pos rfl this))), G.bind hi (G.pos rfl (G.bind0 hb (G.pos rfl this))), hr'⟩
theorem draw_step {c : List Int} (hc : Bytes c) (hl : c.length ≤ 1048576) : ∃ r : Int × List Int × List Int × Int, Ev (fun k => spec_DrawStepPlaces.f k c) r ∧ r.2.1.length ≤ 290 ∧ r.2.2.1.length ≤ 291 := by
  obtain ⟨m, e1, _, _, m2, p1, q1⟩ := cells_ok hc hl 0 0 (by omega) (by omega)
  obtain ⟨r, e2, r1, p2, q2⟩ := places_draw hc hl m.2.2.1 m.2.2.2 m.1 m.2.1 (by omega) (by omega) (by omega)
  obtain ⟨x, a3, s3, e3, _, _, _, p3, q3⟩ := pick_ok hc hl 5 r.2.1 r.2.2 (by omega) (by omega)
  obtain ⟨y, a4, s4, e4, _, _, _, p4, q4⟩ := pick_ok hc hl 2 a3 s3 (by omega) (by omega)
  refine ⟨(m.1, m.2.1, r.1, wrap64 (x - y)), ?_, m2, by dsimp only; omega⟩
  simp only [spec_DrawStepPlaces.f]
  exact G.bind e1 (G.bind e2 (G.bind0 e3 (G.bind0 e4 (G.now fun _ => rfl))))
theorem coins_loop {c : List Int} (hc : Bytes c) (hl : c.length ≤ 1048576) (cl : List S53) : ∀ (d : Nat) (n a s : Int) (out : List Int), n.toNat = d → n ≤ 1000 → out.length + d ≤ 1000 → 0 ≤ a → a ≤ 600000000000 - 10 * d →
    ∃ r : List S53 × Int × List Int, Ev (fun k => spec_DrawMoveCloud.l0 k cl out n c a s) r ∧ r.1 = cl ∧ r.2.2.length = out.length + d := by
  intro d
  induction d with
  | zero =>
    intro n a s out hn hn' ho h0 h1
    obtain ⟨x, a1, s1, e1, x0, x1, _, p1, q1⟩ := pick_ok hc hl 21 a s h0 (by omega)
    obtain ⟨b, a2, s2, e2, p2, q2⟩ := one_ok hc hl 12 a1 s1 (by omega) (by omega)
    cases b with
    | true =>
      obtain ⟨z, a3, s3, e3, m3, p3, q3⟩ := among_ok hc hl [1000000, -1000000, 1000001, 999980] (by decide) (by decide) a2 s2 (by omega) (by omega)
      refine ⟨(cl, z, out), G.succ ?_, rfl, rfl⟩
      simp only [spec_DrawMoveCloud.l0]
      exact G.neg (by omega) (G.bind0 e1 (G.bind0 e2 (G.pos rfl (G.bind0 e3 (G.now fun _ => rfl)))))
    | false =>
      refine ⟨(cl, wrap64 (x - 10), out), G.succ ?_, rfl, rfl⟩
      simp only [spec_DrawMoveCloud.l0]
      exact G.neg (by omega) (G.bind0 e1 (G.bind0 e2 (G.neg (by simp) (G.now fun _ => rfl))))
  | succ d ih =>
    intro n a s out hn hn' ho h0 h1
    obtain ⟨x, a1, s1, e1, x0, x1, _, p1, q1⟩ := pick_ok hc hl 7 a s h0 (by omega)
    obtain ⟨r, e, r1, r2⟩ := ih (n - 1) a1 s1 (out ++ [wrap64 (x - 3)]) (by omega) (by omega) (by simp; omega) (by omega) (by omega)
    refine ⟨r, G.succ ?_, r1, by simp at r2; omega⟩
    simp only [spec_DrawMoveCloud.l0, G.w64' (i := n - 1) (by omega) (by omega)]
    exact G.pos (by omega) (G.bind0 e1 (G.pos (by omega) e))
theorem draw_move {c : List Int} (hc : Bytes c) (hl : c.length ≤ 1048576) : ∃ r : List S53 × Int × List Int, Ev (fun k => spec_DrawMoveCloud.f k c) r ∧ r.1.length ≤ 61 ∧ r.2.2.length ≤ 61 := by
  obtain ⟨m, e1, m1, p1, q1⟩ := cloud_ok hc hl 0 0 (by omega) (by omega)
  obtain ⟨n, a2, s2, e2, n0, n1, _, p2, q2⟩ := pick_ok hc hl 6 m.2.1 m.2.2 (by omega) (by omega)
  obtain ⟨b, a3, s3, e3, p3, q3⟩ := one_ok hc hl 20 a2 s2 (by omega) (by omega)
  have := n1 (by omega)
  simp only [spec_DrawMoveCloud.f]
  cases b with
  | true =>
    obtain ⟨x, a4, s4, e4, x0, x1, _, p4, q4⟩ := pick_ok hc hl 3 a3 s3 (by omega) (by omega)
    have := x1 (by omega)
    have hw : wrap64 (59 + x) = 59 + x := G.w64' (by omega) (by omega)
    obtain ⟨r, e, r1, r2⟩ := coins_loop hc hl m.1 (59 + x).toNat (59 + x) a4 s4 [] rfl (by omega) (by simp; omega) (by omega) (by omega)
    refine ⟨r, G.bind e1 (G.bind0 e2 (G.bind0 e3 (G.pos rfl (G.bind0 e4 (G.succ ?_))))), by rw [r1]; omega, by simp at r2; omega⟩
    simp only [spec_DrawMoveCloud.j0, hw]; exact e
  | false =>
    obtain ⟨r, e, r1, r2⟩ := coins_loop hc hl m.1 n.toNat n a3 s3 [] rfl (by omega) (by simp; omega) (by omega) (by omega)
    refine ⟨r, G.bind e1 (G.bind0 e2 (G.bind0 e3 (G.neg (by simp) (G.succ ?_)))), by rw [r1]; omega, by simp at r2; omega⟩
    simp only [spec_DrawMoveCloud.j0]; exact e
theorem zIn_ev (l : List Int) (x : Int) (hl : l.length ≤ 1048576) (hx : x ∈ l) : Ev (fun k => laws_zIn.f k l x) true := by
  simp only [laws_zIn.f]
  obtain ⟨n, hn, rfl⟩ := List.mem_iff_getElem.1 hx
  have all : ∀ i, i ≤ l.length → i ≤ n → Ev (fun k => laws_zIn.l0 k l[n] l l.length (i : Int)) true := by
    refine G.down_ind l.length (fun i => i ≤ n → Ev (fun k => laws_zIn.l0 k l[n] l l.length (i : Int)) true) (fun h => by omega) ?_
    intro i hi ih hin
    refine G.succ ?_
    simp only [laws_zIn.l0, G.rd_nat hi, G.w64 i (by omega)]
    refine G.pos (by omega) (G.pos (by omega) (G.pos (by omega) (G.ite (fun _ => G.now fun _ => rfl) (fun hne => ih ?_))))
    rcases Nat.lt_or_ge i n with h | h
    · omega
    · obtain rfl : i = n := by omega
      exact absurd rfl hne
  exact all 0 (Nat.zero_le _) (Nat.zero_le _)
theorem zRising_ev (l : List Int) (hl : l.length ≤ 1048576) (hs : l.Pairwise (· < ·)) : Ev (fun k => laws_zRising.f k l) true := by
  simp only [laws_zRising.f]
  have all : ∀ i, i ≤ l.length + 1 → 1 ≤ i → Ev (fun k => laws_zRising.l0 k l (i : Int)) true := by
    refine G.down_ind (l.length + 1) (fun i => 1 ≤ i → Ev (fun k => laws_zRising.l0 k l (i : Int)) true) (fun _ => ?_) ?_
    · refine G.succ ?_
      simp only [laws_zRising.l0]; exact G.neg (by omega) (G.now fun _ => rfl)
    · intro i hi ih h1
      obtain ⟨m, rfl⟩ : ∃ m, i = m + 1 := ⟨i - 1, by omega⟩
      refine G.succ ?_
      simp only [laws_zRising.l0, pred64 m (by omega)]
      refine G.ite (fun hlt => ?_) (fun _ => G.now fun _ => rfl)
      have hm : m + 1 < l.length := by omega
      have hlt2 := List.pairwise_iff_getElem.1 hs m (m + 1) (by omega) hm (by omega)
      rw [G.rd_nat hm, G.rd_nat (show m < l.length by omega), G.w64 (m + 1) (by omega)]
      exact G.pos (by omega) (G.pos (by omega) (G.pos (by omega) (G.neg (by omega) (ih (by omega)))))
  exact all 1 (by omega) (by omega)
theorem far_of {w h : Nat} {l : List Int} {way : Int} (hw : 1 ≤ w) (hw' : w ≤ 16) (hh : 1 ≤ h) (hh' : h ≤ 16) (hl : l.length = w * h) (hy : 0 ≤ way) (hy' : way ≤ 3) (hg : Ev (fun k => impl_GoodCells.f k w l) true) {q : Nat} (hq : q < l.length) (hz : l[q] = 0) :
    Ev (fun k => impl_FarOf.f k w l q way) ((far w h l way q : Nat) : Int) := by
  have hf : impl_Cells_free.f (w : Int) l (q : Int) = some true := by rw [free_nat _ hq, hz]; rfl
  simp only [impl_FarOf.f]
  exact G.bind hg (G.pos rfl (G.bind0 hf (G.pos rfl (G.neg (by omega) (G.neg (by omega) (G.bind (impl_far_ev hw hw' hh hh' hl hy hy' (by omega)) (G.now fun _ => rfl)))))))
/-- What the moved cloud is held against. -/
theorem cloud_end {c : List Int} (hc : Bytes c) (hl : c.length ≤ 1048576) : Ev (fun k => laws_FnSteps.j3 k c) true := by
  obtain ⟨⟨cl, by_, co⟩, e1, hcl, hco⟩ := draw_move hc hl
  simp only at hcl hco
  obtain ⟨⟨y, is⟩, h1, h2, h3, h4⟩ := move_is cl by_ co (by omega)
  simp only at h3 h4
  refine G.succ ?_
  simp only [laws_FnSteps.j3]
  refine G.bind e1 (G.bind h2 (G.bind h1 (G.neg (by simp) ?_)))
  have loop : (is = true → Moved by_ co cl y cl.length) → ∀ i, i ≤ y.length → Ev (fun k => laws_FnSteps.l2 k cl by_ co y is y.length (i : Int)) true := by
    intro hm
    refine G.down_ind y.length _ ?_ ?_
    · refine G.succ ?_
      simp only [laws_FnSteps.l2]; exact G.neg (by omega) (G.now fun _ => rfl)
    · intro i hi ih
      refine G.succ ?_
      simp only [laws_FnSteps.l2, G.w64 i (by omega)]
      refine G.pos (by omega) ?_
      have same : is = true → ∃ hi' : i < cl.length, y[i] = mv by_ co cl[i] i := by
        intro his
        obtain ⟨m1, m2⟩ := hm his
        exact ⟨by omega, m2 i hi (by omega)⟩
      by_cases h0 : (co.length : Int) > 0
      · have e : Int.tmod (i : Int) (co.length : Int) = ((i % co.length : Nat) : Int) := by rw [Int.tmod_eq_emod_of_nonneg (by omega)]; omega
        have hlt : i % co.length < co.length := Nat.mod_lt _ (by omega)
        simp only [e]
        refine G.pos h0 (G.neg (by omega) (G.pos (by omega) (G.pos (by omega) (G.ite (fun his => ?_) (fun _ => ih)))))
        obtain ⟨hi', hy⟩ := same his
        rw [rdT53 hi, rdT53 hi', hy]
        have hmv : mv by_ co cl[i] i = ⟨wrap64 (wrap64 (cl[i].f0 + by_) + rd co ((i % co.length : Nat) : Int)), cl[i].f1⟩ := if_pos (by omega)
        rw [hmv]
        exact G.pos (by omega) (G.pos (by omega) (G.pos (by omega) (G.pos rfl (G.pos rfl ih))))
      · refine G.neg h0 (G.ite (fun his => ?_) (fun _ => ih))
        obtain ⟨hi', hy⟩ := same his
        rw [rdT53 hi, rdT53 hi', hy]
        have hmv : mv by_ co cl[i] i = ⟨wrap64 (cl[i].f0 + by_), cl[i].f1⟩ := if_neg (by omega)
        have hww : wrap64 (wrap64 (cl[i].f0 + by_)) = wrap64 (cl[i].f0 + by_) := by unfold wrap64; omega
        rw [hmv, hww]
        exact G.pos (by omega) (G.pos (by omega) (G.pos (by omega) (G.pos rfl (G.pos rfl ih))))
  cases is with
  | true =>
    have hm := h4 rfl
    refine G.pos rfl (G.succ ?_)
    simp only [laws_FnSteps.j4]
    exact G.neg (by simp [hm.1]) (loop h4 0 (Nat.zero_le _))
  | false =>
    refine G.neg (by simp) (G.succ ?_)
    simp only [laws_FnSteps.j4]
    exact G.neg (by simp) (loop h4 0 (Nat.zero_le _))
theorem FnSteps : laws_FnSteps.Pure := by
  intro c d hm hreach hb hm2 hreach2 hb2
  refine Ev.rounds ?_
  have byt : ∀ c : List Int, (∀ x ∈ c, (Lit.int .u8 x).wf = true) → Bytes c := fun c hb b hx => by have := hb b hx; simp [Lit.wf, IntKind.min, IntKind.max, IntKind.signed, IntKind.bits] at this; omega
  have jt : Ev (fun k => laws_FnSteps.j0 k c d true) true := G.succ (G.now fun k => by simp [laws_FnSteps.j0])
  simp only [laws_FnSteps.f]
  refine G.ite (fun _ => jt) (fun hl => ?_)
  by_cases hl2 : (d.length : Int) > 1048576
  · rw [decide_eq_true hl2]; exact jt
  · rw [decide_eq_false hl2]
    have he := cloud_end (byt d hb2) (by omega)
    obtain ⟨⟨a, l, p, way⟩, e1, hll, hpl⟩ := draw_step (byt c hb) (by omega)
    simp only at hll hpl
    refine G.succ ?_
    simp only [laws_FnSteps.j0]
    refine G.neg (by simp) (G.bind e1 ?_)
    obtain ⟨g, g1, g2, g3, _⟩ := places_both a l p way (by omega) (by omega)
    by_cases hok : g = true ∧ 0 ≤ way ∧ way ≤ 3
    · obtain ⟨rfl, hy, hy'⟩ := hok
      obtain ⟨hr, hg, w, h, rfl, hw, hw', hh, hh', hlen⟩ := g3 rfl
      rw [decide_eq_true (show 0 ≤ way ∧ way ≤ 3 from ⟨hy, hy'⟩)] at g2
      obtain ⟨s1, s2⟩ := step_yes hw hw' hh hh' hlen hy hy' (by omega) hr (by omega) g1 g2
      have hgi : Ev (fun k => impl_GoodCells.f k (w : Int) l) true := by
        obtain ⟨b, q1, q2, _⟩ := goodcells_ok (w : Int) l (by omega)
        rwa [ev_unique q1 hg] at q2
      refine G.bind s2 (G.bind s1 (G.neg (by simp) (G.pos (by trivial) (G.bind0 rfl (G.pos hy (G.pos (by simp; omega) ?_))))))
      have hx := stepL_le w h l way p
      have hxm : ∀ q ∈ p, ((Grid.step w h l way q.toNat : Nat) : Int) ∈ stepL w h l way p := by
        intro q hq
        obtain ⟨i, hi, rfl⟩ := List.mem_iff_getElem.1 hq
        obtain ⟨m, hm', ⟨hm1, hm2⟩, _⟩ := hr i (Nat.zero_le _) hi
        rw [hm', Int.toNat_natCast]
        refine mem_stepL.2 ⟨_, rfl, (step_free (by omega) hlen hm1 hm2).1, p[i], hq, by rw [hm', Int.toNat_natCast]⟩
      have hby : wrap64 (-(w : Int)) = -(w : Int) := G.wneg (by omega) (by omega)
      have tail : ∀ moved : List Int, moved.length ≤ 1000 → (∀ x ∈ stepL w h l way p, x ∈ moved) → ∀ i, i ≤ (stepL w h l way p).length → Ev (fun k => laws_FnSteps.l1 k d (stepL w h l way p) moved (stepL w h l way p) (stepL w h l way p).length (i : Int)) true := by
        intro moved hml hmem
        refine G.down_ind _ _ ?_ ?_
        · refine G.succ ?_
          simp only [laws_FnSteps.l1]
          exact G.neg (by omega) (G.bind (zRising_ev _ (by omega) (stepL_sorted _ _ _ _ _)) (G.pos rfl he))
        · intro i hi ih
          refine G.succ ?_
          simp only [laws_FnSteps.l1, G.rd_nat hi, G.w64 i (by omega)]
          exact G.pos (by omega) (G.pos (by omega) (G.pos (by omega) (G.bind (zIn_ev moved _ (by omega) (hmem _ (List.getElem_mem hi))) (G.pos rfl ih))))
      have loop : ∀ i, i ≤ p.length → ∀ moved : List Int, moved.length ≤ i → (∀ j (hj : j < p.length), j < i → ((Grid.step w h l way (p[j]).toNat : Nat) : Int) ∈ moved) →
          Ev (fun k => laws_FnSteps.l0 k d way (stepL w h l way p) (rd [1, (w : Int), -1, wrap64 (-(w : Int))] way) moved p p.length (i : Int) w l) true := by
        refine G.down_ind p.length _ ?_ ?_
        · intro moved hml hmem
          refine G.succ ?_
          simp only [laws_FnSteps.l0]
          refine G.neg (by omega) (tail moved (by omega) ?_ 0 (Nat.zero_le _))
          intro x hx
          obtain ⟨j, rfl, _, q, hq, rfl⟩ := mem_stepL.1 hx
          obtain ⟨i, hi, rfl⟩ := List.mem_iff_getElem.1 hq
          exact hmem i hi hi
        · intro i hi ih moved hml hmem
          obtain ⟨q, hq, ⟨hq1, hq2⟩, _⟩ := hr i (Nat.zero_le _) hi
          have hq3 : q < w * h := by omega
          have hfar := far_of hw hw' hh hh' hlen hy hy' hgi hq1 hq2
          have hin := hxm p[i] (List.getElem_mem hi)
          have next : ∀ x : Int, x = ((Grid.step w h l way q : Nat) : Int) → Ev (fun k => laws_FnSteps.l0 k d way (stepL w h l way p) (rd [1, (w : Int), -1, wrap64 (-(w : Int))] way) (moved ++ [x]) p p.length ((i + 1 : Nat) : Int) w l) true := by
            intro x hx
            refine ih _ (by simp; omega) ?_
            intro j hj hji
            by_cases h' : j < i
            · exact List.mem_append_left _ (hmem j hj h')
            · obtain rfl : j = i := by omega
              rw [hx, hq, Int.toNat_natCast]; simp
          rw [hq, Int.toNat_natCast] at hin
          refine G.succ ?_
          simp only [laws_FnSteps.l0, G.rd_nat hi, G.w64 i (by omega), hq]
          refine G.pos (by omega) (G.pos (by omega) (G.pos (by omega) (G.bind hfar ?_)))
          rcases hn : nxf w h l q way with _ | j
          · have hst : Grid.step w h l way q = q := by unfold Grid.step; rw [hn]; rfl
            rw [hst] at hin next
            rw [Grid.far_none hn]
            exact G.neg (by simp) (G.pos (by omega) (G.bind (zIn_ev _ _ (by omega) hin) (G.pos rfl (next _ rfl))))
          · have hst : Grid.step w h l way q = j := by unfold Grid.step; rw [hn]; rfl
            rw [hst] at hin next
            have hpos := (Grid.far_pos (l := l) (way := way) (show 0 < w by omega) hq3).2 ⟨j, hn⟩
            obtain ⟨hc1, _, hj⟩ := Grid.nxf_some hn
            have hjlt := Grid.to_lt (show 0 < w by omega) hq3 hc1
            rw [← hj] at hjlt
            have hprod : w * h ≤ 100000 := by omega
            have hsum : wrap64 ((q : Int) + rd [1, (w : Int), -1, wrap64 (-(w : Int))] way) = (j : Int) := by
              rw [hby]
              rcases Grid.to_coords (show 0 < w by omega) hq3 hc1 with ⟨rfl, _, _, h4⟩ | ⟨rfl, _, _, h4⟩ | ⟨rfl, _, _, h4⟩ | ⟨rfl, _, _, h4⟩ <;> rw [hj, h4] <;> simp only [rd, show (0 : Int).toNat = 0 from rfl, show (1 : Int).toNat = 1 from rfl, show (2 : Int).toNat = 2 from rfl, show (3 : Int).toNat = 3 from rfl, List.getD_cons_zero, List.getD_cons_succ] <;> exact G.w64' (by omega) (by omega)
            rw [hsum]
            exact G.pos (by omega) (G.pos (by omega) (G.bind (zIn_ev _ _ (by omega) hin) (G.pos rfl (next _ rfl))))
      exact loop 0 (Nat.zero_le _) [] (Nat.le_refl _) (fun j _ h => by omega)
    · obtain ⟨s1, s2⟩ := step_no hok g1 g2
      exact G.bind s2 (G.bind s1 (G.neg (by simp) (G.neg (by simp) he)))

end Go.Proofs.Ytffkkpdldjnkbaa.Pure
