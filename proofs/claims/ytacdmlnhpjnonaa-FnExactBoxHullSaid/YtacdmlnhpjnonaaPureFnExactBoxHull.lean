/- For all arguments the printed law ExactBoxHull answers true: plain lists and numbers, no memory. Conditions: none beyond what the program's own guards ask. -/
import Derived.Test.YtacdmlnhpjnonaaRFnExactBoxHullx6
import Derived.Test.YtacdmlnhpjnonaaG
import Derived.Test.YtacdmlnhpjnonaaFlo
namespace Go.Proofs.Ytacdmlnhpjnonaa.Pure
open Go.RowKit Go.Proofs.Ytacdmlnhpjnonaa.PFnExactBoxHull Go.Proofs.YtacdmlnhpjnonaaW.PrintWords Go.Proofs.YtacdmlnhpjnonaaW.PrintLast
set_option linter.unusedVariables false
set_option linter.unusedSimpArgs false

theorem laws_szFloat64S_le (l : List Nat) (a : Int) (ha : 0 ≤ a) (ha' : a ≤ 1048576) (h : (l.length : Int) ≤ a) : laws_szFloat64S.f l a = some (a - l.length) := by
  unfold laws_szFloat64S.f
  rw [G.w64' (by omega) (by omega), if_neg (by omega)]
theorem laws_szFloat64S_gt (l : List Nat) (a : Int) (ha : 0 ≤ a) (ha' : a ≤ 1048576) (hm : l.length ≤ 9223372036854775807) (h : a < (l.length : Int)) : laws_szFloat64S.f l a = some (-1) := by
  unfold laws_szFloat64S.f
  rw [G.w64' (by omega) (by omega), if_pos (by omega)]

open Go.Proofs.Ytacdmlnhpjnonaa.Flo in
theorem isNaN_f (a : Nat) : math_IsNaN.f a = some (isN a) := rfl
open Go.Proofs.Ytacdmlnhpjnonaa.Flo in
theorem isInf_f (a : Nat) (h : a < 18446744073709551616) : math_IsInf.f a 0 = some (F.order (rung a) 9218868437227405311 == some .gt) := by
  unfold math_IsInf.f math_Abs.f
  rw [if_pos rfl, Option.bind_some]
  exact congrArg (fun n => some (F.order n 9218868437227405311 == some .gt)) (abs_word a h)
open Go.Proofs.Ytacdmlnhpjnonaa.Flo in
theorem finite_f (a : Nat) (h : a < 18446744073709551616) : impl_finite.f a = some (fin a) := by
  unfold impl_finite.f
  rw [isNaN_f, Option.bind_some]
  cases hn : isN a
  · rw [if_neg (by decide), isInf_f a h, Option.bind_some]
    cases hf : fin a
    · rw [gt_inf hf hn]; rfl
    · rw [gt_fin hf]; rfl
  · cases hf : fin a
    · rfl
    · exact absurd ((isN_fin hf).symm.trans hn) (by decide)
open Go.Proofs.Ytacdmlnhpjnonaa.Flo in
theorem signbit_f (a : Nat) (h : a < 18446744073709551616) : math_Signbit.f a = some (decide (9223372036854775808 ≤ a)) := by
  unfold math_Signbit.f
  exact congrArg some (sign_word a h)
open Go.Proofs.Ytacdmlnhpjnonaa.Flo in
theorem good_tail (a : Nat) (h : a < 18446744073709551616) : (if (FloatKind.f64.format.order a (0 : Nat) == some Ordering.eq) = true then ((math_Signbit.f a).bind fun t => (some (!t))) else (some (!false))) = some (decide (plus a = a)) := by
  have e : (FloatKind.f64.format.order a (0 : Nat) == some Ordering.eq) = decide (rung a = 0) := order_zero a
  rw [e, signbit_f a h, Option.bind_some]
  unfold plus
  by_cases z : rung a = 0
  · rw [if_pos (decide_eq_true z), if_pos z]
    congr 1
    rw [Bool.eq_iff_iff]; unfold rung at z; simp; omega
  · rw [if_neg (by simpa using z), if_neg z]; simp
open Go.Proofs.Ytacdmlnhpjnonaa.Flo in
theorem iGood_f (a : Nat) (h : a < 18446744073709551616) : impl_GoodReal.f a = some (good a) := by
  unfold impl_GoodReal.f good
  rw [finite_f a h, Option.bind_some, good_tail a h]
  cases fin a <;> simp
open Go.Proofs.Ytacdmlnhpjnonaa.Flo in
theorem sGood_f (a : Nat) (h : a < 18446744073709551616) : spec_GoodReal.f a = some (good a) := by
  unfold spec_GoodReal.f good
  rw [isNaN_f, Option.bind_some, good_tail a h]
  cases hn : isN a
  · rw [if_neg (by decide), isInf_f a h, Option.bind_some]
    cases hf : fin a
    · rw [gt_inf hf hn]; rfl
    · rw [gt_fin hf]; simp
  · cases hf : fin a
    · rfl
    · exact absurd ((isN_fin hf).symm.trans hn) (by decide)
theorem f_lt {a : Nat} (h : (Lit.float .f64 a).wf = true) : a < 18446744073709551616 := by
  simp only [Lit.wf, decide_eq_true_eq] at h; exact h
def wfl (l : List Nat) : Prop := ∀ x ∈ l, x < 18446744073709551616
theorem wfl_of {l : List Nat} (h : ∀ a ∈ l, (Lit.float .f64 a).wf = true) : wfl l := fun x hx => f_lt (h x hx)
theorem rdf {l : List Nat} {i : Nat} (h : i < l.length) : rdOf (0 : Nat) l (i : Int) = l[i] := G.getD_nat h
open Go.Proofs.Ytacdmlnhpjnonaa.Flo in
theorem same_all (k r : Nat) (hr : r < 18446744073709551616) : laws_sameFloat.f (k + 1) r r = some true := by
  unfold laws_sameFloat.f
  cases e : (FloatKind.f64.format.order r r != some Ordering.eq)
  · rw [if_neg (by decide)]
    simp only [laws_sameFloat.j0]
    rw [if_neg (by decide)]
    have e' : FloatKind.f64.format.order r r = some Ordering.eq := by simpa using e
    have e0 : (FloatKind.f64.format.order r (0 : Nat) == some Ordering.eq) = decide (rung r = 0) := order_zero r
    rw [e0, e']
    by_cases z : rung r = 0
    · have : r = 0 ∨ r = 9223372036854775808 := by unfold rung at z; omega
      rcases this with rfl | rfl <;> decide +kernel
    · rw [if_neg (by simpa using z)]; rfl
  · simp only [laws_sameFloat.j0, e, if_true]
theorem eqF_refl {l : List Nat} (h : wfl l) (hl : l.length ≤ 1048576) : Ev (fun k => laws_eqFloat64S.f k l l) true := by
  show Ev (fun k => if (l.length : Int) = (l.length : Int) then laws_eqFloat64S.l0 k l l 0 else some false) true
  refine G.pos rfl (G.down_ind l.length (fun i => Ev (fun k => laws_eqFloat64S.l0 k l l (i : Int)) true) ?_ ?_ 0 (Nat.zero_le _))
  · refine G.succ ?_
    simp only [laws_eqFloat64S.l0]
    exact G.neg (by omega) (G.now fun _ => rfl)
  · intro i hi ih
    refine G.succ ?_
    simp only [laws_eqFloat64S.l0, G.w64 i (by omega), rdf hi]
    exact G.pos (by omega) (G.pos (by omega) (G.pos (by omega) (G.bind (G.succ (G.now fun k => same_all k _ (h _ (List.getElem_mem hi)))) (G.pos rfl ih))))
theorem toF_ev (l : List Nat) (hl : l.length ≤ 1048576) : Ev (fun k => laws_toFloat64S.f k l) l := by
  simp only [laws_toFloat64S.f]
  refine G.pos (by omega) (G.pos (by omega) ?_)
  have h := G.to_loop (fun k out i => laws_toFloat64S.l0 k l out i) l id ?_ ?_ 0 (Nat.zero_le _) (List.replicate l.length 0) (by simp) (by simp)
  · simpa using h
  · intro k out; simp only [laws_toFloat64S.l0]; rw [if_neg (by omega)]
  · intro k out i h ho
    simp only [laws_toFloat64S.l0]
    rw [if_pos (by omega), if_pos (by omega), if_pos (by omega), G.w64 _ (by omega), rdf h]
    simp
theorem toBox_ev (a b : List Nat) (ha : a.length ≤ 1048576) (hb : b.length ≤ 1048576) : Ev (fun k => laws_toBox.f k a b) (a, b) := by
  simp only [laws_toBox.f]
  exact G.bind (toF_ev a ha) (G.bind (toF_ev b hb) (G.now fun _ => rfl))
theorem eqBox_ev {a b : List Nat} (wa : wfl a) (wb : wfl b) (ha : a.length ≤ 1048576) (hb : b.length ≤ 1048576) : Ev (fun k => laws_eqBox.f k a b a b) true := by
  simp only [laws_eqBox.f]
  exact G.bind (eqF_refl wa ha) (G.pos rfl (G.bind (eqF_refl wb hb) (G.pos rfl (G.now fun _ => rfl))))
theorem szBox_cases (a b : List Nat) (m : Int) (h0 : 0 ≤ m) (h1 : m ≤ 1048576) (la : a.length ≤ 9223372036854775807) (lb : b.length ≤ 9223372036854775807) :
    laws_szBox.f a b m = some (-1) ∨ ∃ r, laws_szBox.f a b m = some r ∧ 0 ≤ r ∧ r ≤ m ∧ a.length ≤ 1048576 ∧ b.length ≤ 1048576 := by
  have s : ∀ (l : List Nat) (m : Int), 0 ≤ m → m ≤ 1048576 → l.length ≤ 9223372036854775807 → laws_szFloat64S.f l m = some (if m - (l.length : Int) < 0 then -1 else m - (l.length : Int)) := by
    intro l m h0 h1 hl
    unfold laws_szFloat64S.f
    rw [G.w64' (by omega) (by omega)]
    split <;> rfl
  unfold laws_szBox.f
  rw [s a m h0 h1 la, Option.bind_some]
  by_cases c : m - (a.length : Int) < 0
  · rw [if_pos c, if_pos (by omega)]; exact Or.inl rfl
  · rw [if_neg c, if_neg c, s b _ (by omega) (by omega) lb, Option.bind_some]
    by_cases c' : m - (a.length : Int) - (b.length : Int) < 0
    · rw [if_pos c', if_pos (by omega)]; exact Or.inl rfl
    · rw [if_neg c', if_neg c']; exact Or.inr ⟨_, rfl, by omega, by omega, by omega, by omega⟩
def gtb (x y : Nat) : Bool := FloatKind.f64.format.order x y == some Ordering.gt
def shapeOk (a b : List Nat) : Prop := 1 ≤ a.length ∧ a.length ≤ 3 ∧ b.length = a.length
open Go.Proofs.Ytacdmlnhpjnonaa.Flo in
def rowsOk (a b : List Nat) : Bool := (List.range a.length).all fun i => good (a.getD i 0) && good (b.getD i 0) && !gtb (a.getD i 0) (b.getD i 0)
theorem gd {l : List Nat} {i : Nat} (h : i < l.length) : l.getD i 0 = l[i] := by simp [List.getD_eq_getElem?_getD, h]
open Go.Proofs.Ytacdmlnhpjnonaa.Flo in
theorem sBox_loop {a b : List Nat} (wa : wfl a) (wb : wfl b) (hs : shapeOk a b) : Ev (fun k => spec_GoodBox.l0 k (a.length : Int) 0 a b) (rowsOk a b) := by
  obtain ⟨h1, h2, h3⟩ := hs
  have h := G.all_loop (F := fun k i => spec_GoodBox.l0 k (a.length : Int) i a b) (List.range a.length) (fun i => good (a.getD i 0) && good (b.getD i 0) && !gtb (a.getD i 0) (b.getD i 0)) true ?_ ?_
  · rw [Bool.and_true] at h; exact h
  · intro k; simp only [spec_GoodBox.l0, List.length_range]; rw [if_neg (by omega)]
  · intro k i hi
    have hi2 : i < a.length := by simpa using hi
    have hi' : i < b.length := by omega
    have hg : (FloatKind.f64.format.order a[i] b[i] == some Ordering.gt) = gtb a[i] b[i] := rfl
    simp only [spec_GoodBox.l0, List.getElem_range, gd hi2, gd hi', rdf hi2, rdf hi', G.w64 i (by omega), sGood_f _ (wa _ (List.getElem_mem hi2)), sGood_f _ (wb _ (List.getElem_mem hi')), Option.bind_some, hg]
    simp only [show (i : Int) < (a.length : Int) from by omega, show (0 : Int) ≤ (i : Int) from by omega, show (i : Int) < (b.length : Int) from by omega, if_true]
    generalize good a[i] = x; generalize good b[i] = y; generalize gtb a[i] b[i] = z
    cases x <;> cases y <;> cases z <;> simp
open Go.Proofs.Ytacdmlnhpjnonaa.Flo in
theorem goods_ev {a : List Nat} (wa : wfl a) (h2 : a.length ≤ 3) : Ev (fun k => impl_goodReals.f k a) (a.all good) := by
  simp only [impl_goodReals.f]
  have h := G.all_loop (F := fun k i => impl_goodReals.l0 k a a (a.length : Int) i) a good true ?_ ?_
  · rw [Bool.and_true] at h; exact h
  · intro k; simp only [impl_goodReals.l0]; rw [if_neg (by omega), decide_eq_true (by omega)]
  · intro k i hi
    simp only [impl_goodReals.l0, rdf hi, G.w64 i (by omega), iGood_f _ (wa _ (List.getElem_mem hi)), Option.bind_some]
    rw [if_pos (by omega), if_pos (by omega), if_pos (by omega)]
theorem iBox_loop {a b : List Nat} (hs : shapeOk a b) : Ev (fun k => impl_GoodBox.l0 k (a.length : Int) 0 a b) ((List.range a.length).all fun i => !gtb (a.getD i 0) (b.getD i 0)) := by
  obtain ⟨h1, h2, h3⟩ := hs
  have h := G.all_loop (F := fun k i => impl_GoodBox.l0 k (a.length : Int) i a b) (List.range a.length) (fun i => !gtb (a.getD i 0) (b.getD i 0)) true ?_ ?_
  · rw [Bool.and_true] at h; exact h
  · intro k; simp only [impl_GoodBox.l0, List.length_range]; rw [if_neg (by omega)]
  · intro k i hi
    have hi2 : i < a.length := by simpa using hi
    have hi' : i < b.length := by omega
    have hg : (FloatKind.f64.format.order a[i] b[i] == some Ordering.gt) = gtb a[i] b[i] := rfl
    simp only [impl_GoodBox.l0, List.getElem_range, gd hi2, gd hi', rdf hi2, rdf hi', G.w64 i (by omega), hg]
    simp only [show (i : Int) < (a.length : Int) from by omega, show (0 : Int) ≤ (i : Int) from by omega, show (i : Int) < (b.length : Int) from by omega, if_true]
    generalize gtb a[i] b[i] = z
    cases z <;> simp
theorem range_all {l : List Nat} (p : Nat → Bool) : (List.range l.length).all (fun i => p (l.getD i 0)) = l.all p := by
  rw [Bool.eq_iff_iff, List.all_eq_true, List.all_eq_true]
  constructor
  · intro h x hx
    obtain ⟨i, hi, rfl⟩ := List.getElem_of_mem hx
    have := h i (List.mem_range.2 hi)
    rwa [gd hi] at this
  · intro h i hi
    have hi := List.mem_range.1 hi
    rw [gd hi]; exact h _ (List.getElem_mem hi)
open Go.Proofs.Ytacdmlnhpjnonaa.Flo in
theorem rows_split {a b : List Nat} (hl : b.length = a.length) : rowsOk a b = (a.all good && b.all good && (List.range a.length).all fun i => !gtb (a.getD i 0) (b.getD i 0)) := by
  rw [← range_all (l := a), ← range_all (l := b), hl]
  unfold rowsOk
  rw [Bool.eq_iff_iff]
  simp only [List.all_eq_true, Bool.and_eq_true]
  constructor
  · intro h; exact ⟨⟨fun i hi => (h i hi).1.1, fun i hi => (h i hi).1.2⟩, fun i hi => (h i hi).2⟩
  · intro h i hi; exact ⟨⟨h.1.1 i hi, h.1.2 i hi⟩, h.2 i hi⟩
open Go.Proofs.Ytacdmlnhpjnonaa.Flo in
theorem box_both {a b : List Nat} (wa : wfl a) (wb : wfl b) (lb : b.length ≤ 1048576) : ∃ r, Ev (fun k => spec_GoodBox.f k a b) r ∧ Ev (fun k => impl_GoodBox.f k a b) r ∧ (r = true → shapeOk a b ∧ rowsOk a b = true) := by
  simp only [spec_GoodBox.f, impl_GoodBox.f]
  have no : Ev (fun k => spec_GoodBox.j0 k true a b) false := G.succ (by simp only [spec_GoodBox.j0, if_true]; exact G.now fun _ => rfl)
  have no' : Ev (fun k => impl_GoodBox.j0 k true a b) false := G.succ (by simp only [impl_GoodBox.j0, if_true]; exact G.now fun _ => rfl)
  by_cases c1 : (a.length : Int) < 1
  · exact ⟨false, G.pos c1 no, G.pos c1 no', by simp⟩
  by_cases c2 : (a.length : Int) > 3
  · exact ⟨false, G.neg c1 (G.pos c2 no), G.neg c1 (G.pos c2 no'), by simp⟩
  by_cases c3 : (b.length : Int) = (a.length : Int)
  · have hs : shapeOk a b := ⟨by omega, by omega, by omega⟩
    have hc : ((b.length : Int) != (a.length : Int)) = false := by simp [c3]
    refine ⟨rowsOk a b, G.neg c1 (G.neg c2 ?_), G.neg c1 (G.neg c2 (G.pos c3 (G.bind (goods_ev wa hs.2.1) ?_))), fun h => ⟨hs, h⟩⟩
    · rw [hc]
      refine G.succ ?_
      simp only [spec_GoodBox.j0]
      exact G.neg (by simp) (sBox_loop wa wb hs)
    · rw [rows_split hs.2.2]
      cases a.all good with
      | false => exact G.neg (by simp) no'
      | true =>
        refine G.pos rfl (G.bind (goods_ev wb (by omega)) (G.succ ?_))
        simp only [impl_GoodBox.j0]
        cases b.all good with
        | false => exact G.pos rfl (G.now fun _ => rfl)
        | true => exact G.neg (by simp) (by simpa using iBox_loop hs)
  · have hc : ((b.length : Int) != (a.length : Int)) = true := by simp [c3]
    refine ⟨false, G.neg c1 (G.neg c2 (by rw [hc]; exact no)), G.neg c1 (G.neg c2 (G.neg c3 no')), by simp⟩
def ltb (x y : Nat) : Bool := FloatKind.f64.format.order x y == some Ordering.lt
theorem pair_both {a b c d : List Nat} (wa : wfl a) (wb : wfl b) (wc : wfl c) (wd : wfl d) (lb : b.length ≤ 1048576) (ld : d.length ≤ 1048576) : ∃ r, Ev (fun k => spec_l17Pair.f k a b c d) r ∧ Ev (fun k => impl_alike.f k a b c d) r ∧ (r = true → shapeOk a b ∧ rowsOk a b = true ∧ shapeOk c d ∧ rowsOk c d = true ∧ c.length = a.length) := by
  obtain ⟨r, e1, e2, h⟩ := box_both wa wb lb
  obtain ⟨s, g1, g2, h'⟩ := box_both wc wd ld
  simp only [spec_l17Pair.f, impl_alike.f]
  cases r with
  | false => exact ⟨false, G.bind e1 (G.neg (by simp) (G.now fun _ => rfl)), G.bind e2 (G.neg (by simp) (G.now fun _ => rfl)), by simp⟩
  | true =>
    cases s with
    | false => exact ⟨false, G.bind e1 (G.pos rfl (G.bind g1 (G.neg (by simp) (G.now fun _ => rfl)))), G.bind e2 (G.pos rfl (G.bind g2 (G.neg (by simp) (G.now fun _ => rfl)))), by simp⟩
    | true =>
      refine ⟨_, G.bind e1 (G.pos rfl (G.bind g1 (G.pos rfl (G.now fun _ => rfl)))), G.bind e2 (G.pos rfl (G.bind g2 (G.pos rfl (G.now fun _ => rfl)))), fun e => ?_⟩
      have : (a.length : Int) = (c.length : Int) := by simpa using e
      exact ⟨(h rfl).1, (h rfl).2, (h' rfl).1, (h' rfl).2, by omega⟩
def lowv (x y : Nat) : Nat := if ltb y x then y else x
def highv (x y : Nat) : Nat := if gtb y x then y else x
open Go.Proofs.Ytacdmlnhpjnonaa.Flo in
/-- The least and the greatest of two good words. -/
theorem mm_is {x y : Nat} (wx : x < 18446744073709551616) (wy : y < 18446744073709551616) (gx : good x = true) (gy : good y = true) : (FloatKind.f64.format.order x y).isSome = true ∧ fmin x y = lowv x y ∧ fmax x y = highv x y ∧ good (lowv x y) = true ∧ good (highv x y) = true ∧ lowv x y < 18446744073709551616 ∧ highv x y < 18446744073709551616 := by
  obtain ⟨fx, _⟩ := (good_iff wx).1 gx
  obtain ⟨fy, _⟩ := (good_iff wy).1 gy
  obtain ⟨c, h1, h2⟩ := order_two fx fy
  have e1 : FloatKind.f64.format.order x y = some c := h1
  have e2 : FloatKind.f64.format.order y x = some c.swap := h2
  have l1 : ltb y x = (c == .gt) := by unfold ltb; rw [e2]; cases c <;> rfl
  have l2 : gtb y x = (c == .lt) := by unfold gtb; rw [e2]; cases c <;> rfl
  refine ⟨by rw [e1]; rfl, ?_, ?_, ?_, ?_, ?_, ?_⟩
  · unfold fmin lowv; rw [e1, l1]
    cases c
    · rfl
    · have := order_eq_good wx wy gx gy e1
      subst this
      show (if _ then x else x) = if _ then x else x
      split <;> rfl
    · rfl
  · unfold fmax highv; rw [e1, l2]
    cases c
    · rfl
    · have := order_eq_good wx wy gx gy e1
      subst this
      show (if _ then x else x) = if _ then x else x
      split <;> rfl
    · rfl
  · unfold lowv; split <;> assumption
  · unfold highv; split <;> assumption
  · unfold lowv; split <;> assumption
  · unfold highv; split <;> assumption
open Go.Proofs.Ytacdmlnhpjnonaa.Flo in
theorem goods_at {a b : List Nat} (hl : b.length = a.length) (h : rowsOk a b = true) {i : Nat} (hi : i < a.length) : good a[i] = true ∧ good (b[i]'(by omega)) = true := by
  have := List.all_eq_true.1 h i (List.mem_range.2 hi)
  rw [gd hi, gd (show i < b.length by omega)] at this
  simp only [Bool.and_eq_true] at this
  exact this.1
def wfg (l : List Nat) : Prop := wfl l ∧ l.all Go.Proofs.Ytacdmlnhpjnonaa.Flo.good = true
theorem wfg_snoc {l : List Nat} {x : Nat} (h : wfg l) (w : x < 18446744073709551616) (g : Go.Proofs.Ytacdmlnhpjnonaa.Flo.good x = true) : wfg (l ++ [x]) := by
  refine ⟨fun y hy => ?_, by simp [List.all_append, h.2, g]⟩
  rcases List.mem_append.1 hy with hy | hy
  · exact h.1 y hy
  · simp at hy; rw [hy]; exact w
theorem wfg_nil : wfg [] := ⟨fun _ h => (by simp at h), rfl⟩
theorem hull_loop {a b c d : List Nat} (wa : wfl a) (wb : wfl b) (wc : wfl c) (wd : wfl d) (h2 : a.length ≤ 3) (hb : b.length = a.length) (hc : c.length = a.length) (hd : d.length = c.length) (r1 : rowsOk a b = true) (r2 : rowsOk c d = true) :
    ∀ i, i ≤ a.length → ∀ L H : List Nat, L.length = i → H.length = i → wfg L → wfg H → ∃ r : List Nat × List Nat × Bool, Ev (fun k => spec_BoxHull.l0 k a.length (i : Int) a b c d L H) r ∧ Ev (fun k => impl_BoxHull.l0 k a.length (i : Int) a b c d L H) r ∧ r.1.length ≤ 3 ∧ r.2.1.length ≤ 3 ∧ wfl r.1 ∧ wfl r.2.1 := by
  refine G.down_ind a.length (fun i => ∀ L H : List Nat, L.length = i → H.length = i → wfg L → wfg H → ∃ r : List Nat × List Nat × Bool, Ev (fun k => spec_BoxHull.l0 k a.length (i : Int) a b c d L H) r ∧ Ev (fun k => impl_BoxHull.l0 k a.length (i : Int) a b c d L H) r ∧ r.1.length ≤ 3 ∧ r.2.1.length ≤ 3 ∧ wfl r.1 ∧ wfl r.2.1) ?_ ?_
  · intro L H hL hH gL gH
    refine ⟨(L, H, true), G.succ ?_, G.succ ?_, by simp; omega, by simp; omega, gL.1, gH.1⟩
    · simp only [spec_BoxHull.l0]; exact G.neg (by omega) (G.now fun _ => rfl)
    · simp only [impl_BoxHull.l0]; exact G.neg (by omega) (G.now fun _ => rfl)
  · intro i hi ih L H hL hH gL gH
    have ib : i < b.length := by omega
    have ic : i < c.length := by omega
    have id' : i < d.length := by omega
    obtain ⟨g1, g2⟩ := goods_at hb r1 hi
    obtain ⟨g3, g4⟩ := goods_at hd r2 ic
    obtain ⟨s1, m1, _, q1, _, w1, _⟩ := mm_is (wa _ (List.getElem_mem hi)) (wc _ (List.getElem_mem ic)) g1 g3
    obtain ⟨s2, _, m2, _, q2, _, w2⟩ := mm_is (wb _ (List.getElem_mem ib)) (wd _ (List.getElem_mem id')) g2 g4
    obtain ⟨r, e1, e2, e3⟩ := ih (L ++ [lowv a[i] c[i]]) (H ++ [highv b[i] d[i]]) (by simp [hL]) (by simp [hH]) (wfg_snoc gL w1 q1) (wfg_snoc gH w2 q2)
    have hl : (FloatKind.f64.format.order c[i] a[i] == some Ordering.lt) = ltb c[i] a[i] := rfl
    have hg : (FloatKind.f64.format.order d[i] b[i] == some Ordering.gt) = gtb d[i] b[i] := rfl
    refine ⟨r, G.succ ?_, G.succ ?_, e3⟩
    · simp only [spec_BoxHull.l0, rdf hi, rdf ib, rdf ic, rdf id', G.w64 i (by omega), hl, hg]
      refine G.pos (by omega) (G.pos (by omega) (G.pos (by omega) (G.pos (by omega) ?_)))
      have hL' : L.length < 17592186044416 := by omega
      have hH' : H.length < 17592186044416 := by omega
      unfold lowv highv at e1
      refine G.ite (fun c1 => G.pos (by omega) (G.pos (by omega) (G.ite (fun c2 => G.pos hL' (G.pos hH' ?_)) (fun c2 => G.pos hL' (G.pos hH' ?_))))) (fun c1 => G.pos (by omega) (G.pos (by omega) (G.ite (fun c2 => G.pos hL' (G.pos hH' ?_)) (fun c2 => G.pos hL' (G.pos hH' ?_)))))
      · rw [if_pos c1, if_pos c2] at e1; exact e1
      · rw [if_pos c1, if_neg c2] at e1; exact e1
      · rw [if_neg c1, if_pos c2] at e1; exact e1
      · rw [if_neg c1, if_neg c2] at e1; exact e1
    · simp only [impl_BoxHull.l0, rdf hi, rdf ib, rdf ic, rdf id', G.w64 i (by omega), m1, m2]
      exact G.pos (by omega) (G.pos (by omega) (G.pos (by omega) (G.pos (by omega) (G.pos s1 (G.pos (by omega) (G.pos (by omega) (G.pos (by omega) (G.pos s2 (G.pos (by omega) e2)))))))))
theorem box_is {a b c d : List Nat} (wa : wfl a) (wb : wfl b) (wc : wfl c) (wd : wfl d) (lb : b.length ≤ 1048576) (ld : d.length ≤ 1048576) : ∃ r : List Nat × List Nat × Bool, Ev (fun k => spec_BoxHull.f k a b c d) r ∧ Ev (fun k => impl_BoxHull.f k a b c d) r ∧ r.1.length ≤ 3 ∧ r.2.1.length ≤ 3 ∧ wfl r.1 ∧ wfl r.2.1 := by
  obtain ⟨r, e1, e2, h⟩ := pair_both wa wb wc wd lb ld
  simp only [spec_BoxHull.f, impl_BoxHull.f]
  cases r with
  | false => exact ⟨([], [], false), G.bind e1 (G.neg (by simp) (G.now fun _ => rfl)), G.bind e2 (G.neg (by simp) (G.now fun _ => rfl)), by simp, by simp, wfg_nil.1, wfg_nil.1⟩
  | true =>
    obtain ⟨h1, r1, h2, r2, h3⟩ := h rfl
    obtain ⟨r, g1, g2, g3⟩ := hull_loop wa wb wc wd h1.2.1 h1.2.2 h3 h2.2.2 r1 r2 0 (Nat.zero_le _) [] [] rfl rfl wfg_nil wfg_nil
    exact ⟨r, G.bind e1 (G.pos rfl g1), G.bind e2 (G.pos rfl g2), g3⟩
theorem markF_ev (l : List Nat) (m : Int) (h0 : 0 ≤ m) (h1 : m ≤ 4194304) (hl : l.length ≤ 1048576) : Ev (fun k => laws_markFloat64S.f k l m) (m + l.length, G.marks (floatOfInt .f64) m 1 l.length) := by
  simp only [laws_markFloat64S.f]
  have h := G.mark_loop (floatOfInt .f64) m 1 l.length (fun k l m i => laws_markFloat64S.l0 k l m i) ?_ ?_ l rfl
  · simpa using h
  · intro k l' m hl'; simp only [laws_markFloat64S.l0]; rw [if_neg (by omega)]
  · intro k l' i h hl'
    simp only [laws_markFloat64S.l0]
    rw [if_pos (by omega), if_pos (by omega), G.w64 _ (by omega), G.w64' (by omega) (by omega)]
    simp only [Int.toNat_natCast]
    congr 1
    omega
theorem own_order (n : Int) (h0 : 1 ≤ n) (h1 : n ≤ 8) : (FloatKind.f64.format.order (floatOfInt .f64 n) (floatOfInt .f64 n) != some Ordering.eq) = false := by
  rcases (show n = 1 ∨ n = 2 ∨ n = 3 ∨ n = 4 ∨ n = 5 ∨ n = 6 ∨ n = 7 ∨ n = 8 by omega) with rfl | rfl | rfl | rfl | rfl | rfl | rfl | rfl <;> decide +kernel
theorem heldF_ev (m : Int) (n : Nat) (h0 : 1 ≤ m) (h1 : m + n ≤ 8) : Ev (fun k => laws_heldFloat64S.f k (G.marks (floatOfInt .f64) m 1 n) m) (m + n) := by
  simp only [laws_heldFloat64S.f]
  have h := G.held_loop m 1 n (fun k m' i => laws_heldFloat64S.l0 k (G.marks (floatOfInt .f64) m 1 n) m' i) ?_ ?_
  · simpa using h
  · intro k m'; simp only [laws_heldFloat64S.l0]; rw [if_neg (by rw [G.marks_length]; omega)]
  · intro k i h
    have hi : i < (G.marks (floatOfInt .f64) m 1 n).length := by rw [G.marks_length]; exact h
    have e := own_order (m + i * 1) (by omega) (by omega)
    simp only [laws_heldFloat64S.l0]
    rw [if_pos (by rw [G.marks_length]; omega), if_pos (by omega), rdf hi, G.marks_get, if_neg (by rw [show m + (i : Int) * ((1 : Nat) : Int) = m + i * 1 from by simp, e]; simp), G.w64 _ (by omega), G.w64' (by omega) (by omega)]
    congr 1
    omega
theorem markBox_ev (a b : List Nat) (m : Int) (h0 : 0 ≤ m) (h1 : m ≤ 3145728) (ha : a.length ≤ 1048576) (hb : b.length ≤ 1048576) : Ev (fun k => laws_markBox.f k a b m) (m + a.length + b.length, G.marks (floatOfInt .f64) m 1 a.length, G.marks (floatOfInt .f64) (m + a.length) 1 b.length) := by
  simp only [laws_markBox.f]
  exact G.bind (markF_ev a m h0 (by omega) ha) (G.bind (markF_ev b _ (by omega) (by omega) hb) (G.now fun _ => rfl))
theorem heldBox_ev (na nb : Nat) (ha : na ≤ 3) (hb : nb ≤ 3) : Ev (fun k => laws_heldBox.f k (G.marks (floatOfInt .f64) 1 1 na) (G.marks (floatOfInt .f64) (1 + na) 1 nb) 1) (1 + na + nb) := by
  simp only [laws_heldBox.f]
  exact G.bind (heldF_ev 1 na (by omega) (by omega)) (G.neg (by omega) (G.bind (heldF_ev (1 + na) nb (by omega) (by omega)) (G.neg (by omega) (G.now fun _ => rfl))))
theorem FnExactBoxHull (a b c d : List Nat) (ok : (a.length ≤ 9223372036854775807 ∧ ∀ x ∈ a, (Lit.float .f64 x).wf = true) ∧ (b.length ≤ 9223372036854775807 ∧ ∀ x ∈ b, (Lit.float .f64 x).wf = true)) (ok' : (c.length ≤ 9223372036854775807 ∧ ∀ x ∈ c, (Lit.float .f64 x).wf = true) ∧ (d.length ≤ 9223372036854775807 ∧ ∀ x ∈ d, (Lit.float .f64 x).wf = true)) : ∃ k, laws_FnExactBoxHull.f k a b c d = some true := by
  refine Ev.rounds ?_
  obtain ⟨⟨la, fa⟩, lb, fb⟩ := ok
  obtain ⟨⟨lc, fc⟩, ld, fd⟩ := ok'
  have wa := wfl_of fa
  have wb := wfl_of fb
  have wc := wfl_of fc
  have wd := wfl_of fd
  simp only [laws_FnExactBoxHull.f]
  rcases szBox_cases a b 1048576 (by omega) (by omega) la lb with h | ⟨r, h, h0, h1, ha, hb⟩
  · exact G.bind0 h (G.pos (by omega) (G.now fun _ => rfl))
  · refine G.bind0 h (G.neg (by omega) ?_)
    rcases szBox_cases c d r (by omega) (by omega) lc ld with g | ⟨q, g, g0, g1, hc, hd⟩
    · exact G.bind0 g (G.pos (by omega) (G.now fun _ => rfl))
    · obtain ⟨⟨o, o', s⟩, e1, e2, n1, n2, w1, w2⟩ := box_is wa wb wc wd hb hd
      have n1 : o.length ≤ 3 := n1
      have n2 : o'.length ≤ 3 := n2
      have w1 : wfl o := w1
      have w2 : wfl o' := w2
      have t := toBox_ev a b ha hb
      have t' := toBox_ev c d hc hd
      have eo := eqBox_ev w1 w2 (by omega) (by omega)
      have mo := markBox_ev o o' 1 (by omega) (by omega) (by omega) (by omega)
      have ho := heldBox_ev o.length o'.length n1 n2
      refine G.bind0 g (G.neg (by omega) (G.bind t (G.bind t' (G.bind e1 (G.bind t (G.bind t' (G.bind e2 (G.bind eo (G.pos rfl ?_)))))))))
      simp only [bne_self_eq_false]
      refine G.succ ?_
      simp only [laws_FnExactBoxHull.j0]
      refine G.neg (by simp) (G.bind t (G.bind (eqBox_ev wa wb ha hb) (G.pos rfl (G.bind t' (G.bind (eqBox_ev wc wd hc hd) (G.pos rfl (G.bind (markBox_ev a b 1 (by omega) (by omega) ha hb) (G.bind (markBox_ev c d (1 + a.length + b.length) (by omega) (by omega) hc hd) (G.neg (by dsimp only; omega) (G.bind eo (G.pos rfl ?_)))))))))))
      simp only [bne_self_eq_false]
      refine G.succ ?_
      simp only [laws_FnExactBoxHull.j1]
      refine G.neg (by simp) (G.bind mo (G.bind ho (G.neg (by omega) (G.pos rfl (G.bind t (G.bind t' (G.bind e2 (G.bind eo (G.pos rfl ?_)))))))))
      simp only [bne_self_eq_false]
      refine G.succ ?_
      simp only [laws_FnExactBoxHull.j2]
      exact G.neg (by simp) (G.bind ho (G.neg (by omega) (G.pos rfl (G.now fun _ => rfl))))

end Go.Proofs.Ytacdmlnhpjnonaa.Pure
