/- For all arguments the printed law ExactBoxWithin answers true: plain lists and numbers, no memory. Conditions: none beyond what the program's own guards ask. -/
import Derived.Test.YtencbddopcbmbaaRFnExactBoxWithinx4
import Derived.Test.YtencbddopcbmbaaG
import Derived.Test.YtencbddopcbmbaaFlo
namespace Go.Proofs.Ytencbddopcbmbaa.Pure
open Go.RowKit Go.Proofs.Ytencbddopcbmbaa.PFnExactBoxWithin Go.Proofs.YtencbddopcbmbaaW.PrintWords Go.Proofs.YtencbddopcbmbaaW.PrintLast
set_option linter.unusedVariables false
set_option linter.unusedSimpArgs false

theorem laws_szFloat64S_le (l : List Nat) (a : Int) (ha : 0 ≤ a) (ha' : a ≤ 1048576) (h : (l.length : Int) ≤ a) : laws_szFloat64S.f l a = some (a - l.length) := by
  unfold laws_szFloat64S.f
  rw [G.w64' (by omega) (by omega), if_neg (by omega)]
theorem laws_szFloat64S_gt (l : List Nat) (a : Int) (ha : 0 ≤ a) (ha' : a ≤ 1048576) (hm : l.length ≤ 9223372036854775807) (h : a < (l.length : Int)) : laws_szFloat64S.f l a = some (-1) := by
  unfold laws_szFloat64S.f
  rw [G.w64' (by omega) (by omega), if_pos (by omega)]

open Go.Proofs.Ytencbddopcbmbaa.Flo in
theorem isNaN_f (a : Nat) : math_IsNaN.f a = some (isN a) := rfl
open Go.Proofs.Ytencbddopcbmbaa.Flo in
theorem isInf_f (a : Nat) (h : a < 18446744073709551616) : math_IsInf.f a 0 = some (F.order (rung a) 9218868437227405311 == some .gt) := by
  unfold math_IsInf.f math_Abs.f
  rw [if_pos rfl, Option.bind_some]
  exact congrArg (fun n => some (F.order n 9218868437227405311 == some .gt)) (abs_word a h)
open Go.Proofs.Ytencbddopcbmbaa.Flo in
theorem finite_f (a : Nat) (h : a < 18446744073709551616) : impl_finite.f a = some (fin a) := by
  unfold impl_finite.f
  rw [isNaN_f, Option.bind_some]
  cases hn : isN a
  · rw [if_neg (by decide), isInf_f a h, Option.bind_some]
    cases hf : fin a
    · rw [gt_inf hf hn]; rfl
    · rw [gt_fin hf]; rfl
  · cases hf : fin a
    · rfl
    · exact absurd ((isN_fin hf).symm.trans hn) (by decide)
open Go.Proofs.Ytencbddopcbmbaa.Flo in
theorem signbit_f (a : Nat) (h : a < 18446744073709551616) : math_Signbit.f a = some (decide (9223372036854775808 ≤ a)) := by
  unfold math_Signbit.f
  exact congrArg some (sign_word a h)
open Go.Proofs.Ytencbddopcbmbaa.Flo in
theorem good_tail (a : Nat) (h : a < 18446744073709551616) : (if (FloatKind.f64.format.order a (0 : Nat) == some Ordering.eq) = true then ((math_Signbit.f a).bind fun t => (some (!t))) else (some (!false))) = some (decide (plus a = a)) := by
  have e : (FloatKind.f64.format.order a (0 : Nat) == some Ordering.eq) = decide (rung a = 0) := order_zero a
  rw [e, signbit_f a h, Option.bind_some]
  unfold plus
  by_cases z : rung a = 0
  · rw [if_pos (decide_eq_true z), if_pos z]
    congr 1
    rw [Bool.eq_iff_iff]; unfold rung at z; simp; omega
  · rw [if_neg (by simpa using z), if_neg z]; simp
open Go.Proofs.Ytencbddopcbmbaa.Flo in
theorem iGood_f (a : Nat) (h : a < 18446744073709551616) : impl_GoodReal.f a = some (good a) := by
  unfold impl_GoodReal.f good
  rw [finite_f a h, Option.bind_some, good_tail a h]
  cases fin a <;> simp
open Go.Proofs.Ytencbddopcbmbaa.Flo in
theorem sGood_f (a : Nat) (h : a < 18446744073709551616) : spec_GoodReal.f a = some (good a) := by
  unfold spec_GoodReal.f good
  rw [isNaN_f, Option.bind_some, good_tail a h]
  cases hn : isN a
  · rw [if_neg (by decide), isInf_f a h, Option.bind_some]
    cases hf : fin a
    · rw [gt_inf hf hn]; rfl
    · rw [gt_fin hf]; simp
  · cases hf : fin a
    · rfl
    · exact absurd ((isN_fin hf).symm.trans hn) (by decide)
theorem f_lt {a : Nat} (h : (Lit.float .f64 a).wf = true) : a < 18446744073709551616 := by
  simp only [Lit.wf, decide_eq_true_eq] at h; exact h
def wfl (l : List Nat) : Prop := ∀ x ∈ l, x < 18446744073709551616
theorem wfl_of {l : List Nat} (h : ∀ a ∈ l, (Lit.float .f64 a).wf = true) : wfl l := fun x hx => f_lt (h x hx)
theorem rdf {l : List Nat} {i : Nat} (h : i < l.length) : rdOf (0 : Nat) l (i : Int) = l[i] := G.getD_nat h
open Go.Proofs.Ytencbddopcbmbaa.Flo in
theorem same_all (k r : Nat) (hr : r < 18446744073709551616) : laws_sameFloat.f (k + 1) r r = some true := by
  unfold laws_sameFloat.f
  cases e : (FloatKind.f64.format.order r r != some Ordering.eq)
  · rw [if_neg (by decide)]
    simp only [laws_sameFloat.j0]
    rw [if_neg (by decide)]
    have e' : FloatKind.f64.format.order r r = some Ordering.eq := by simpa using e
    have e0 : (FloatKind.f64.format.order r (0 : Nat) == some Ordering.eq) = decide (rung r = 0) := order_zero r
    rw [e0, e']
    by_cases z : rung r = 0
    · have : r = 0 ∨ r = 9223372036854775808 := by unfold rung at z; omega
      rcases this with rfl | rfl <;> decide +kernel
    · rw [if_neg (by simpa using z)]; rfl
  · simp only [laws_sameFloat.j0, e, if_true]
theorem eqF_refl {l : List Nat} (h : wfl l) (hl : l.length ≤ 1048576) : Ev (fun k => laws_eqFloat64S.f k l l) true := by
  show Ev (fun k => if (l.length : Int) = (l.length : Int) then laws_eqFloat64S.l0 k l l 0 else some false) true
  refine G.pos rfl (G.down_ind l.length (fun i => Ev (fun k => laws_eqFloat64S.l0 k l l (i : Int)) true) ?_ ?_ 0 (Nat.zero_le _))
  · refine G.succ ?_
    simp only [laws_eqFloat64S.l0]
    exact G.neg (by omega) (G.now fun _ => rfl)
  · intro i hi ih
    refine G.succ ?_
    simp only [laws_eqFloat64S.l0, G.w64 i (by omega), rdf hi]
    exact G.pos (by omega) (G.pos (by omega) (G.pos (by omega) (G.bind (G.succ (G.now fun k => same_all k _ (h _ (List.getElem_mem hi)))) (G.pos rfl ih))))
theorem toF_ev (l : List Nat) (hl : l.length ≤ 1048576) : Ev (fun k => laws_toFloat64S.f k l) l := by
  simp only [laws_toFloat64S.f]
  refine G.pos (by omega) (G.pos (by omega) ?_)
  have h := G.to_loop (fun k out i => laws_toFloat64S.l0 k l out i) l id ?_ ?_ 0 (Nat.zero_le _) (List.replicate l.length 0) (by simp) (by simp)
  · simpa using h
  · intro k out; simp only [laws_toFloat64S.l0]; rw [if_neg (by omega)]
  · intro k out i h ho
    simp only [laws_toFloat64S.l0]
    rw [if_pos (by omega), if_pos (by omega), if_pos (by omega), G.w64 _ (by omega), rdf h]
    simp
theorem toBox_ev (a b : List Nat) (ha : a.length ≤ 1048576) (hb : b.length ≤ 1048576) : Ev (fun k => laws_toBox.f k a b) (a, b) := by
  simp only [laws_toBox.f]
  exact G.bind (toF_ev a ha) (G.bind (toF_ev b hb) (G.now fun _ => rfl))
theorem eqBox_ev {a b : List Nat} (wa : wfl a) (wb : wfl b) (ha : a.length ≤ 1048576) (hb : b.length ≤ 1048576) : Ev (fun k => laws_eqBox.f k a b a b) true := by
  simp only [laws_eqBox.f]
  exact G.bind (eqF_refl wa ha) (G.pos rfl (G.bind (eqF_refl wb hb) (G.pos rfl (G.now fun _ => rfl))))
theorem szBox_cases (a b : List Nat) (m : Int) (h0 : 0 ≤ m) (h1 : m ≤ 1048576) (la : a.length ≤ 9223372036854775807) (lb : b.length ≤ 9223372036854775807) :
    laws_szBox.f a b m = some (-1) ∨ ∃ r, laws_szBox.f a b m = some r ∧ 0 ≤ r ∧ r ≤ m ∧ a.length ≤ 1048576 ∧ b.length ≤ 1048576 := by
  have s : ∀ (l : List Nat) (m : Int), 0 ≤ m → m ≤ 1048576 → l.length ≤ 9223372036854775807 → laws_szFloat64S.f l m = some (if m - (l.length : Int) < 0 then -1 else m - (l.length : Int)) := by
    intro l m h0 h1 hl
    unfold laws_szFloat64S.f
    rw [G.w64' (by omega) (by omega)]
    split <;> rfl
  unfold laws_szBox.f
  rw [s a m h0 h1 la, Option.bind_some]
  by_cases c : m - (a.length : Int) < 0
  · rw [if_pos c, if_pos (by omega)]; exact Or.inl rfl
  · rw [if_neg c, if_neg c, s b _ (by omega) (by omega) lb, Option.bind_some]
    by_cases c' : m - (a.length : Int) - (b.length : Int) < 0
    · rw [if_pos c', if_pos (by omega)]; exact Or.inl rfl
    · rw [if_neg c', if_neg c']; exact Or.inr ⟨_, rfl, by omega, by omega, by omega, by omega⟩
def gtb (x y : Nat) : Bool := FloatKind.f64.format.order x y == some Ordering.gt
def shapeOk (a b : List Nat) : Prop := 1 ≤ a.length ∧ a.length ≤ 3 ∧ b.length = a.length
open Go.Proofs.Ytencbddopcbmbaa.Flo in
def rowsOk (a b : List Nat) : Bool := (List.range a.length).all fun i => good (a.getD i 0) && good (b.getD i 0) && !gtb (a.getD i 0) (b.getD i 0)
theorem gd {l : List Nat} {i : Nat} (h : i < l.length) : l.getD i 0 = l[i] := by simp [List.getD_eq_getElem?_getD, h]
open Go.Proofs.Ytencbddopcbmbaa.Flo in
theorem sBox_loop {a b : List Nat} (wa : wfl a) (wb : wfl b) (hs : shapeOk a b) : Ev (fun k => spec_GoodBox.l0 k (a.length : Int) 0 a b) (rowsOk a b) := by
  obtain ⟨h1, h2, h3⟩ := hs
  have h := G.all_loop (F := fun k i => spec_GoodBox.l0 k (a.length : Int) i a b) (List.range a.length) (fun i => good (a.getD i 0) && good (b.getD i 0) && !gtb (a.getD i 0) (b.getD i 0)) true ?_ ?_
  · rw [Bool.and_true] at h; exact h
  · intro k; simp only [spec_GoodBox.l0, List.length_range]; rw [if_neg (by omega)]
  · intro k i hi
    have hi2 : i < a.length := by simpa using hi
    have hi' : i < b.length := by omega
    have hg : (FloatKind.f64.format.order a[i] b[i] == some Ordering.gt) = gtb a[i] b[i] := rfl
    simp only [spec_GoodBox.l0, List.getElem_range, gd hi2, gd hi', rdf hi2, rdf hi', G.w64 i (by omega), sGood_f _ (wa _ (List.getElem_mem hi2)), sGood_f _ (wb _ (List.getElem_mem hi')), Option.bind_some, hg]
    simp only [show (i : Int) < (a.length : Int) from by omega, show (0 : Int) ≤ (i : Int) from by omega, show (i : Int) < (b.length : Int) from by omega, if_true]
    generalize good a[i] = x; generalize good b[i] = y; generalize gtb a[i] b[i] = z
    cases x <;> cases y <;> cases z <;> simp
open Go.Proofs.Ytencbddopcbmbaa.Flo in
theorem goods_ev {a : List Nat} (wa : wfl a) (h2 : a.length ≤ 3) : Ev (fun k => impl_goodReals.f k a) (a.all good) := by
  simp only [impl_goodReals.f]
  have h := G.all_loop (F := fun k i => impl_goodReals.l0 k a a (a.length : Int) i) a good true ?_ ?_
  · rw [Bool.and_true] at h; exact h
  · intro k; simp only [impl_goodReals.l0]; rw [if_neg (by omega), decide_eq_true (by omega)]
  · intro k i hi
    simp only [impl_goodReals.l0, rdf hi, G.w64 i (by omega), iGood_f _ (wa _ (List.getElem_mem hi)), Option.bind_some]
    rw [if_pos (by omega), if_pos (by omega), if_pos (by omega)]
theorem iBox_loop {a b : List Nat} (hs : shapeOk a b) : Ev (fun k => impl_GoodBox.l0 k (a.length : Int) 0 a b) ((List.range a.length).all fun i => !gtb (a.getD i 0) (b.getD i 0)) := by
  obtain ⟨h1, h2, h3⟩ := hs
  have h := G.all_loop (F := fun k i => impl_GoodBox.l0 k (a.length : Int) i a b) (List.range a.length) (fun i => !gtb (a.getD i 0) (b.getD i 0)) true ?_ ?_
  · rw [Bool.and_true] at h; exact h
  · intro k; simp only [impl_GoodBox.l0, List.length_range]; rw [if_neg (by omega)]
  · intro k i hi
    have hi2 : i < a.length := by simpa using hi
    have hi' : i < b.length := by omega
    have hg : (FloatKind.f64.format.order a[i] b[i] == some Ordering.gt) = gtb a[i] b[i] := rfl
    simp only [impl_GoodBox.l0, List.getElem_range, gd hi2, gd hi', rdf hi2, rdf hi', G.w64 i (by omega), hg]
    simp only [show (i : Int) < (a.length : Int) from by omega, show (0 : Int) ≤ (i : Int) from by omega, show (i : Int) < (b.length : Int) from by omega, if_true]
    generalize gtb a[i] b[i] = z
    cases z <;> simp
theorem range_all {l : List Nat} (p : Nat → Bool) : (List.range l.length).all (fun i => p (l.getD i 0)) = l.all p := by
  rw [Bool.eq_iff_iff, List.all_eq_true, List.all_eq_true]
  constructor
  · intro h x hx
    obtain ⟨i, hi, rfl⟩ := List.getElem_of_mem hx
    have := h i (List.mem_range.2 hi)
    rwa [gd hi] at this
  · intro h i hi
    have hi := List.mem_range.1 hi
    rw [gd hi]; exact h _ (List.getElem_mem hi)
open Go.Proofs.Ytencbddopcbmbaa.Flo in
theorem rows_split {a b : List Nat} (hl : b.length = a.length) : rowsOk a b = (a.all good && b.all good && (List.range a.length).all fun i => !gtb (a.getD i 0) (b.getD i 0)) := by
  rw [← range_all (l := a), ← range_all (l := b), hl]
  unfold rowsOk
  rw [Bool.eq_iff_iff]
  simp only [List.all_eq_true, Bool.and_eq_true]
  constructor
  · intro h; exact ⟨⟨fun i hi => (h i hi).1.1, fun i hi => (h i hi).1.2⟩, fun i hi => (h i hi).2⟩
  · intro h i hi; exact ⟨⟨h.1.1 i hi, h.1.2 i hi⟩, h.2 i hi⟩
open Go.Proofs.Ytencbddopcbmbaa.Flo in
theorem box_both {a b : List Nat} (wa : wfl a) (wb : wfl b) (lb : b.length ≤ 1048576) : ∃ r, Ev (fun k => spec_GoodBox.f k a b) r ∧ Ev (fun k => impl_GoodBox.f k a b) r ∧ (r = true → shapeOk a b ∧ rowsOk a b = true) := by
  simp only [spec_GoodBox.f, impl_GoodBox.f]
  have no : Ev (fun k => spec_GoodBox.j0 k true a b) false := G.succ (by simp only [spec_GoodBox.j0, if_true]; exact G.now fun _ => rfl)
  have no' : Ev (fun k => impl_GoodBox.j0 k true a b) false := G.succ (by simp only [impl_GoodBox.j0, if_true]; exact G.now fun _ => rfl)
  by_cases c1 : (a.length : Int) < 1
  · exact ⟨false, G.pos c1 no, G.pos c1 no', by simp⟩
  by_cases c2 : (a.length : Int) > 3
  · exact ⟨false, G.neg c1 (G.pos c2 no), G.neg c1 (G.pos c2 no'), by simp⟩
  by_cases c3 : (b.length : Int) = (a.length : Int)
  · have hs : shapeOk a b := ⟨by omega, by omega, by omega⟩
    have hc : ((b.length : Int) != (a.length : Int)) = false := by simp [c3]
    refine ⟨rowsOk a b, G.neg c1 (G.neg c2 ?_), G.neg c1 (G.neg c2 (G.pos c3 (G.bind (goods_ev wa hs.2.1) ?_))), fun h => ⟨hs, h⟩⟩
    · rw [hc]
      refine G.succ ?_
      simp only [spec_GoodBox.j0]
      exact G.neg (by simp) (sBox_loop wa wb hs)
    · rw [rows_split hs.2.2]
      cases a.all good with
      | false => exact G.neg (by simp) no'
      | true =>
        refine G.pos rfl (G.bind (goods_ev wb (by omega)) (G.succ ?_))
        simp only [impl_GoodBox.j0]
        cases b.all good with
        | false => exact G.pos rfl (G.now fun _ => rfl)
        | true => exact G.neg (by simp) (by simpa using iBox_loop hs)
  · have hc : ((b.length : Int) != (a.length : Int)) = true := by simp [c3]
    refine ⟨false, G.neg c1 (G.neg c2 (by rw [hc]; exact no)), G.neg c1 (G.neg c2 (G.neg c3 no')), by simp⟩
def ltb (x y : Nat) : Bool := FloatKind.f64.format.order x y == some Ordering.lt
def inside (a b c d : List Nat) : Bool := (List.range a.length).all fun i => !ltb (a.getD i 0) (c.getD i 0) && !gtb (b.getD i 0) (d.getD i 0)
theorem sWithin_loop {a b c d : List Nat} (h2 : a.length ≤ 3) (hb : b.length = a.length) (hc : c.length = a.length) (hd : d.length = a.length) : Ev (fun k => spec_l17Within.l0 k (a.length : Int) 0 a b c d) (inside a b c d) := by
  have h := G.all_loop (F := fun k i => spec_l17Within.l0 k (a.length : Int) i a b c d) (List.range a.length) (fun i => !ltb (a.getD i 0) (c.getD i 0) && !gtb (b.getD i 0) (d.getD i 0)) true ?_ ?_
  · rw [Bool.and_true] at h; exact h
  · intro k; simp only [spec_l17Within.l0, List.length_range]; rw [if_neg (by omega)]
  · intro k i hi
    have hi2 : i < a.length := by simpa using hi
    have ib : i < b.length := by omega
    have ic : i < c.length := by omega
    have id' : i < d.length := by omega
    have hg : (FloatKind.f64.format.order b[i] d[i] == some Ordering.gt) = gtb b[i] d[i] := rfl
    have hl : (FloatKind.f64.format.order a[i] c[i] == some Ordering.lt) = ltb a[i] c[i] := rfl
    simp only [spec_l17Within.l0, List.getElem_range, gd hi2, gd ib, gd ic, gd id', rdf hi2, rdf ib, rdf ic, rdf id', G.w64 i (by omega), hg, hl]
    simp only [show (i : Int) < (a.length : Int) from by omega, show (0 : Int) ≤ (i : Int) from by omega, show (i : Int) < (b.length : Int) from by omega, show (i : Int) < (c.length : Int) from by omega, show (i : Int) < (d.length : Int) from by omega, if_true]
    generalize gtb b[i] d[i] = z; generalize ltb a[i] c[i] = y
    cases z <;> cases y <;> simp
theorem iWithin_loop {a b c d : List Nat} (h2 : a.length ≤ 3) (hb : b.length = a.length) (hc : c.length = a.length) (hd : d.length = a.length) : Ev (fun k => impl_BoxWithin.l0 k (a.length : Int) 0 a b c d) (inside a b c d) := by
  have h := G.all_loop (F := fun k i => impl_BoxWithin.l0 k (a.length : Int) i a b c d) (List.range a.length) (fun i => !ltb (a.getD i 0) (c.getD i 0) && !gtb (b.getD i 0) (d.getD i 0)) true ?_ ?_
  · rw [Bool.and_true] at h; exact h
  · intro k; simp only [impl_BoxWithin.l0, List.length_range]; rw [if_neg (by omega)]
  · intro k i hi
    have hi2 : i < a.length := by simpa using hi
    have ib : i < b.length := by omega
    have ic : i < c.length := by omega
    have id' : i < d.length := by omega
    have hg : (FloatKind.f64.format.order b[i] d[i] == some Ordering.gt) = gtb b[i] d[i] := rfl
    have hl : (FloatKind.f64.format.order a[i] c[i] == some Ordering.lt) = ltb a[i] c[i] := rfl
    simp only [impl_BoxWithin.l0, List.getElem_range, gd hi2, gd ib, gd ic, gd id', rdf hi2, rdf ib, rdf ic, rdf id', G.w64 i (by omega), hg, hl]
    simp only [show (i : Int) < (a.length : Int) from by omega, show (0 : Int) ≤ (i : Int) from by omega, show (i : Int) < (b.length : Int) from by omega, show (i : Int) < (c.length : Int) from by omega, show (i : Int) < (d.length : Int) from by omega, if_true]
    generalize gtb b[i] d[i] = z; generalize ltb a[i] c[i] = y
    cases z <;> cases y <;> simp
theorem pair_both {a b c d : List Nat} (wa : wfl a) (wb : wfl b) (wc : wfl c) (wd : wfl d) (lb : b.length ≤ 1048576) (ld : d.length ≤ 1048576) : ∃ r, Ev (fun k => spec_l17Pair.f k a b c d) r ∧ Ev (fun k => impl_alike.f k a b c d) r ∧ (r = true → shapeOk a b ∧ rowsOk a b = true ∧ shapeOk c d ∧ rowsOk c d = true ∧ c.length = a.length) := by
  obtain ⟨r, e1, e2, h⟩ := box_both wa wb lb
  obtain ⟨s, g1, g2, h'⟩ := box_both wc wd ld
  simp only [spec_l17Pair.f, impl_alike.f]
  cases r with
  | false => exact ⟨false, G.bind e1 (G.neg (by simp) (G.now fun _ => rfl)), G.bind e2 (G.neg (by simp) (G.now fun _ => rfl)), by simp⟩
  | true =>
    cases s with
    | false => exact ⟨false, G.bind e1 (G.pos rfl (G.bind g1 (G.neg (by simp) (G.now fun _ => rfl)))), G.bind e2 (G.pos rfl (G.bind g2 (G.neg (by simp) (G.now fun _ => rfl)))), by simp⟩
    | true =>
      refine ⟨_, G.bind e1 (G.pos rfl (G.bind g1 (G.pos rfl (G.now fun _ => rfl)))), G.bind e2 (G.pos rfl (G.bind g2 (G.pos rfl (G.now fun _ => rfl)))), fun e => ?_⟩
      have : (a.length : Int) = (c.length : Int) := by simpa using e
      exact ⟨(h rfl).1, (h rfl).2, (h' rfl).1, (h' rfl).2, by omega⟩
theorem within_both {a b c d : List Nat} (wa : wfl a) (wb : wfl b) (wc : wfl c) (wd : wfl d) (lb : b.length ≤ 1048576) (ld : d.length ≤ 1048576) : ∃ r, Ev (fun k => spec_BoxWithin.f k a b c d) r ∧ Ev (fun k => impl_BoxWithin.f k a b c d) r := by
  obtain ⟨r, e1, e2, h⟩ := pair_both wa wb wc wd lb ld
  simp only [spec_BoxWithin.f, impl_BoxWithin.f]
  cases r with
  | false => exact ⟨false, G.bind e1 (G.neg (by simp) (G.now fun _ => rfl)), G.bind e2 (G.neg (by simp) (G.now fun _ => rfl))⟩
  | true =>
    obtain ⟨h1, _, h2, _, h3⟩ := h rfl
    have hs : Ev (fun k => spec_l17Within.f k a b c d) (inside a b c d) := by
      simp only [spec_l17Within.f]; exact sWithin_loop h1.2.1 h1.2.2 h3 (h2.2.2.trans h3)
    exact ⟨_, G.bind e1 (G.pos rfl (G.bind hs (G.now fun _ => rfl))), G.bind e2 (G.pos rfl (iWithin_loop h1.2.1 h1.2.2 h3 (h2.2.2.trans h3)))⟩
theorem FnExactBoxWithin (a b c d : List Nat) (ok : (a.length ≤ 9223372036854775807 ∧ ∀ x ∈ a, (Lit.float .f64 x).wf = true) ∧ (b.length ≤ 9223372036854775807 ∧ ∀ x ∈ b, (Lit.float .f64 x).wf = true)) (ok' : (c.length ≤ 9223372036854775807 ∧ ∀ x ∈ c, (Lit.float .f64 x).wf = true) ∧ (d.length ≤ 9223372036854775807 ∧ ∀ x ∈ d, (Lit.float .f64 x).wf = true)) : ∃ k, laws_FnExactBoxWithin.f k a b c d = some true := by
  refine Ev.rounds ?_
  obtain ⟨⟨la, fa⟩, lb, fb⟩ := ok
  obtain ⟨⟨lc, fc⟩, ld, fd⟩ := ok'
  have wa := wfl_of fa
  have wb := wfl_of fb
  have wc := wfl_of fc
  have wd := wfl_of fd
  simp only [laws_FnExactBoxWithin.f]
  rcases szBox_cases a b 1048576 (by omega) (by omega) la lb with h | ⟨r, h, h0, h1, ha, hb⟩
  · exact G.bind0 h (G.pos (by omega) (G.now fun _ => rfl))
  · refine G.bind0 h (G.neg (by omega) ?_)
    rcases szBox_cases c d r (by omega) (by omega) lc ld with g | ⟨q, g, g0, g1, hc, hd⟩
    · exact G.bind0 g (G.pos (by omega) (G.now fun _ => rfl))
    · obtain ⟨s, e1, e2⟩ := within_both wa wb wc wd hb hd
      have t := toBox_ev a b ha hb
      have t' := toBox_ev c d hc hd
      exact G.bind0 g (G.neg (by omega) (G.bind t (G.bind t' (G.bind e1 (G.bind t (G.bind t' (G.bind e2 (G.neg (by simp) (G.bind t (G.bind (eqBox_ev wa wb ha hb) (G.pos rfl (G.bind t' (G.bind (eqBox_ev wc wd hc hd) (G.pos rfl (G.now fun _ => rfl)))))))))))))))

end Go.Proofs.Ytencbddopcbmbaa.Pure
