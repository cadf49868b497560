/- For all arguments the printed law ExactPolyAt answers true: plain lists and numbers, no memory. Conditions: none beyond what the program's own guards ask. -/
import Derived.Test.YtfmplkjicdgfbaaRFnExactPolyAtx6
import Derived.Test.YtfmplkjicdgfbaaG
import Derived.Test.YtfmplkjicdgfbaaFlo
namespace Go.Proofs.Ytfmplkjicdgfbaa.Pure
open Go.RowKit Go.Proofs.Ytfmplkjicdgfbaa.PFnExactPolyAt Go.Proofs.YtfmplkjicdgfbaaW.PrintWords Go.Proofs.YtfmplkjicdgfbaaW.PrintLast
set_option linter.unusedVariables false
set_option linter.unusedSimpArgs false


open Go.Proofs.Ytfmplkjicdgfbaa.Flo in
theorem isNaN_f (a : Nat) : math_IsNaN.f a = some (isN a) := rfl
open Go.Proofs.Ytfmplkjicdgfbaa.Flo in
theorem isInf_f (a : Nat) (h : a < 18446744073709551616) : math_IsInf.f a 0 = some (F.order (rung a) 9218868437227405311 == some .gt) := by
  unfold math_IsInf.f math_Abs.f
  rw [if_pos rfl, Option.bind_some]
  exact congrArg (fun n => some (F.order n 9218868437227405311 == some .gt)) (abs_word a h)
open Go.Proofs.Ytfmplkjicdgfbaa.Flo in
theorem finite_f (a : Nat) (h : a < 18446744073709551616) : impl_finite.f a = some (fin a) := by
  unfold impl_finite.f
  rw [isNaN_f, Option.bind_some]
  cases hn : isN a
  · rw [if_neg (by decide), isInf_f a h, Option.bind_some]
    cases hf : fin a
    · rw [gt_inf hf hn]; rfl
    · rw [gt_fin hf]; rfl
  · cases hf : fin a
    · rfl
    · exact absurd ((isN_fin hf).symm.trans hn) (by decide)
open Go.Proofs.Ytfmplkjicdgfbaa.Flo in
theorem signbit_f (a : Nat) (h : a < 18446744073709551616) : math_Signbit.f a = some (decide (9223372036854775808 ≤ a)) := by
  unfold math_Signbit.f
  exact congrArg some (sign_word a h)
open Go.Proofs.Ytfmplkjicdgfbaa.Flo in
theorem good_tail (a : Nat) (h : a < 18446744073709551616) : (if (FloatKind.f64.format.order a (0 : Nat) == some Ordering.eq) = true then ((math_Signbit.f a).bind fun t => (some (!t))) else (some (!false))) = some (decide (plus a = a)) := by
  have e : (FloatKind.f64.format.order a (0 : Nat) == some Ordering.eq) = decide (rung a = 0) := order_zero a
  rw [e, signbit_f a h, Option.bind_some]
  unfold plus
  by_cases z : rung a = 0
  · rw [if_pos (decide_eq_true z), if_pos z]
    congr 1
    rw [Bool.eq_iff_iff]; unfold rung at z; simp; omega
  · rw [if_neg (by simpa using z), if_neg z]; simp
open Go.Proofs.Ytfmplkjicdgfbaa.Flo in
theorem iGood_f (a : Nat) (h : a < 18446744073709551616) : impl_GoodReal.f a = some (good a) := by
  unfold impl_GoodReal.f good
  rw [finite_f a h, Option.bind_some, good_tail a h]
  cases fin a <;> simp
open Go.Proofs.Ytfmplkjicdgfbaa.Flo in
theorem sGood_f (a : Nat) (h : a < 18446744073709551616) : spec_GoodReal.f a = some (good a) := by
  unfold spec_GoodReal.f good
  rw [isNaN_f, Option.bind_some, good_tail a h]
  cases hn : isN a
  · rw [if_neg (by decide), isInf_f a h, Option.bind_some]
    cases hf : fin a
    · rw [gt_inf hf hn]; rfl
    · rw [gt_fin hf]; simp
  · cases hf : fin a
    · rfl
    · exact absurd ((isN_fin hf).symm.trans hn) (by decide)
theorem f_lt {a : Nat} (h : (Lit.float .f64 a).wf = true) : a < 18446744073709551616 := by
  simp only [Lit.wf, decide_eq_true_eq] at h; exact h
open Go.Proofs.Ytfmplkjicdgfbaa.Flo in
theorem same_all (k r : Nat) (hr : r < 18446744073709551616) : laws_sameFloat.f (k + 1) r r = some true := by
  unfold laws_sameFloat.f
  cases e : (FloatKind.f64.format.order r r != some Ordering.eq)
  · rw [if_neg (by decide)]
    simp only [laws_sameFloat.j0]
    rw [if_neg (by decide)]
    have e' : FloatKind.f64.format.order r r = some Ordering.eq := by simpa using e
    have e0 : (FloatKind.f64.format.order r (0 : Nat) == some Ordering.eq) = decide (rung r = 0) := order_zero r
    rw [e0, e']
    by_cases z : rung r = 0
    · have : r = 0 ∨ r = 9223372036854775808 := by unfold rung at z; omega
      rcases this with rfl | rfl <;> decide +kernel
    · rw [if_neg (by simpa using z)]; rfl
  · simp only [laws_sameFloat.j0, e, if_true]
def wfl (l : List Nat) : Prop := ∀ x ∈ l, x < 18446744073709551616
theorem wfl_of {l : List Nat} (h : ∀ a ∈ l, (Lit.float .f64 a).wf = true) : wfl l := fun x hx => f_lt (h x hx)
theorem rdf {l : List Nat} {i : Nat} (h : i < l.length) : rdOf (0 : Nat) l (i : Int) = l[i] := G.getD_nat h
theorem eqF_refl {l : List Nat} (h : wfl l) (hl : l.length ≤ 1048576) : Ev (fun k => laws_eqFloat64S.f k l l) true := by
  show Ev (fun k => if (l.length : Int) = (l.length : Int) then laws_eqFloat64S.l0 k l l 0 else some false) true
  refine G.pos rfl (G.down_ind l.length (fun i => Ev (fun k => laws_eqFloat64S.l0 k l l (i : Int)) true) ?_ ?_ 0 (Nat.zero_le _))
  · refine G.succ ?_
    simp only [laws_eqFloat64S.l0]
    exact G.neg (by omega) (G.now fun _ => rfl)
  · intro i hi ih
    refine G.succ ?_
    simp only [laws_eqFloat64S.l0, G.w64 i (by omega), rdf hi]
    exact G.pos (by omega) (G.pos (by omega) (G.pos (by omega) (G.bind (G.succ (G.now fun k => same_all k _ (h _ (List.getElem_mem hi)))) (G.pos rfl ih))))
theorem toF_ev (l : List Nat) (hl : l.length ≤ 1048576) : Ev (fun k => laws_toFloat64S.f k l) l := by
  simp only [laws_toFloat64S.f]
  refine G.pos (by omega) (G.pos (by omega) ?_)
  have h := G.to_loop (fun k out i => laws_toFloat64S.l0 k l out i) l id ?_ ?_ 0 (Nat.zero_le _) (List.replicate l.length 0) (by simp) (by simp)
  · simpa using h
  · intro k out; simp only [laws_toFloat64S.l0]; rw [if_neg (by omega)]
  · intro k out i h ho
    simp only [laws_toFloat64S.l0]
    rw [if_pos (by omega), if_pos (by omega), if_pos (by omega), G.w64 _ (by omega), rdf h]
    simp
open Go.Proofs.Ytfmplkjicdgfbaa.Flo in
theorem sPoint (a b : Nat) (ha : a < 18446744073709551616) (hb : b < 18446744073709551616) : spec_l3GoodPoint.f a b = some (good a && good b) := by
  unfold spec_l3GoodPoint.f
  rw [sGood_f a ha, Option.bind_some]
  cases good a
  · rw [if_neg (by decide)]; rfl
  · rw [if_pos rfl, sGood_f b hb]; rfl
open Go.Proofs.Ytfmplkjicdgfbaa.Flo in
theorem iPoint (a b : Nat) (ha : a < 18446744073709551616) (hb : b < 18446744073709551616) : impl_goodPoint.f a b = some (good a && good b) := by
  unfold impl_goodPoint.f
  rw [iGood_f a ha, Option.bind_some]
  cases good a
  · rw [if_neg (by decide)]; rfl
  · rw [if_pos rfl, iGood_f b hb]; rfl
open Go.Proofs.Ytfmplkjicdgfbaa.Flo in
def Wd (X : Option Nat) : Prop := ∀ v, X = some v → v < 18446744073709551616
open Go.Proofs.Ytfmplkjicdgfbaa.Flo in
theorem opS_wd {op : BinOp} (ho : op = .add ∨ op = .sub ∨ op = .mul ∨ op = .quo) (X Y : Option Nat) : Wd (opS op X Y) := by
  intro v h
  cases X with
  | none => cases h
  | some x =>
    cases Y with
    | none => cases h
    | some y =>
      have h' : (floatBits op .f64 x y).bind al = some v := h
      obtain ⟨r, hr, hv⟩ := Option.bind_eq_some_iff.1 h'
      rw [← (al_eq_some hv).2]
      exact plus_lt (opb_lt ho hr)
open Go.Proofs.Ytfmplkjicdgfbaa.Flo in
theorem told_wd {X Y : Option Nat} (hX : Wd X) (hY : Wd Y) : (toldS X Y).1 < 18446744073709551616 ∧ (toldS X Y).2.1 < 18446744073709551616 := by
  cases X with
  | none => exact ⟨by simp only [toldS]; omega, by simp only [toldS]; omega⟩
  | some x =>
    cases Y with
    | none => exact ⟨by simp only [toldS]; omega, by simp only [toldS]; omega⟩
    | some y => exact ⟨hX x rfl, hY y rfl⟩
theorem eqPoint_refl (k a b : Nat) (ha : a < 18446744073709551616) (hb : b < 18446744073709551616) : laws_eqPoint.f (k + 1) a b a b = some true := by
  unfold laws_eqPoint.f
  rw [same_all k a ha, Option.bind_some, if_pos rfl, same_all k b hb]; rfl
theorem toPoint (a b : Nat) : laws_toPoint.f a b = some (a, b) := rfl
theorem dec_and {p q : Prop} [Decidable p] [Decidable q] (hp : p) (hq : q) (b : Bool) : (decide p && decide q && b) = b := by rw [decide_eq_true hp, decide_eq_true hq]; rfl
open Go.Proofs.Ytfmplkjicdgfbaa.Flo in
def polyOk (a : List Nat) : Bool := decide (1 ≤ a.length) && decide (a.length ≤ 11) && a.all good
open Go.Proofs.Ytfmplkjicdgfbaa.Flo in
theorem sPoly_ev {a : List Nat} (wa : wfl a) : Ev (fun k => spec_l3GoodReals.f k a) (polyOk a) := by
  unfold polyOk
  simp only [spec_l3GoodReals.f]
  by_cases h1 : 1 ≤ a.length
  · refine G.pos (by omega) ?_
    by_cases h2 : a.length ≤ 11
    · refine G.pos (by omega) ?_
      rw [dec_and h1 h2]
      refine G.bind (a := a.all good) ?_ (G.now fun _ => rfl)
      simp only [spec_l2Goods.f]
      refine G.neg (by omega) ?_
      have h := G.all_loop (F := fun k i => spec_l2Goods.l0 k a (a.length : Int) i) a good true ?_ ?_
      · rw [Bool.and_true] at h; exact h
      · intro k; simp only [spec_l2Goods.l0]; rw [if_neg (by omega)]
      · intro k i hi
        simp only [spec_l2Goods.l0, rdf hi, G.w64 i (by omega), sGood_f _ (wa _ (List.getElem_mem hi)), Option.bind_some]
        rw [if_pos (by omega), if_pos (by omega), if_pos (by omega)]
    · rw [decide_eq_false h2]
      exact G.neg (by omega) (G.now fun _ => by simp)
  · rw [decide_eq_false h1]
    exact G.neg (by omega) (G.now fun _ => by simp)
open Go.Proofs.Ytfmplkjicdgfbaa.Flo in
theorem iPoly_ev {a : List Nat} (wa : wfl a) : Ev (fun k => impl_goodPoly.f k a) (polyOk a) := by
  unfold polyOk
  simp only [impl_goodPoly.f]
  by_cases h1 : 1 ≤ a.length
  · refine G.pos (by omega) ?_
    by_cases h2 : a.length ≤ 11
    · refine G.pos (by omega) ?_
      rw [dec_and h1 h2]
      refine G.bind (a := a.all good) ?_ (G.now fun _ => rfl)
      simp only [impl_goodReals.f]
      have h := G.all_loop (F := fun k i => impl_goodReals.l0 k a a (a.length : Int) i) a good true ?_ ?_
      · rw [Bool.and_true] at h; exact h
      · intro k; simp only [impl_goodReals.l0]; rw [if_neg (by omega), decide_eq_true (by omega)]
      · intro k i hi
        simp only [impl_goodReals.l0, rdf hi, G.w64 i (by omega), iGood_f _ (wa _ (List.getElem_mem hi)), Option.bind_some]
        rw [if_pos (by omega), if_pos (by omega), if_pos (by omega)]
    · rw [decide_eq_false h2]
      exact G.neg (by omega) (G.now fun _ => by simp)
  · rw [decide_eq_false h1]
    exact G.neg (by omega) (G.now fun _ => by simp)
open Go.Proofs.Ytfmplkjicdgfbaa.Flo in
theorem horn_ev (l : List Nat) (hl : l.length ≤ 1048576) (A B : Option Nat) : ∀ (n : Nat), n ≤ l.length → ∀ (W0 W1 : Option Nat), Wd W0 → Wd W1 →
    ∃ X Y, Wd X ∧ Wd Y ∧ Ev (fun k => hornS k l ((n : Int) - 1) A B W0 W1) (X, Y)
  | 0, _, W0, W1, h0, h1 => ⟨W0, W1, h0, h1, G.succ (G.now fun k => by simp only [hornS]; rw [if_neg (by omega)])⟩
  | n + 1, hn, W0, W1, h0, h1 => by
    obtain ⟨X, Y, hX, hY, e⟩ := horn_ev l hl A B n (by omega) (opS .add (mRe W0 W1 A B) (al (rdOf (0 : Nat) l ((n : Nat) : Int)))) (mIm W0 W1 A B) (opS_wd (by simp) _ _) (opS_wd (by simp) _ _)
    refine ⟨X, Y, hX, hY, G.succ ?_⟩
    have e1 : ((n + 1 : Nat) : Int) - 1 = (n : Int) := by omega
    simp only [hornS, e1]
    refine G.pos (by omega) (G.pos (by omega) (G.pos (by omega) ?_))
    have e2 : Go.RowKit.wrap64 ((n : Int) - 1) = (n : Int) - 1 := G.w64' (by omega) (by omega)
    rw [e2]
    exact e
open Go.Proofs.Ytfmplkjicdgfbaa.Flo in
theorem poly_both {l : List Nat} (wl : wfl l) (hl : l.length ≤ 1048576) (a b : Nat) (ha : a < 18446744073709551616) (hb : b < 18446744073709551616) :
    ∃ t : Nat × Nat × Bool, Ev (fun k => spec_PolyAt.f k l a b) t ∧ Ev (fun k => impl_PolyAt.f k l a b) t ∧ t.1 < 18446744073709551616 ∧ t.2.1 < 18446744073709551616 := by
  have es := sPoly_ev wl
  have ei := iPoly_ev wl
  have bad : ∀ b' : Bool, b' = true → Ev (fun k => spec_PolyAt.j0 k l b' a b) (0, 0, false) ∧ Ev (fun k => impl_PolyAt.j0 k l b' a b) (0, 0, false) := by
    rintro _ rfl
    exact ⟨G.succ (G.now fun k => by simp [spec_PolyAt.j0]), G.succ (G.now fun k => by simp [impl_PolyAt.j0])⟩
  simp only [spec_PolyAt.f, impl_PolyAt.f]
  cases hp : polyOk l
  · rw [hp] at es ei
    exact ⟨(0, 0, false), G.bind es (G.neg (by simp) (bad _ rfl).1), G.bind ei (G.neg (by simp) (bad _ rfl).2), by simp, by simp⟩
  · rw [hp] at es ei
    have sp := sPoint a b ha hb
    have ip := iPoint a b ha hb
    cases hg : good a && good b
    · rw [hg] at sp ip
      exact ⟨(0, 0, false), G.bind es (G.pos rfl (G.bind0 sp (bad _ rfl).1)), G.bind ei (G.pos rfl (G.bind0 ip (bad _ rfl).2)), by simp, by simp⟩
    · rw [hg] at sp ip
      have z : Wd (some 0) := by intro v h; cases h; omega
      obtain ⟨X, Y, hX, hY, e⟩ := horn_ev l hl (al a) (al b) l.length (Nat.le_refl _) (some 0) (some 0) z z
      have e2 : Go.RowKit.wrap64 ((l.length : Int) - 1) = (l.length : Int) - 1 := G.w64' (by omega) (by omega)
      have ok : Ev (fun k => spec_PolyAt.j0 k l (!true) a b) (toldS X Y) ∧ Ev (fun k => impl_PolyAt.j0 k l (!true) a b) (toldS X Y) := by
        constructor
        · refine G.succ ?_
          simp only [spec_PolyAt.j0, e2]
          exact G.neg (by simp) (G.bind e (G.now fun _ => rfl))
        · refine G.succ ?_
          simp only [impl_PolyAt.j0, e2]
          exact G.neg (by simp) (G.bind e (G.now fun _ => rfl))
      have w := told_wd hX hY
      exact ⟨toldS X Y, G.bind es (G.pos rfl (G.bind0 sp ok.1)), G.bind ei (G.pos rfl (G.bind0 ip ok.2)), w.1, w.2⟩
theorem FnExactPolyAt (l : List Nat) (a b : Nat) (ok1 : l.length ≤ 9223372036854775807 ∧ ∀ x ∈ l, (Lit.float .f64 x).wf = true) (ok2 : (Lit.float .f64 a).wf = true ∧ (Lit.float .f64 b).wf = true) : ∃ k, laws_FnExactPolyAt.f k l a b = some true := by
  refine Ev.rounds ?_
  obtain ⟨ll, fl⟩ := ok1
  have wl := wfl_of fl
  simp only [laws_FnExactPolyAt.f]
  by_cases hl : (l.length : Int) > 1048576
  · exact G.pos hl (G.now fun _ => rfl)
  · refine G.neg hl ?_
    have hl' : l.length ≤ 1048576 := by omega
    obtain ⟨⟨t1, t2, t3⟩, e1, e2, w1, w2⟩ := poly_both wl hl' a b (f_lt ok2.1) (f_lt ok2.2)
    have t := toF_ev l hl'
    refine G.bind t (G.bind0 (toPoint a b) (G.bind e1 (G.bind t (G.bind0 (toPoint a b) (G.bind e2 (G.bind (G.succ (G.now fun k => eqPoint_refl k t1 t2 w1 w2)) (G.pos rfl ?_)))))))
    refine G.succ ?_
    simp only [laws_FnExactPolyAt.j0]
    exact G.neg (by simp) (G.bind t (G.bind (eqF_refl wl hl') (G.pos rfl (G.now fun _ => rfl))))

end Go.Proofs.Ytfmplkjicdgfbaa.Pure
