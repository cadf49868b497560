/- For all arguments the printed law ExactRootsOf answers true: plain lists and numbers, no memory. Conditions: none beyond what the program's own guards ask. -/
import Derived.Test.YtlfejohlehkbgaaRFnExactRootsOfx13
import Derived.Test.YtlfejohlehkbgaaG
import Derived.Test.YtlfejohlehkbgaaFlo
namespace Go.Proofs.Ytlfejohlehkbgaa.Pure
open Go.RowKit Go.Proofs.Ytlfejohlehkbgaa.PFnExactRootsOf Go.Proofs.YtlfejohlehkbgaaW.PrintWords Go.Proofs.YtlfejohlehkbgaaW.PrintLast
set_option linter.unusedVariables false
set_option linter.unusedSimpArgs false


theorem rdT42 {l : List S42} {i : Nat} (h : i < l.length) : rd_T42 l (i : Int) = l[i] := by unfold rd_T42; exact G.getD_nat h
open Go.Proofs.Ytlfejohlehkbgaa.Flo in
theorem isNaN_f (a : Nat) : math_IsNaN.f a = some (isN a) := rfl
open Go.Proofs.Ytlfejohlehkbgaa.Flo in
theorem isInf_f (a : Nat) (h : a < 18446744073709551616) : math_IsInf.f a 0 = some (F.order (rung a) 9218868437227405311 == some .gt) := by
  unfold math_IsInf.f math_Abs.f
  rw [if_pos rfl, Option.bind_some]
  exact congrArg (fun n => some (F.order n 9218868437227405311 == some .gt)) (abs_word a h)
open Go.Proofs.Ytlfejohlehkbgaa.Flo in
theorem finite_f (a : Nat) (h : a < 18446744073709551616) : impl_finite.f a = some (fin a) := by
  unfold impl_finite.f
  rw [isNaN_f, Option.bind_some]
  cases hn : isN a
  · rw [if_neg (by decide), isInf_f a h, Option.bind_some]
    cases hf : fin a
    · rw [gt_inf hf hn]; rfl
    · rw [gt_fin hf]; rfl
  · cases hf : fin a
    · rfl
    · exact absurd ((isN_fin hf).symm.trans hn) (by decide)
open Go.Proofs.Ytlfejohlehkbgaa.Flo in
theorem signbit_f (a : Nat) (h : a < 18446744073709551616) : math_Signbit.f a = some (decide (9223372036854775808 ≤ a)) := by
  unfold math_Signbit.f
  exact congrArg some (sign_word a h)
open Go.Proofs.Ytlfejohlehkbgaa.Flo in
theorem good_tail (a : Nat) (h : a < 18446744073709551616) : (if (FloatKind.f64.format.order a (0 : Nat) == some Ordering.eq) = true then ((math_Signbit.f a).bind fun t => (some (!t))) else (some (!false))) = some (decide (plus a = a)) := by
  have e : (FloatKind.f64.format.order a (0 : Nat) == some Ordering.eq) = decide (rung a = 0) := order_zero a
  rw [e, signbit_f a h, Option.bind_some]
  unfold plus
  by_cases z : rung a = 0
  · rw [if_pos (decide_eq_true z), if_pos z]
    congr 1
    rw [Bool.eq_iff_iff]; unfold rung at z; simp; omega
  · rw [if_neg (by simpa using z), if_neg z]; simp
open Go.Proofs.Ytlfejohlehkbgaa.Flo in
theorem iGood_f (a : Nat) (h : a < 18446744073709551616) : impl_GoodReal.f a = some (good a) := by
  unfold impl_GoodReal.f good
  rw [finite_f a h, Option.bind_some, good_tail a h]
  cases fin a <;> simp
open Go.Proofs.Ytlfejohlehkbgaa.Flo in
theorem sGood_f (a : Nat) (h : a < 18446744073709551616) : spec_GoodReal.f a = some (good a) := by
  unfold spec_GoodReal.f good
  rw [isNaN_f, Option.bind_some, good_tail a h]
  cases hn : isN a
  · rw [if_neg (by decide), isInf_f a h, Option.bind_some]
    cases hf : fin a
    · rw [gt_inf hf hn]; rfl
    · rw [gt_fin hf]; simp
  · cases hf : fin a
    · rfl
    · exact absurd ((isN_fin hf).symm.trans hn) (by decide)
theorem f_lt {a : Nat} (h : (Lit.float .f64 a).wf = true) : a < 18446744073709551616 := by
  simp only [Lit.wf, decide_eq_true_eq] at h; exact h
open Go.Proofs.Ytlfejohlehkbgaa.Flo in
theorem same_all (k r : Nat) (hr : r < 18446744073709551616) : laws_sameFloat.f (k + 1) r r = some true := by
  unfold laws_sameFloat.f
  cases e : (FloatKind.f64.format.order r r != some Ordering.eq)
  · rw [if_neg (by decide)]
    simp only [laws_sameFloat.j0]
    rw [if_neg (by decide)]
    have e' : FloatKind.f64.format.order r r = some Ordering.eq := by simpa using e
    have e0 : (FloatKind.f64.format.order r (0 : Nat) == some Ordering.eq) = decide (rung r = 0) := order_zero r
    rw [e0, e']
    by_cases z : rung r = 0
    · have : r = 0 ∨ r = 9223372036854775808 := by unfold rung at z; omega
      rcases this with rfl | rfl <;> decide +kernel
    · rw [if_neg (by simpa using z)]; rfl
  · simp only [laws_sameFloat.j0, e, if_true]
def wfl (l : List Nat) : Prop := ∀ x ∈ l, x < 18446744073709551616
theorem wfl_of {l : List Nat} (h : ∀ a ∈ l, (Lit.float .f64 a).wf = true) : wfl l := fun x hx => f_lt (h x hx)
theorem rdf {l : List Nat} {i : Nat} (h : i < l.length) : rdOf (0 : Nat) l (i : Int) = l[i] := G.getD_nat h
theorem eqF_refl {l : List Nat} (h : wfl l) (hl : l.length ≤ 1048576) : Ev (fun k => laws_eqFloat64S.f k l l) true := by
  show Ev (fun k => if (l.length : Int) = (l.length : Int) then laws_eqFloat64S.l0 k l l 0 else some false) true
  refine G.pos rfl (G.down_ind l.length (fun i => Ev (fun k => laws_eqFloat64S.l0 k l l (i : Int)) true) ?_ ?_ 0 (Nat.zero_le _))
  · refine G.succ ?_
    simp only [laws_eqFloat64S.l0]
    exact G.neg (by omega) (G.now fun _ => rfl)
  · intro i hi ih
    refine G.succ ?_
    simp only [laws_eqFloat64S.l0, G.w64 i (by omega), rdf hi]
    exact G.pos (by omega) (G.pos (by omega) (G.pos (by omega) (G.bind (G.succ (G.now fun k => same_all k _ (h _ (List.getElem_mem hi)))) (G.pos rfl ih))))
theorem toF_ev (l : List Nat) (hl : l.length ≤ 1048576) : Ev (fun k => laws_toFloat64S.f k l) l := by
  simp only [laws_toFloat64S.f]
  refine G.pos (by omega) (G.pos (by omega) ?_)
  have h := G.to_loop (fun k out i => laws_toFloat64S.l0 k l out i) l id ?_ ?_ 0 (Nat.zero_le _) (List.replicate l.length 0) (by simp) (by simp)
  · simpa using h
  · intro k out; simp only [laws_toFloat64S.l0]; rw [if_neg (by omega)]
  · intro k out i h ho
    simp only [laws_toFloat64S.l0]
    rw [if_pos (by omega), if_pos (by omega), if_pos (by omega), G.w64 _ (by omega), rdf h]
    simp
open Go.Proofs.Ytlfejohlehkbgaa.Flo in
theorem iPoint (a b : Nat) (ha : a < 18446744073709551616) (hb : b < 18446744073709551616) : impl_goodPoint.f a b = some (good a && good b) := by
  unfold impl_goodPoint.f
  rw [iGood_f a ha, Option.bind_some]
  cases good a
  · rw [if_neg (by decide)]; rfl
  · rw [if_pos rfl, iGood_f b hb]; rfl
open Go.Proofs.Ytlfejohlehkbgaa.Flo in
def Wd (X : Option Nat) : Prop := ∀ v, X = some v → v < 18446744073709551616
open Go.Proofs.Ytlfejohlehkbgaa.Flo in
theorem opS_wd {op : BinOp} (ho : op = .add ∨ op = .sub ∨ op = .mul ∨ op = .quo) (X Y : Option Nat) : Wd (opS op X Y) := by
  intro v h
  cases X with
  | none => cases h
  | some x =>
    cases Y with
    | none => cases h
    | some y =>
      have h' : (floatBits op .f64 x y).bind al = some v := h
      obtain ⟨r, hr, hv⟩ := Option.bind_eq_some_iff.1 h'
      rw [← (al_eq_some hv).2]
      exact plus_lt (opb_lt ho hr)
open Go.Proofs.Ytlfejohlehkbgaa.Flo in
theorem told_wd {X Y : Option Nat} (hX : Wd X) (hY : Wd Y) : (toldS X Y).1 < 18446744073709551616 ∧ (toldS X Y).2.1 < 18446744073709551616 := by
  cases X with
  | none => exact ⟨by simp only [toldS]; omega, by simp only [toldS]; omega⟩
  | some x =>
    cases Y with
    | none => exact ⟨by simp only [toldS]; omega, by simp only [toldS]; omega⟩
    | some y => exact ⟨hX x rfl, hY y rfl⟩
theorem eqPoint_refl (k a b : Nat) (ha : a < 18446744073709551616) (hb : b < 18446744073709551616) : laws_eqPoint.f (k + 1) a b a b = some true := by
  unfold laws_eqPoint.f
  rw [same_all k a ha, Option.bind_some, if_pos rfl, same_all k b hb]; rfl
theorem dec_and {p q : Prop} [Decidable p] [Decidable q] (hp : p) (hq : q) (b : Bool) : (decide p && decide q && b) = b := by rw [decide_eq_true hp, decide_eq_true hq]; rfl
open Go.Proofs.Ytlfejohlehkbgaa.Flo in
def polyOk (a : List Nat) : Bool := decide (1 ≤ a.length) && decide (a.length ≤ 11) && a.all good
open Go.Proofs.Ytlfejohlehkbgaa.Flo in
theorem sPoly_ev {a : List Nat} (wa : wfl a) : Ev (fun k => spec_l3GoodReals.f k a) (polyOk a) := by
  unfold polyOk
  simp only [spec_l3GoodReals.f]
  by_cases h1 : 1 ≤ a.length
  · refine G.pos (by omega) ?_
    by_cases h2 : a.length ≤ 11
    · refine G.pos (by omega) ?_
      rw [dec_and h1 h2]
      refine G.bind (a := a.all good) ?_ (G.now fun _ => rfl)
      simp only [spec_l2Goods.f]
      refine G.neg (by omega) ?_
      have h := G.all_loop (F := fun k i => spec_l2Goods.l0 k a (a.length : Int) i) a good true ?_ ?_
      · rw [Bool.and_true] at h; exact h
      · intro k; simp only [spec_l2Goods.l0]; rw [if_neg (by omega)]
      · intro k i hi
        simp only [spec_l2Goods.l0, rdf hi, G.w64 i (by omega), sGood_f _ (wa _ (List.getElem_mem hi)), Option.bind_some]
        rw [if_pos (by omega), if_pos (by omega), if_pos (by omega)]
    · rw [decide_eq_false h2]
      exact G.neg (by omega) (G.now fun _ => by simp)
  · rw [decide_eq_false h1]
    exact G.neg (by omega) (G.now fun _ => by simp)
open Go.Proofs.Ytlfejohlehkbgaa.Flo in
theorem iPoly_ev {a : List Nat} (wa : wfl a) : Ev (fun k => impl_goodPoly.f k a) (polyOk a) := by
  unfold polyOk
  simp only [impl_goodPoly.f]
  by_cases h1 : 1 ≤ a.length
  · refine G.pos (by omega) ?_
    by_cases h2 : a.length ≤ 11
    · refine G.pos (by omega) ?_
      rw [dec_and h1 h2]
      refine G.bind (a := a.all good) ?_ (G.now fun _ => rfl)
      simp only [impl_goodReals.f]
      have h := G.all_loop (F := fun k i => impl_goodReals.l0 k a a (a.length : Int) i) a good true ?_ ?_
      · rw [Bool.and_true] at h; exact h
      · intro k; simp only [impl_goodReals.l0]; rw [if_neg (by omega), decide_eq_true (by omega)]
      · intro k i hi
        simp only [impl_goodReals.l0, rdf hi, G.w64 i (by omega), iGood_f _ (wa _ (List.getElem_mem hi)), Option.bind_some]
        rw [if_pos (by omega), if_pos (by omega), if_pos (by omega)]
    · rw [decide_eq_false h2]
      exact G.neg (by omega) (G.now fun _ => by simp)
  · rw [decide_eq_false h1]
    exact G.neg (by omega) (G.now fun _ => by simp)
open Go.Proofs.Ytlfejohlehkbgaa.Flo in
theorem horn_ev (l : List Nat) (hl : l.length ≤ 1048576) (A B : Option Nat) : ∀ (n : Nat), n ≤ l.length → ∀ (W0 W1 : Option Nat), Wd W0 → Wd W1 →
    ∃ X Y, Wd X ∧ Wd Y ∧ Ev (fun k => hornS k l ((n : Int) - 1) A B W0 W1) (X, Y)
  | 0, _, W0, W1, h0, h1 => ⟨W0, W1, h0, h1, G.succ (G.now fun k => by simp only [hornS]; rw [if_neg (by omega)])⟩
  | n + 1, hn, W0, W1, h0, h1 => by
    obtain ⟨X, Y, hX, hY, e⟩ := horn_ev l hl A B n (by omega) (opS .add (mRe W0 W1 A B) (al (rdOf (0 : Nat) l ((n : Nat) : Int)))) (mIm W0 W1 A B) (opS_wd (by simp) _ _) (opS_wd (by simp) _ _)
    refine ⟨X, Y, hX, hY, G.succ ?_⟩
    have e1 : ((n + 1 : Nat) : Int) - 1 = (n : Int) := by omega
    simp only [hornS, e1]
    refine G.pos (by omega) (G.pos (by omega) (G.pos (by omega) ?_))
    have e2 : Go.RowKit.wrap64 ((n : Int) - 1) = (n : Int) - 1 := G.w64' (by omega) (by omega)
    rw [e2]
    exact e
/-! Differences of finite words are no NaN; nor are squares, nor sums of squares. -/
section
open Go.Proofs.Ytlfejohlehkbgaa.Flo Ieee
def NN (x : Nat) : Prop := rung x ≤ 9218868437227405312
theorem read_nn {x : Nat} (h : NN x) : (∃ m i, F.read x = .number (sgn x) m i) ∨ F.read x = .infinity (sgn x) := by
  unfold NN at h
  rw [read_eq]
  by_cases h1 : rung x < 4503599627370496
  · rw [if_pos h1]; exact .inl ⟨_, _, rfl⟩
  · rw [if_neg h1]
    by_cases h2 : rung x < 9218868437227405312
    · rw [if_pos h2]; exact .inl ⟨_, _, rfl⟩
    · rw [if_neg h2, if_pos (by omega)]; exact .inr rfl
theorem wr_num (s : Bool) (m : Nat) (p : Int) : NN (F.write (.number s m p)) ∧ sgn (F.write (.number s m p)) = s := by
  show NN (F.nearest s m p) ∧ sgn (F.nearest s m p) = s
  unfold Format.nearest NN
  by_cases hm : m = 0
  · rw [if_pos hm, rung_word s 0 (by omega), sgn_word s 0 (by omega)]; exact ⟨by omega, rfl⟩
  · rw [if_neg hm]
    dsimp only
    have hi : F.infRung = 9218868437227405312 := rfl
    rw [hi]
    generalize (max (p + ↑m.log2 - ↑F.fractionBits) F.leastPlace - F.leastPlace).toNat * F.binade + _ = q
    have hq : min q 9218868437227405312 ≤ 9218868437227405312 := Nat.min_le_right _ _
    rw [rung_word s _ (by omega), sgn_word s _ (by omega)]; exact ⟨hq, rfl⟩
theorem wr_inf (s : Bool) : NN (F.write (.infinity s)) ∧ sgn (F.write (.infinity s)) = s := by
  show NN (F.word s 9218868437227405312) ∧ sgn (F.word s 9218868437227405312) = s
  unfold NN
  rw [rung_word s _ (by omega), sgn_word s _ (by omega)]; exact ⟨by omega, rfl⟩
theorem fin_nn {x : Nat} (h : fin x = true) : NN x := by unfold fin at h; simp only [decide_eq_true_eq] at h; unfold NN; omega
theorem sub_nn {x y : Nat} (hx : fin x = true) (hy : fin y = true) : (floatBits .sub .f64 x y).isSome = true ∧ NN (fl2 .sub x y) := by
  obtain ⟨m, i, a, _⟩ := read_fin hx
  obtain ⟨n, j, b, _⟩ := read_fin hy
  have e : floatBits .sub .f64 x y = ((F.read x).sum (F.read y).opposite).map F.write := rfl
  rw [a, b] at e
  simp only [Datum.opposite, Datum.sum, Option.map_some] at e
  unfold fl2
  rw [e]
  exact ⟨rfl, (wr_num _ _ _).1⟩
theorem mul_nn {x : Nat} (hx : NN x) : (floatBits .mul .f64 x x).isSome = true ∧ NN (fl2 .mul x x) ∧ sgn (fl2 .mul x x) = false := by
  have e : floatBits .mul .f64 x x = ((F.read x).product (F.read x)).map F.write := rfl
  unfold fl2
  rcases read_nn hx with ⟨m, i, a⟩ | a
  · rw [a] at e
    simp only [Datum.product, Option.map_some, bne_self_eq_false, Bool.xor_self] at e
    rw [e]
    exact ⟨rfl, (wr_num _ _ _).1, (wr_num _ _ _).2⟩
  · rw [a] at e
    simp only [Datum.product, Option.map_some, bne_self_eq_false, Bool.xor_self] at e
    rw [e]
    exact ⟨rfl, (wr_inf _).1, (wr_inf _).2⟩
theorem add_nn {x y : Nat} (hx : NN x) (hy : NN y) (sx : sgn x = false) (sy : sgn y = false) : (floatBits .add .f64 x y).isSome = true := by
  have e : floatBits .add .f64 x y = ((F.read x).sum (F.read y)).map F.write := rfl
  rw [e]
  rcases read_nn hx with ⟨m, i, a⟩ | a <;> rcases read_nn hy with ⟨n, j, b⟩ | b <;> rw [a, b, sx, sy] <;> rfl
/-- What told words are. -/
theorem op_good {op : BinOp} (ho : op = .add ∨ op = .sub ∨ op = .mul ∨ op = .quo) {X Y : Option Nat} {v : Nat} (h : opS op X Y = some v) : good v = true ∧ v < 18446744073709551616 := by
  cases X with
  | none => cases h
  | some x =>
    cases Y with
    | none => cases h
    | some y =>
      have h' : (floatBits op .f64 x y).bind al = some v := h
      obtain ⟨r, hr, hv⟩ := Option.bind_eq_some_iff.1 h'
      obtain ⟨hf, hp⟩ := al_eq_some hv
      rw [← hp]
      refine ⟨?_, plus_lt (opb_lt ho hr)⟩
      unfold good
      rw [fin_plus, hf, plus_plus, decide_eq_true rfl]; rfl
theorem good_fin {x : Nat} (h : good x = true) : fin x = true := by
  unfold good at h; rw [Bool.and_eq_true] at h; exact h.1
theorem dvn_bad {D : Option Nat} (h : denBad D = true) (X : Option Nat) : dvn X D = none := by
  unfold dvn
  cases D with
  | none => rw [if_neg (by simp)]; exact opS_none_r _ _
  | some v =>
    have : v = 0 := by simpa [denBad] using h
    subst this; rw [if_pos rfl]
end
/-! A step of both. -/
section
open Go.Proofs.Ytlfejohlehkbgaa.Flo
def gp (p : S42) : Prop := (good p.f0 = true ∧ p.f0 < 18446744073709551616) ∧ (good p.f1 = true ∧ p.f1 < 18446744073709551616)
def gz (x : List S42) : Prop := ∀ p ∈ x, gp p
theorem gz_set {x : List S42} (h : gz x) (i : Nat) (p : S42) (hp : gp p) : gz (x.set i p) := fun q hq => by
  rcases List.mem_or_eq_of_mem_set hq with h1 | h1
  · exact h q h1
  · rw [h1]; exact hp
def out (ok : Bool) (z : List S42) : List S42 × Bool := if ok = true then (z, true) else ([], false)
theorem told_none {X Y : Option Nat} (h : X = none ∨ Y = none) : toldS X Y = (0, 0, false) := by
  rcases h with rfl | rfl
  · rfl
  · cases X <;> rfl
theorem told_some {X Y : Option Nat} (h : (toldS X Y).2.2 = true) : ∃ x y, X = some x ∧ Y = some y ∧ toldS X Y = (x, y, true) := by
  cases X with
  | none => cases h
  | some x =>
    cases Y with
    | none => cases h
    | some y => exact ⟨x, y, rfl, rfl, rfl⟩
/-- What is bad stays bad. -/
theorem bad_ends (l : List Nat) (x : List S42) (n i : Nat) (hx : x.length = n) (hn : n ≤ 1048576) (hi : i < n) : ∀ j, j ≤ n → ∀ W0 W1 : Option Nat, W0.isNone = true ∨ W1.isNone = true →
    Ev (fun k => impl_RootStep.l2 k l x (i : Int) (n : Int) (i : Int) (n : Int) (j : Int) false W0 W1) (([], false)) := by
  refine G.down_ind n (fun j => ∀ W0 W1 : Option Nat, W0.isNone = true ∨ W1.isNone = true → Ev (fun k => impl_RootStep.l2 k l x (i : Int) (n : Int) (i : Int) (n : Int) (j : Int) false W0 W1) (([], false))) ?_ ?_
  · intro W0 W1 h
    refine G.succ ?_
    have e : toldS (opS .sub (al ((rd_T42 x (i : Int)).f0)) W0) (opS .sub (al ((rd_T42 x (i : Int)).f1)) W1) = (0, 0, false) := by
      refine told_none (h.imp (fun h => ?_) (fun h => ?_))
      · rw [Option.isNone_iff_eq_none.1 h]; exact opS_none_r _ _
      · rw [Option.isNone_iff_eq_none.1 h]; exact opS_none_r _ _
    simp only [impl_RootStep.l2, hx, e, Option.bind_some]
    exact G.neg (by omega) (G.pos (by omega) (G.pos (by omega) (G.pos rfl (G.now fun _ => rfl))))
  · intro j hj ih W0 W1 h
    refine G.succ ?_
    simp only [impl_RootStep.l2, hx, Option.bind_some, G.w64 j (by omega)]
    refine G.pos (by omega) (G.ite (fun _ => ih W0 W1 h) (fun _ => G.pos (by omega) (G.pos (by omega) (G.pos (by omega) (G.pos (by omega) (ih _ _ (.inl ?_)))))))
    rw [(dRe_none (h.elim .inl fun h => .inr (.inl h))).1]; rfl
theorem inner (l : List Nat) (x : List S42) (n i : Nat) (hx : x.length = n) (hn : n ≤ 1048576) (hi : i < n) (gx : gz x)
    (next : ∀ y : List S42, y.length = n → gz y → ∃ ok z, Ev (fun k => spec_l3Step.l0 k l y (n : Int) ((i + 1 : Nat) : Int)) (ok, z) ∧ Ev (fun k => impl_RootStep.l1 k l y (n : Int) ((i + 1 : Nat) : Int) false) (out ok z) ∧ z.length = n ∧ gz z) :
    ∀ j, j ≤ n → ∀ W0 W1 : Option Nat, ∃ ok z, Ev (fun k => spec_l3Step.l1 k l x (i : Int) (n : Int) (i : Int) (n : Int) (j : Int) W0 W1) (ok, z) ∧
      Ev (fun k => impl_RootStep.l2 k l x (i : Int) (n : Int) (i : Int) (n : Int) (j : Int) false W0 W1) (out ok z) ∧ z.length = n ∧ gz z := by
  have ri : rd_T42 x (i : Int) = x[i] := rdT42 (by omega)
  obtain ⟨⟨g0, w0⟩, ⟨g1, w1⟩⟩ := gx x[i] (List.getElem_mem _)
  refine G.down_ind n (fun j => ∀ W0 W1 : Option Nat, ∃ ok z, Ev (fun k => spec_l3Step.l1 k l x (i : Int) (n : Int) (i : Int) (n : Int) (j : Int) W0 W1) (ok, z) ∧
      Ev (fun k => impl_RootStep.l2 k l x (i : Int) (n : Int) (i : Int) (n : Int) (j : Int) false W0 W1) (out ok z) ∧ z.length = n ∧ gz z) ?_ ?_
  · intro W0 W1
    cases ht : (toldS (opS .sub (al (x[i].f0)) W0) (opS .sub (al (x[i].f1)) W1)).2.2
    · refine ⟨false, x, G.succ ?_, G.succ ?_, hx, gx⟩
      · simp only [spec_l3Step.l1, hx, ri, ht, Option.bind_some]
        exact G.neg (by omega) (G.pos (by omega) (G.pos (by omega) (G.neg (by simp) (G.now fun _ => rfl))))
      · simp only [impl_RootStep.l2, hx, ri, ht, Option.bind_some]
        exact G.neg (by omega) (G.pos (by omega) (G.pos (by omega) (G.pos rfl (G.now fun _ => rfl))))
    · obtain ⟨a, b, ea, eb, e⟩ := told_some ht
      obtain ⟨ok, z, s1, s2, s3, s4⟩ := next (x.set i ⟨a, b⟩) (by simpa using hx) (gz_set gx i _ ⟨op_good (by simp) ea, op_good (by simp) eb⟩)
      refine ⟨ok, z, G.succ ?_, G.succ ?_, s3, s4⟩
      · simp only [spec_l3Step.l1, hx, ri, e, Option.bind_some, G.w64 i (by omega), Int.toNat_natCast]
        exact G.neg (by omega) (G.pos (by omega) (G.pos (by omega) (G.pos (by simp) s1)))
      · simp only [impl_RootStep.l2, hx, ri, e, Option.bind_some, G.w64 i (by omega), Int.toNat_natCast, Bool.not_true]
        exact G.neg (by omega) (G.pos (by omega) (G.pos (by omega) (G.neg (by simp) s2)))
  · intro j hj ih W0 W1
    by_cases hij : (j : Int) = (i : Int)
    · obtain ⟨ok, z, s1, s2, s3⟩ := ih W0 W1
      refine ⟨ok, z, G.succ ?_, G.succ ?_, s3⟩
      · simp only [spec_l3Step.l1, hx, G.w64 j (by omega)]
        exact G.pos (by omega) (G.pos hij s1)
      · simp only [impl_RootStep.l2, hx, G.w64 j (by omega)]
        exact G.pos (by omega) (G.pos hij s2)
    · have rj : rd_T42 x (j : Int) = x[j] := rdT42 (by omega)
      obtain ⟨⟨k0, v0⟩, ⟨k1, v1⟩⟩ := gx x[j] (List.getElem_mem _)
      obtain ⟨c1, n1⟩ := sub_nn (good_fin g0) (good_fin k0)
      obtain ⟨c2, n2⟩ := sub_nn (good_fin g1) (good_fin k1)
      obtain ⟨c3, n3, p3⟩ := mul_nn n1
      obtain ⟨c4, n4, p4⟩ := mul_nn n2
      have c5 := add_nn n3 n4 p3 p4
      have a1 := (vt_fl (.inr (.inl rfl)) c1).al
      have a2 := (vt_fl (.inr (.inl rfl)) c2).al
      have v5 := vt_fl (.inl rfl) c5
      have hd := den_of (vt_fl (.inr (.inr rfl)) c3) (vt_fl (.inr (.inr rfl)) c4) v5
      have wd := v5.wd
      generalize hb0 : fl2 .sub x[i].f0 x[j].f0 = b0 at *
      generalize hb1 : fl2 .sub x[i].f1 x[j].f1 = b1 at *
      generalize hD : fl2 .add (fl2 .mul b0 b0) (fl2 .mul b1 b1) = D at *
      have spec (r : Bool × List S42) (h : Ev (fun k => if (FloatKind.f64.format.order D (0 : Nat) == some Ordering.eq) = true then some (false, x) else ((some (fin D)).bind fun t155 => (if t155 = true then ((some (W0.isSome && W1.isSome)).bind fun t156 => (if t156 = true then ((some (dRe W0 W1 (al b0) (al b1), dIm W0 W1 (al b0) (al b1))).bind fun bt157 => (spec_l3Step.l1 k l x (i : Int) (n : Int) (i : Int) (n : Int) ((j + 1 : Nat) : Int) bt157.1 bt157.2)) else (some (false, x)))) else (some (false, x))))) r) :
          Ev (fun k => spec_l3Step.l1 (k + 1) l x (i : Int) (n : Int) (i : Int) (n : Int) (j : Int) W0 W1) r := by
        simp only [spec_l3Step.l1, hx, ri, rj, G.w64 j (by omega), hb0, hb1, hD, R_l2Finite D wd]
        exact G.pos (by omega) (G.neg hij (G.pos (by omega) (G.pos (by omega) (G.pos (by omega) (G.pos (by omega) (G.pos c1 (G.pos c2 (G.pos c3 (G.pos c4 (G.pos c5 h))))))))))
      have impl (r : _) (h : Ev (fun k => impl_RootStep.l2 k l x (i : Int) (n : Int) (i : Int) (n : Int) ((j + 1 : Nat) : Int) false (dRe W0 W1 (al b0) (al b1)) (dIm W0 W1 (al b0) (al b1))) r) :
          Ev (fun k => impl_RootStep.l2 (k + 1) l x (i : Int) (n : Int) (i : Int) (n : Int) (j : Int) false W0 W1) r := by
        simp only [impl_RootStep.l2, hx, ri, rj, G.w64 j (by omega), Option.bind_some, ← a1, ← a2]
        exact G.pos (by omega) (G.neg hij (G.pos (by omega) (G.pos (by omega) (G.pos (by omega) (G.pos (by omega) h)))))
      have bad (h : (dRe W0 W1 (al b0) (al b1)).isNone = true) : Ev (fun k => impl_RootStep.l2 (k + 1) l x (i : Int) (n : Int) (i : Int) (n : Int) (j : Int) false W0 W1) (([], false)) :=
        impl _ (bad_ends l x n i hx hn hi (j + 1) (by omega) _ _ (.inl h))
      cases hz : (FloatKind.f64.format.order D (0 : Nat) == some Ordering.eq)
      · cases hf : fin D
        · refine ⟨false, x, G.succ (spec _ (G.neg (by rw [hz]; simp) (G.now fun _ => by rw [hf]; rfl))), G.succ (bad ?_), hx, gx⟩
          unfold dRe
          rw [hd, dvn_bad (by rw [denBad_fin hz, hf]; rfl)]; rfl
        · cases hw : W0.isSome && W1.isSome
          · refine ⟨false, x, G.succ (spec _ (G.neg (by rw [hz]; simp) (G.now fun _ => by rw [hf, hw]; rfl))), G.succ (bad ?_), hx, gx⟩
            have : W0.isNone = true ∨ W1.isNone = true := by
              cases W0 with
              | none => exact .inl rfl
              | some _ =>
                cases W1 with
                | none => exact .inr rfl
                | some _ => cases hw
            rw [(dRe_none (this.elim .inl fun h => .inr (.inl h))).1]; rfl
          · obtain ⟨ok, z, s1, s2, s3⟩ := ih (dRe W0 W1 (al b0) (al b1)) (dIm W0 W1 (al b0) (al b1))
            refine ⟨ok, z, G.succ (spec _ (G.neg (by rw [hz]; simp) ?_)), G.succ (impl _ s2), s3⟩
            simp only [hf, hw, Option.bind_some, if_true]
            exact s1
      · refine ⟨false, x, G.succ (spec _ (G.pos hz (G.now fun _ => rfl))), G.succ (bad ?_), hx, gx⟩
        unfold dRe
        rw [hd, dvn_bad (denBad_zero hz)]; rfl
theorem outer (l : List Nat) (hl : l.length ≤ 1048576) (hl1 : 1 ≤ l.length) (n : Nat) (hn : n ≤ 1048576) : ∀ i, i ≤ n → ∀ x : List S42, x.length = n → gz x →
    ∃ ok z, Ev (fun k => spec_l3Step.l0 k l x (n : Int) (i : Int)) (ok, z) ∧ Ev (fun k => impl_RootStep.l1 k l x (n : Int) (i : Int) false) (out ok z) ∧ z.length = n ∧ gz z := by
  refine G.down_ind n (fun i => ∀ x : List S42, x.length = n → gz x → ∃ ok z, Ev (fun k => spec_l3Step.l0 k l x (n : Int) (i : Int)) (ok, z) ∧ Ev (fun k => impl_RootStep.l1 k l x (n : Int) (i : Int) false) (out ok z) ∧ z.length = n ∧ gz z) ?_ ?_
  · intro x hx gx
    refine ⟨true, x, G.succ ?_, G.succ ?_, hx, gx⟩
    · simp only [spec_l3Step.l0]; exact G.neg (by omega) (G.now fun _ => rfl)
    · simp only [impl_RootStep.l1]; exact G.neg (by omega) (G.now fun _ => rfl)
  · intro i hi ih x hx gx
    have z0 : Wd (some 0) := by intro v h; cases h; omega
    obtain ⟨X, Y, hX, hY, e⟩ := horn_ev l hl (al (rd_T42 x (i : Int)).f0) (al (rd_T42 x (i : Int)).f1) l.length (Nat.le_refl _) (some 0) (some 0) z0 z0
    have e2 : Go.RowKit.wrap64 ((l.length : Int) - 1) = (l.length : Int) - 1 := G.w64' (by omega) (by omega)
    obtain ⟨ok, z, s1, s2, s3⟩ := inner l x n i hx hn hi gx ih 0 (Nat.zero_le _) X Y
    refine ⟨ok, z, G.succ ?_, G.succ ?_, s3⟩
    · simp only [spec_l3Step.l0, hx, e2]
      exact G.pos (by omega) (G.pos (by omega) (G.pos (by omega) (G.bind e s1)))
    · simp only [impl_RootStep.l1, hx, e2]
      exact G.pos (by omega) (G.pos (by omega) (G.pos (by omega) (G.bind e s2)))
end
section
open Go.Proofs.Ytlfejohlehkbgaa.Flo
def mon (l : List Nat) : Bool := polyOk l && (decide (2 ≤ l.length) && (FloatKind.f64.format.order (rdOf (0 : Nat) l ((l.length : Int) - 1)) (4607182418800017408 : Nat) == some Ordering.eq))
theorem mon_len {l : List Nat} (h : mon l = true) : 2 ≤ l.length ∧ l.length ≤ 11 := by
  unfold mon polyOk at h
  simp only [Bool.and_eq_true, decide_eq_true_eq] at h
  exact ⟨h.2.1, h.1.1.2⟩
theorem sMon_ev {l : List Nat} (wl : wfl l) (hl : l.length ≤ 1048576) : Ev (fun k => spec_l3Monic.f k l) (mon l) := by
  simp only [spec_l3Monic.f]
  unfold mon
  refine G.bind (sPoly_ev wl) ?_
  cases polyOk l
  · exact G.neg (by simp) (G.now fun _ => rfl)
  · refine G.pos rfl ?_
    by_cases h : 2 ≤ l.length
    · have e : Go.RowKit.wrap64 ((l.length : Int) - 1) = (l.length : Int) - 1 := G.w64' (by omega) (by omega)
      simp only [e]
      refine G.pos (by omega) (G.pos (by omega) (G.pos (by omega) (G.now fun _ => ?_)))
      rw [decide_eq_true h]; rfl
    · refine G.neg (by omega) (G.now fun _ => ?_)
      rw [decide_eq_false h]; rfl
theorem iMon_ev {l : List Nat} (wl : wfl l) (hl : l.length ≤ 1048576) : Ev (fun k => impl_rootable.f k l) (mon l) := by
  simp only [impl_rootable.f]
  unfold mon
  refine G.bind (iPoly_ev wl) ?_
  cases polyOk l
  · exact G.neg (by simp) (G.now fun _ => rfl)
  · refine G.pos rfl ?_
    by_cases h : 2 ≤ l.length
    · have e : Go.RowKit.wrap64 ((l.length : Int) - 1) = (l.length : Int) - 1 := G.w64' (by omega) (by omega)
      simp only [e]
      refine G.pos (by omega) (G.pos (by omega) (G.pos (by omega) (G.now fun _ => ?_)))
      rw [decide_eq_true h]; rfl
    · refine G.neg (by omega) (G.now fun _ => ?_)
      rw [decide_eq_false h]; rfl
end
theorem eqP_refl {l : List S42} (h : ∀ p ∈ l, p.f0 < 18446744073709551616 ∧ p.f1 < 18446744073709551616) (hl : l.length ≤ 1048576) : Ev (fun k => laws_eqPointS.f k l l) true := by
  show Ev (fun k => if (l.length : Int) = (l.length : Int) then laws_eqPointS.l0 k l l 0 else some false) true
  refine G.pos rfl (G.down_ind l.length (fun i => Ev (fun k => laws_eqPointS.l0 k l l (i : Int)) true) ?_ ?_ 0 (Nat.zero_le _))
  · refine G.succ ?_
    simp only [laws_eqPointS.l0]
    exact G.neg (by omega) (G.now fun _ => rfl)
  · intro i hi ih
    refine G.succ ?_
    simp only [laws_eqPointS.l0, G.w64 i (by omega), rdT42 hi]
    have w := h _ (List.getElem_mem hi)
    exact G.pos (by omega) (G.pos (by omega) (G.pos (by omega) (G.bind (G.succ (G.now fun k => eqPoint_refl k _ _ w.1 w.2)) (G.pos rfl ih))))
def elP (m : Int) : S42 := ⟨floatOfInt .f64 m, floatOfInt .f64 (m + 1)⟩
theorem markP_ev (l : List S42) (m : Int) (h0 : 0 ≤ m) (h1 : m ≤ 4194304) (hl : l.length ≤ 1048576) : Ev (fun k => laws_markPointS.f k l m) (m + l.length * 2, G.marks elP m 2 l.length) := by
  simp only [laws_markPointS.f]
  have h := G.mark_loop elP m 2 l.length (fun k l m i => laws_markPointS.l0 k l m i) ?_ ?_ l rfl
  · simpa using h
  · intro k l' m hl'; simp only [laws_markPointS.l0]; rw [if_neg (by omega)]
  · intro k l' i h hl'
    have hi : i < l'.length := by omega
    have hi1 : i < (l'.set i (⟨floatOfInt .f64 (m + (i : Int) * ((2 : Nat) : Int)), (rd_T42 l' (i : Int)).f1⟩ : S42)).length := by simpa using hi
    simp only [laws_markPointS.l0, Option.bind_some, Int.toNat_natCast]
    rw [if_pos (by omega), if_pos (by omega), G.w64 _ (by omega), G.w64' (i := m + (i : Int) * ((2 : Nat) : Int) + 1) (by omega) (by omega), G.w64' (i := m + (i : Int) * ((2 : Nat) : Int) + 1 + 1) (by omega) (by omega), rdT42 hi1]
    simp only [List.set_set, List.getElem_set_self, elP]
    congr 1
    omega
theorem own_order (n : Int) (h0 : 1 ≤ n) (h1 : n ≤ 32) : (FloatKind.f64.format.order (floatOfInt .f64 n) (floatOfInt .f64 n) != some Ordering.eq) = false := by
  have : ∀ n : Fin 33, (FloatKind.f64.format.order (floatOfInt .f64 ((n.val : Nat) : Int)) (floatOfInt .f64 ((n.val : Nat) : Int)) != some Ordering.eq) = false := by decide +kernel
  have h := this ⟨n.toNat, by omega⟩
  simp only at h
  rwa [show ((n.toNat : Nat) : Int) = n by omega] at h
theorem heldP_ev (n : Nat) (h1 : n ≤ 11) : Ev (fun k => laws_heldPointS.f k (G.marks elP 1 2 n) 1) (1 + (n : Int) * 2) := by
  simp only [laws_heldPointS.f]
  have h := G.held_loop 1 2 n (fun k m' i => laws_heldPointS.l0 k (G.marks elP 1 2 n) m' i) ?_ ?_
  · simpa using h
  · intro k m'; simp only [laws_heldPointS.l0]; rw [if_neg (by rw [G.marks_length]; omega)]
  · intro k i h
    have hi : i < (G.marks elP 1 2 n).length := by rw [G.marks_length]; exact h
    simp only [laws_heldPointS.l0, rdT42 hi, G.marks_get, elP]
    have e2 : Go.RowKit.wrap64 (1 + (i : Int) * (2 : Nat) + 1) = 1 + (i : Int) * (2 : Nat) + 1 := G.w64' (by omega) (by omega)
    have e3 : Go.RowKit.wrap64 (1 + (i : Int) * (2 : Nat) + 1 + 1) = 1 + (i : Int) * (2 : Nat) + 1 + 1 := G.w64' (by omega) (by omega)
    rw [e2, e3, own_order _ (by omega) (by omega), own_order _ (by omega) (by omega), if_pos (by rw [G.marks_length]; omega), if_pos (by omega), if_neg (by decide), if_neg (by decide), G.w64 _ (by omega)]
    congr 1
    omega
theorem markF_n (l : List Nat) (m : Int) (h0 : 0 ≤ m) (h1 : m ≤ 4194304) (hl : l.length ≤ 1048576) : Ev (fun k => laws_markFloat64S.f k l m) (m + l.length, G.marks (floatOfInt .f64) m 1 l.length) := by
  simp only [laws_markFloat64S.f]
  have h := G.mark_loop (floatOfInt .f64) m 1 l.length (fun k l m i => laws_markFloat64S.l0 k l m i) ?_ ?_ l rfl
  · simpa using h
  · intro k l' m hl'; simp only [laws_markFloat64S.l0]; rw [if_neg (by omega)]
  · intro k l' i h hl'
    simp only [laws_markFloat64S.l0]
    rw [if_pos (by omega), if_pos (by omega), G.w64 _ (by omega), G.w64' (by omega) (by omega)]
    simp only [Int.toNat_natCast]
    congr 1
    omega
section
open Go.Proofs.Ytlfejohlehkbgaa.Flo
def wz (x : List S42) : Prop := ∀ p ∈ x, p.f0 < 18446744073709551616 ∧ p.f1 < 18446744073709551616
/-- One step of both, at good points of a good polynomial. -/
theorem step_pair {l : List Nat} (wl : wfl l) (hl : l.length ≤ 1048576) (hm : mon l = true) {x : List S42} (hx : x.length + 1 = l.length) (gx : gz x) :
    ∃ ok z, Ev (fun k => spec_l3Step.f k l x) (ok, z) ∧ Ev (fun k => impl_RootStep.f k l x) (out ok z) ∧ z.length = x.length ∧ gz z := by
  have ei := iMon_ev wl hl
  rw [hm] at ei
  obtain ⟨m1, m2⟩ := mon_len hm
  have e : Go.RowKit.wrap64 ((l.length : Int) - 1) = (l.length : Int) - 1 := G.w64' (by omega) (by omega)
  obtain ⟨ok, z, s1, s2, s3, s4⟩ := outer l hl (by omega) x.length (by omega) 0 (Nat.zero_le _) x rfl gx
  refine ⟨ok, z, s1, ?_, s3, s4⟩
  have hb : ((x.length : Int) != (l.length : Int) - 1) = false := by rw [bne_eq_false_iff_eq]; omega
  simp only [impl_RootStep.f, e, hb]
  refine G.bind ei (G.pos rfl (G.succ ?_))
  simp only [impl_RootStep.j0]
  refine G.neg (by simp) ?_
  refine G.down_ind x.length (fun i => Ev (fun k => impl_RootStep.l0 k l x x (x.length : Int) (i : Int)) (out ok z)) ?_ ?_ 0 (Nat.zero_le _)
  · refine G.succ ?_
    simp only [impl_RootStep.l0, List.length_nil, List.nil_append, Option.bind_some]
    exact G.neg (by omega) (G.pos (by omega) s2)
  · intro i hi ih
    obtain ⟨⟨g0, w0⟩, g1, w1⟩ := gx _ (List.getElem_mem hi)
    refine G.succ ?_
    simp only [impl_RootStep.l0, rdT42 hi, G.w64 i (by omega), iPoint _ _ w0 w1, g0, g1, Option.bind_some]
    exact G.pos (by omega) (G.pos (by omega) (G.pos (by omega) (G.pos rfl ih)))
theorem steps_both {l : List Nat} (wl : wfl l) (hl : l.length ≤ 1048576) (hm : mon l = true) (n : Nat) (hn : n ≤ 60) : ∀ i, i ≤ n → ∀ x : List S42, x.length + 1 = l.length → gz x →
    ∃ r : List S42 × Bool, Ev (fun k => spec_RootsOf.l0 k l ((n : Int) - (i : Int)) x) r ∧ Ev (fun k => impl_RootsOf.l0 k l x (n : Int) (i : Int)) r ∧ r.1.length ≤ 10 ∧ wz r.1 := by
  obtain ⟨m1, m2⟩ := mon_len hm
  refine G.down_ind n (fun i => ∀ x : List S42, x.length + 1 = l.length → gz x → ∃ r : List S42 × Bool, Ev (fun k => spec_RootsOf.l0 k l ((n : Int) - (i : Int)) x) r ∧ Ev (fun k => impl_RootsOf.l0 k l x (n : Int) (i : Int)) r ∧ r.1.length ≤ 10 ∧ wz r.1) ?_ ?_
  · intro x hx gx
    refine ⟨(x, true), G.succ ?_, G.succ ?_, by show x.length ≤ 10; omega, fun p hp => ⟨(gx p hp).1.2, (gx p hp).2.2⟩⟩
    · simp only [spec_RootsOf.l0]; exact G.neg (by omega) (G.now fun _ => rfl)
    · simp only [impl_RootsOf.l0]; exact G.neg (by omega) (G.now fun _ => rfl)
  · intro i hi ih x hx gx
    obtain ⟨ok, z, s1, s2, s3, s4⟩ := step_pair wl hl hm hx gx
    have e1 : Go.RowKit.wrap64 ((n : Int) - (i : Int) - 1) = (n : Int) - ((i + 1 : Nat) : Int) := by rw [G.w64' (by omega) (by omega)]; omega
    cases ok
    · refine ⟨([], false), G.succ ?_, G.succ ?_, by simp, fun _ h => by cases h⟩
      · simp only [spec_RootsOf.l0]
        exact G.pos (by omega) (G.bind s1 (G.neg (by simp) (G.now fun _ => rfl)))
      · simp only [impl_RootsOf.l0]
        exact G.pos (by omega) (G.bind s2 (G.neg (by simp [out]) (G.now fun _ => rfl)))
    · obtain ⟨r, r1, r2, r3⟩ := ih z (by omega) s4
      refine ⟨r, G.succ ?_, G.succ ?_, r3⟩
      · simp only [spec_RootsOf.l0, e1]
        exact G.pos (by omega) (G.bind s1 (G.pos rfl r1))
      · simp only [impl_RootsOf.l0, G.w64 i (by omega)]
        exact G.pos (by omega) (G.bind s2 (G.pos (by simp [out]) r2))
def okG (n : Nat) : Bool := match spec_FirstGuess.f 60 (n : Int), impl_FirstGuess.f 60 (n : Int) with
  | some a, some b => decide (a.length = n) && a.all (fun p => (good p.f0 && decide (p.f0 < 18446744073709551616)) && (good p.f1 && decide (p.f1 < 18446744073709551616))) && (a.map (fun p => (p.f0, p.f1)) == b.map (fun p => (p.f0, p.f1)))
  | _, _ => false
set_option maxRecDepth 100000 in
theorem okG_all : ∀ n : Fin 11, n.val = 0 ∨ okG n.val = true := by decide +kernel
theorem ev_at {α : Type} {g : Nat → Option α} (mono : ∀ k, LeO (g k) (g (k + 1))) {k : Nat} {r : α} (h : g k = some r) : Ev g r := by
  refine ⟨k, fun j hj => ?_⟩
  induction j with
  | zero => obtain rfl : k = 0 := by omega
            exact h
  | succ j ih =>
    by_cases c : k = j + 1
    · rw [← c]; exact h
    · exact mono j r (ih (by omega))
theorem map_pair : ∀ (a b : List S42), a.map (fun p => (p.f0, p.f1)) = b.map (fun p => (p.f0, p.f1)) → a = b
  | [], [], _ => rfl
  | [], _ :: _, h => by cases h
  | _ :: _, [], h => by cases h
  | ⟨p, q⟩ :: a, ⟨s, t⟩ :: b, h => by
    simp only [List.map_cons, List.cons.injEq, Prod.mk.injEq] at h
    obtain ⟨⟨rfl, rfl⟩, h⟩ := h
    rw [map_pair a b h]
theorem guess (n : Nat) (h1 : 1 ≤ n) (h2 : n ≤ 10) : ∃ a : List S42, a.length = n ∧ gz a ∧ Ev (fun k => spec_FirstGuess.f k (n : Int)) a ∧ Ev (fun k => impl_FirstGuess.f k (n : Int)) a := by
  have h := (okG_all ⟨n, by omega⟩).resolve_left (by simp only; omega)
  simp only at h
  unfold okG at h
  split at h
  · rename_i a b ea eb
    simp only [Bool.and_eq_true, decide_eq_true_eq, beq_iff_eq] at h
    obtain ⟨⟨hl, hg⟩, hs⟩ := h
    obtain rfl := map_pair a b hs
    refine ⟨a, hl, fun p hp => ?_, ev_at (fun k => spec_FirstGuess.mono _ k) ea, ev_at (fun k => impl_FirstGuess.mono _ k) eb⟩
    have := List.all_eq_true.1 hg p hp
    simp only [Bool.and_eq_true, decide_eq_true_eq] at this
    exact this
  · cases h
theorem rootsof_both {l : List Nat} (wl : wfl l) (hl : l.length ≤ 1048576) (s : Int) :
    ∃ r : List S42 × Bool, Ev (fun k => spec_RootsOf.f k l s) r ∧ Ev (fun k => impl_RootsOf.f k l s) r ∧ r.1.length ≤ 10 ∧ wz r.1 := by
  have es := sMon_ev wl hl
  have ei := iMon_ev wl hl
  have no : (([] : List S42), false).1.length ≤ 10 ∧ wz (([] : List S42), false).1 := ⟨by simp, fun _ h => by cases h⟩
  have bs : ∀ b : Bool, b = true → Ev (fun k => spec_RootsOf.j0 k l s b) ([], false) := fun b hb => G.succ (by simp only [spec_RootsOf.j0]; exact G.pos hb (G.now fun _ => rfl))
  have bi : ∀ b : Bool, b = true → Ev (fun k => impl_RootsOf.j0 k l s b) ([], false) := fun b hb => G.succ (by simp only [impl_RootsOf.j0]; exact G.pos hb (G.now fun _ => rfl))
  simp only [spec_RootsOf.f, impl_RootsOf.f]
  cases hm : mon l
  · rw [hm] at es ei
    exact ⟨([], false), G.bind es (G.neg (by simp) (bs _ rfl)), G.bind ei (G.neg (by simp) (bi _ rfl)), no⟩
  · rw [hm] at es ei
    by_cases h0 : s < 0
    · exact ⟨([], false), G.bind es (G.pos rfl (G.pos h0 (bs _ rfl))), G.bind ei (G.pos rfl (G.pos h0 (bi _ rfl))), no⟩
    · by_cases h60 : s > 60
      · exact ⟨([], false), G.bind es (G.pos rfl (G.neg h0 (bs _ (decide_eq_true h60)))), G.bind ei (G.pos rfl (G.neg h0 (bi _ (decide_eq_true h60)))), no⟩
      · obtain ⟨m1, m2⟩ := mon_len hm
        have e : Go.RowKit.wrap64 ((l.length : Int) - 1) = ((l.length - 1 : Nat) : Int) := by rw [G.w64' (by omega) (by omega)]; omega
        obtain ⟨a, ha, ga, g1, g2⟩ := guess (l.length - 1) (by omega) (by omega)
        obtain ⟨r, r1, r2, r3⟩ := steps_both wl hl hm s.toNat (by omega) 0 (Nat.zero_le _) a (by omega) ga
        have es2 : ((s.toNat : Nat) : Int) = s := by omega
        have e0 : ((s.toNat : Nat) : Int) - ((0 : Nat) : Int) = s := by omega
        rw [e0] at r1
        rw [es2] at r2
        refine ⟨r, G.bind es (G.pos rfl (G.neg h0 ?_)), G.bind ei (G.pos rfl (G.neg h0 ?_)), r3⟩
        · refine G.succ ?_
          simp only [spec_RootsOf.j0, e]
          exact G.neg (by simp; omega) (G.bind g1 r1)
        · refine G.succ ?_
          simp only [impl_RootsOf.j0, e]
          exact G.neg (by simp; omega) (G.bind g2 r2)
end
theorem FnExactRootsOf (l : List Nat) (s : Int) (ok1 : l.length ≤ 9223372036854775807 ∧ ∀ x ∈ l, (Lit.float .f64 x).wf = true) (ok2 : (Lit.int .i64 s).wf = true) : ∃ k, laws_FnExactRootsOf.f k l s = some true := by
  refine Ev.rounds ?_
  obtain ⟨ll, fl⟩ := ok1
  have wl := wfl_of fl
  simp only [laws_FnExactRootsOf.f]
  by_cases hl : (l.length : Int) > 1048576
  · exact G.pos hl (G.now fun _ => rfl)
  · refine G.neg hl ?_
    have hl' : l.length ≤ 1048576 := by omega
    have t := toF_ev l hl'
    obtain ⟨⟨g, b⟩, e1, e2, e3, e4⟩ := rootsof_both wl hl' s
    have eg : Ev (fun k => laws_eqPointS.f k g g) true := eqP_refl e4 (by simp only at e3; omega)
    have hg := heldP_ev g.length (by simp only at e3; omega)
    have mg := markP_ev g 1 (by omega) (by omega) (by simp only at e3; omega)
    have held : Ev (fun k => laws_FnExactRootsOf.j2 k (G.marks elP 1 2 g.length) (1 + (g.length : Int) * 2) false) true := by
      refine G.succ ?_
      simp only [laws_FnExactRootsOf.j2]
      exact G.neg (by simp) (G.bind hg (G.neg (by omega) (G.pos rfl (G.now fun _ => rfl))))
    have second : Ev (fun k => laws_FnExactRootsOf.j1 k l s g b g false) true := by
      refine G.succ ?_
      simp only [laws_FnExactRootsOf.j1]
      refine G.neg (by simp) (G.bind mg (G.bind hg (G.neg (by omega) (G.pos rfl (G.bind t (G.bind e2 (G.bind eg (G.pos rfl ?_))))))))
      simp only [bne_self_eq_false]
      exact held
    refine G.bind t (G.bind e1 (G.bind t (G.bind e2 (G.bind eg (G.pos rfl ?_)))))
    simp only [bne_self_eq_false]
    refine G.succ ?_
    simp only [laws_FnExactRootsOf.j0]
    refine G.neg (by simp) (G.bind t (G.bind (eqF_refl wl hl') (G.pos rfl (G.bind (markF_n l 1 (by omega) (by omega) hl') ?_))))
    refine G.neg (by simp only; omega) (G.bind eg (G.pos rfl ?_))
    simp only [bne_self_eq_false]
    exact second

end Go.Proofs.Ytlfejohlehkbgaa.Pure
