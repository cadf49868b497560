/- For all arguments the printed law Joins answers true: plain lists and numbers, no memory. Conditions: none beyond what the program's own guards ask. -/
import Derived.Test.YtbhnnobpjmnngaaRFnJoinsx12
import Derived.Test.YtbhnnobpjmnngaaG
import Derived.Test.YtbhnnobpjmnngaaFlo
namespace Go.Proofs.Ytbhnnobpjmnngaa.Pure
open Go.RowKit Go.Proofs.Ytbhnnobpjmnngaa.PFnJoins Go.Proofs.YtbhnnobpjmnngaaW.PrintWords Go.Proofs.YtbhnnobpjmnngaaW.PrintLast
set_option linter.unusedVariables false
set_option linter.unusedSimpArgs false


-- IMPORTS F Flo Rel
open Go.Proofs.Ytbhnnobpjmnngaa.Flo in
theorem isNaN_f (a : Nat) : math_IsNaN.f a = some (isN a) := rfl
open Go.Proofs.Ytbhnnobpjmnngaa.Flo in
theorem isInf_f (a : Nat) (h : a < 18446744073709551616) : math_IsInf.f a 0 = some (F.order (rung a) 9218868437227405311 == some .gt) := by
  unfold math_IsInf.f math_Abs.f
  rw [if_pos rfl, Option.bind_some]
  exact congrArg (fun n => some (F.order n 9218868437227405311 == some .gt)) (abs_word a h)
open Go.Proofs.Ytbhnnobpjmnngaa.Flo in
theorem finite_f (a : Nat) (h : a < 18446744073709551616) : impl_finite.f a = some (fin a) := by
  unfold impl_finite.f
  rw [isNaN_f, Option.bind_some]
  cases hn : isN a
  · rw [if_neg (by decide), isInf_f a h, Option.bind_some]
    cases hf : fin a
    · rw [gt_inf hf hn]; rfl
    · rw [gt_fin hf]; rfl
  · cases hf : fin a
    · rfl
    · exact absurd ((isN_fin hf).symm.trans hn) (by decide)
open Go.Proofs.Ytbhnnobpjmnngaa.Flo in
theorem signbit_f (a : Nat) (h : a < 18446744073709551616) : math_Signbit.f a = some (decide (9223372036854775808 ≤ a)) := by
  unfold math_Signbit.f
  exact congrArg some (sign_word a h)
open Go.Proofs.Ytbhnnobpjmnngaa.Flo in
theorem good_tail (a : Nat) (h : a < 18446744073709551616) : (if (FloatKind.f64.format.order a (0 : Nat) == some Ordering.eq) = true then ((math_Signbit.f a).bind fun t => (some (!t))) else (some (!false))) = some (decide (plus a = a)) := by
  have e : (FloatKind.f64.format.order a (0 : Nat) == some Ordering.eq) = decide (rung a = 0) := order_zero a
  rw [e, signbit_f a h, Option.bind_some]
  unfold plus
  by_cases z : rung a = 0
  · rw [if_pos (decide_eq_true z), if_pos z]
    congr 1
    rw [Bool.eq_iff_iff]; unfold rung at z; simp; omega
  · rw [if_neg (by simpa using z), if_neg z]; simp
open Go.Proofs.Ytbhnnobpjmnngaa.Flo in
theorem iGood_f (a : Nat) (h : a < 18446744073709551616) : impl_GoodReal.f a = some (good a) := by
  unfold impl_GoodReal.f good
  rw [finite_f a h, Option.bind_some, good_tail a h]
  cases fin a <;> simp
open Go.Proofs.Ytbhnnobpjmnngaa.Flo in
theorem sGood_f (a : Nat) (h : a < 18446744073709551616) : spec_GoodReal.f a = some (good a) := by
  unfold spec_GoodReal.f good
  rw [isNaN_f, Option.bind_some, good_tail a h]
  cases hn : isN a
  · rw [if_neg (by decide), isInf_f a h, Option.bind_some]
    cases hf : fin a
    · rw [gt_inf hf hn]; rfl
    · rw [gt_fin hf]; simp
  · cases hf : fin a
    · rfl
    · exact absurd ((isN_fin hf).symm.trans hn) (by decide)
theorem f_lt {a : Nat} (h : (Lit.float .f64 a).wf = true) : a < 18446744073709551616 := by
  simp only [Lit.wf, decide_eq_true_eq] at h; exact h
def wfl (l : List Nat) : Prop := ∀ x ∈ l, x < 18446744073709551616
theorem wfl_of {l : List Nat} (h : ∀ a ∈ l, (Lit.float .f64 a).wf = true) : wfl l := fun x hx => f_lt (h x hx)
theorem rdf {l : List Nat} {i : Nat} (h : i < l.length) : rdOf (0 : Nat) l (i : Int) = l[i] := G.getD_nat h
def gtb (x y : Nat) : Bool := FloatKind.f64.format.order x y == some Ordering.gt
def shapeOk (a b : List Nat) : Prop := 1 ≤ a.length ∧ a.length ≤ 3 ∧ b.length = a.length
open Go.Proofs.Ytbhnnobpjmnngaa.Flo in
def rowsOk (a b : List Nat) : Bool := (List.range a.length).all fun i => good (a.getD i 0) && good (b.getD i 0) && !gtb (a.getD i 0) (b.getD i 0)
theorem gd {l : List Nat} {i : Nat} (h : i < l.length) : l.getD i 0 = l[i] := by simp [List.getD_eq_getElem?_getD, h]
open Go.Proofs.Ytbhnnobpjmnngaa.Flo in
theorem sBox_loop {a b : List Nat} (wa : wfl a) (wb : wfl b) (hs : shapeOk a b) : Ev (fun k => spec_GoodBox.l0 k (a.length : Int) 0 a b) (rowsOk a b) := by
  obtain ⟨h1, h2, h3⟩ := hs
  have h := G.all_loop (F := fun k i => spec_GoodBox.l0 k (a.length : Int) i a b) (List.range a.length) (fun i => good (a.getD i 0) && good (b.getD i 0) && !gtb (a.getD i 0) (b.getD i 0)) true ?_ ?_
  · rw [Bool.and_true] at h; exact h
  · intro k; simp only [spec_GoodBox.l0, List.length_range]; rw [if_neg (by omega)]
  · intro k i hi
    have hi2 : i < a.length := by simpa using hi
    have hi' : i < b.length := by omega
    have hg : (FloatKind.f64.format.order a[i] b[i] == some Ordering.gt) = gtb a[i] b[i] := rfl
    simp only [spec_GoodBox.l0, List.getElem_range, gd hi2, gd hi', rdf hi2, rdf hi', G.w64 i (by omega), sGood_f _ (wa _ (List.getElem_mem hi2)), sGood_f _ (wb _ (List.getElem_mem hi')), Option.bind_some, hg]
    simp only [show (i : Int) < (a.length : Int) from by omega, show (0 : Int) ≤ (i : Int) from by omega, show (i : Int) < (b.length : Int) from by omega, if_true]
    generalize good a[i] = x; generalize good b[i] = y; generalize gtb a[i] b[i] = z
    cases x <;> cases y <;> cases z <;> simp
open Go.Proofs.Ytbhnnobpjmnngaa.Flo in
theorem goods_ev {a : List Nat} (wa : wfl a) (h2 : a.length ≤ 3) : Ev (fun k => impl_goodReals.f k a) (a.all good) := by
  simp only [impl_goodReals.f]
  have h := G.all_loop (F := fun k i => impl_goodReals.l0 k a a (a.length : Int) i) a good true ?_ ?_
  · rw [Bool.and_true] at h; exact h
  · intro k; simp only [impl_goodReals.l0]; rw [if_neg (by omega), decide_eq_true (by omega)]
  · intro k i hi
    simp only [impl_goodReals.l0, rdf hi, G.w64 i (by omega), iGood_f _ (wa _ (List.getElem_mem hi)), Option.bind_some]
    rw [if_pos (by omega), if_pos (by omega), if_pos (by omega)]
theorem iBox_loop {a b : List Nat} (hs : shapeOk a b) : Ev (fun k => impl_GoodBox.l0 k (a.length : Int) 0 a b) ((List.range a.length).all fun i => !gtb (a.getD i 0) (b.getD i 0)) := by
  obtain ⟨h1, h2, h3⟩ := hs
  have h := G.all_loop (F := fun k i => impl_GoodBox.l0 k (a.length : Int) i a b) (List.range a.length) (fun i => !gtb (a.getD i 0) (b.getD i 0)) true ?_ ?_
  · rw [Bool.and_true] at h; exact h
  · intro k; simp only [impl_GoodBox.l0, List.length_range]; rw [if_neg (by omega)]
  · intro k i hi
    have hi2 : i < a.length := by simpa using hi
    have hi' : i < b.length := by omega
    have hg : (FloatKind.f64.format.order a[i] b[i] == some Ordering.gt) = gtb a[i] b[i] := rfl
    simp only [impl_GoodBox.l0, List.getElem_range, gd hi2, gd hi', rdf hi2, rdf hi', G.w64 i (by omega), hg]
    simp only [show (i : Int) < (a.length : Int) from by omega, show (0 : Int) ≤ (i : Int) from by omega, show (i : Int) < (b.length : Int) from by omega, if_true]
    generalize gtb a[i] b[i] = z
    cases z <;> simp
theorem range_all {l : List Nat} (p : Nat → Bool) : (List.range l.length).all (fun i => p (l.getD i 0)) = l.all p := by
  rw [Bool.eq_iff_iff, List.all_eq_true, List.all_eq_true]
  constructor
  · intro h x hx
    obtain ⟨i, hi, rfl⟩ := List.getElem_of_mem hx
    have := h i (List.mem_range.2 hi)
    rwa [gd hi] at this
  · intro h i hi
    have hi := List.mem_range.1 hi
    rw [gd hi]; exact h _ (List.getElem_mem hi)
open Go.Proofs.Ytbhnnobpjmnngaa.Flo in
theorem rows_split {a b : List Nat} (hl : b.length = a.length) : rowsOk a b = (a.all good && b.all good && (List.range a.length).all fun i => !gtb (a.getD i 0) (b.getD i 0)) := by
  rw [← range_all (l := a), ← range_all (l := b), hl]
  unfold rowsOk
  rw [Bool.eq_iff_iff]
  simp only [List.all_eq_true, Bool.and_eq_true]
  constructor
  · intro h; exact ⟨⟨fun i hi => (h i hi).1.1, fun i hi => (h i hi).1.2⟩, fun i hi => (h i hi).2⟩
  · intro h i hi; exact ⟨⟨h.1.1 i hi, h.1.2 i hi⟩, h.2 i hi⟩
open Go.Proofs.Ytbhnnobpjmnngaa.Flo in
theorem box_both {a b : List Nat} (wa : wfl a) (wb : wfl b) (lb : b.length ≤ 1048576) : ∃ r, Ev (fun k => spec_GoodBox.f k a b) r ∧ Ev (fun k => impl_GoodBox.f k a b) r ∧ (r = true → shapeOk a b ∧ rowsOk a b = true) := by
  simp only [spec_GoodBox.f, impl_GoodBox.f]
  have no : Ev (fun k => spec_GoodBox.j0 k true a b) false := G.succ (by simp only [spec_GoodBox.j0, if_true]; exact G.now fun _ => rfl)
  have no' : Ev (fun k => impl_GoodBox.j0 k true a b) false := G.succ (by simp only [impl_GoodBox.j0, if_true]; exact G.now fun _ => rfl)
  by_cases c1 : (a.length : Int) < 1
  · exact ⟨false, G.pos c1 no, G.pos c1 no', by simp⟩
  by_cases c2 : (a.length : Int) > 3
  · exact ⟨false, G.neg c1 (G.pos c2 no), G.neg c1 (G.pos c2 no'), by simp⟩
  by_cases c3 : (b.length : Int) = (a.length : Int)
  · have hs : shapeOk a b := ⟨by omega, by omega, by omega⟩
    have hc : ((b.length : Int) != (a.length : Int)) = false := by simp [c3]
    refine ⟨rowsOk a b, G.neg c1 (G.neg c2 ?_), G.neg c1 (G.neg c2 (G.pos c3 (G.bind (goods_ev wa hs.2.1) ?_))), fun h => ⟨hs, h⟩⟩
    · rw [hc]
      refine G.succ ?_
      simp only [spec_GoodBox.j0]
      exact G.neg (by simp) (sBox_loop wa wb hs)
    · rw [rows_split hs.2.2]
      cases a.all good with
      | false => exact G.neg (by simp) no'
      | true =>
        refine G.pos rfl (G.bind (goods_ev wb (by omega)) (G.succ ?_))
        simp only [impl_GoodBox.j0]
        cases b.all good with
        | false => exact G.pos rfl (G.now fun _ => rfl)
        | true => exact G.neg (by simp) (by simpa using iBox_loop hs)
  · have hc : ((b.length : Int) != (a.length : Int)) = true := by simp [c3]
    refine ⟨false, G.neg c1 (G.neg c2 (by rw [hc]; exact no)), G.neg c1 (G.neg c2 (G.neg c3 no')), by simp⟩
def ltb (x y : Nat) : Bool := FloatKind.f64.format.order x y == some Ordering.lt
theorem pair_both {a b c d : List Nat} (wa : wfl a) (wb : wfl b) (wc : wfl c) (wd : wfl d) (lb : b.length ≤ 1048576) (ld : d.length ≤ 1048576) : ∃ r, Ev (fun k => spec_l17Pair.f k a b c d) r ∧ Ev (fun k => impl_alike.f k a b c d) r ∧ (r = true → shapeOk a b ∧ rowsOk a b = true ∧ shapeOk c d ∧ rowsOk c d = true ∧ c.length = a.length) := by
  obtain ⟨r, e1, e2, h⟩ := box_both wa wb lb
  obtain ⟨s, g1, g2, h'⟩ := box_both wc wd ld
  simp only [spec_l17Pair.f, impl_alike.f]
  cases r with
  | false => exact ⟨false, G.bind e1 (G.neg (by simp) (G.now fun _ => rfl)), G.bind e2 (G.neg (by simp) (G.now fun _ => rfl)), by simp⟩
  | true =>
    cases s with
    | false => exact ⟨false, G.bind e1 (G.pos rfl (G.bind g1 (G.neg (by simp) (G.now fun _ => rfl)))), G.bind e2 (G.pos rfl (G.bind g2 (G.neg (by simp) (G.now fun _ => rfl)))), by simp⟩
    | true =>
      refine ⟨_, G.bind e1 (G.pos rfl (G.bind g1 (G.pos rfl (G.now fun _ => rfl)))), G.bind e2 (G.pos rfl (G.bind g2 (G.pos rfl (G.now fun _ => rfl)))), fun e => ?_⟩
      have : (a.length : Int) = (c.length : Int) := by simpa using e
      exact ⟨(h rfl).1, (h rfl).2, (h' rfl).1, (h' rfl).2, by omega⟩
def lowv (x y : Nat) : Nat := if ltb y x then y else x
def highv (x y : Nat) : Nat := if gtb y x then y else x
open Go.Proofs.Ytbhnnobpjmnngaa.Flo in
/-- The least and the greatest of two good words. -/
theorem mm_is {x y : Nat} (wx : x < 18446744073709551616) (wy : y < 18446744073709551616) (gx : good x = true) (gy : good y = true) : (FloatKind.f64.format.order x y).isSome = true ∧ fmin x y = lowv x y ∧ fmax x y = highv x y ∧ good (lowv x y) = true ∧ good (highv x y) = true ∧ lowv x y < 18446744073709551616 ∧ highv x y < 18446744073709551616 := by
  obtain ⟨fx, _⟩ := (good_iff wx).1 gx
  obtain ⟨fy, _⟩ := (good_iff wy).1 gy
  obtain ⟨c, h1, h2⟩ := order_two fx fy
  have e1 : FloatKind.f64.format.order x y = some c := h1
  have e2 : FloatKind.f64.format.order y x = some c.swap := h2
  have l1 : ltb y x = (c == .gt) := by unfold ltb; rw [e2]; cases c <;> rfl
  have l2 : gtb y x = (c == .lt) := by unfold gtb; rw [e2]; cases c <;> rfl
  refine ⟨by rw [e1]; rfl, ?_, ?_, ?_, ?_, ?_, ?_⟩
  · unfold fmin lowv; rw [e1, l1]
    cases c
    · rfl
    · have := order_eq_good wx wy gx gy e1
      subst this
      show (if _ then x else x) = if _ then x else x
      split <;> rfl
    · rfl
  · unfold fmax highv; rw [e1, l2]
    cases c
    · rfl
    · have := order_eq_good wx wy gx gy e1
      subst this
      show (if _ then x else x) = if _ then x else x
      split <;> rfl
    · rfl
  · unfold lowv; split <;> assumption
  · unfold highv; split <;> assumption
  · unfold lowv; split <;> assumption
  · unfold highv; split <;> assumption
open Go.Proofs.Ytbhnnobpjmnngaa.Flo in
theorem goods_at {a b : List Nat} (hl : b.length = a.length) (h : rowsOk a b = true) {i : Nat} (hi : i < a.length) : good a[i] = true ∧ good (b[i]'(by omega)) = true := by
  have := List.all_eq_true.1 h i (List.mem_range.2 hi)
  rw [gd hi, gd (show i < b.length by omega)] at this
  simp only [Bool.and_eq_true] at this
  exact this.1
def wfg (l : List Nat) : Prop := wfl l ∧ l.all Go.Proofs.Ytbhnnobpjmnngaa.Flo.good = true
theorem wfg_snoc {l : List Nat} {x : Nat} (h : wfg l) (w : x < 18446744073709551616) (g : Go.Proofs.Ytbhnnobpjmnngaa.Flo.good x = true) : wfg (l ++ [x]) := by
  refine ⟨fun y hy => ?_, by simp [List.all_append, h.2, g]⟩
  rcases List.mem_append.1 hy with hy | hy
  · exact h.1 y hy
  · simp at hy; rw [hy]; exact w
theorem wfg_nil : wfg [] := ⟨fun _ h => (by simp at h), rfl⟩
/-! How great a word is: what is written near a small number is finite; the order of finite words is that of whole numbers. -/
section
open Go.Proofs.Ytbhnnobpjmnngaa.Flo Ieee
theorem cut_le (neg : Bool) (n drop : Nat) (h : n < 2 ^ (53 + drop)) (hz : drop = 0 → n < 2 ^ 53) : Toward.even.cut neg n drop ≤ 9007199254740992 := by
  unfold Toward.cut
  dsimp only
  by_cases h0 : drop = 0
  · subst h0
    rw [Nat.zero_min]
    have h1 : (1 : Nat) <<< 0 = 1 := rfl
    rw [h1, Nat.div_one, Nat.mod_one]
    have := hz rfl
    simp
    omega
  · have low : n / (1 <<< min drop (n.log2 + 2)) ≤ 9007199254740991 := by
      rw [Nat.one_shiftLeft]
      by_cases hd : drop ≤ n.log2 + 2
      · rw [Nat.min_eq_left hd]
        have : n / 2 ^ drop < 9007199254740992 := by
          apply Nat.div_lt_of_lt_mul
          have e : 2 ^ drop * 9007199254740992 = 2 ^ (53 + drop) := by rw [Nat.pow_add, Nat.mul_comm]
          omega
        omega
      · rw [Nat.min_eq_right (by omega)]
        have : n / 2 ^ (n.log2 + 2) = 0 := by
          apply Nat.div_eq_of_lt
          have := @Nat.lt_log2_self n
          rw [Nat.pow_succ] at this ⊢
          omega
        omega
    have more : ∀ b : Bool, b.toNat ≤ 1 := by intro b; cases b <;> simp
    have := more (decide (1 <<< min drop (n.log2 + 2) < 2 * (n % 1 <<< min drop (n.log2 + 2))) || (1 <<< min drop (n.log2 + 2) == 2 * (n % 1 <<< min drop (n.log2 + 2)) && n / 1 <<< min drop (n.log2 + 2) % 2 == 1))
    omega
theorem nearest_rung (s : Bool) (mag : Nat) (place B : Int) (h : place + mag.log2 ≤ B) (hB : -1022 ≤ B) (hB' : B ≤ 900) : rung (F.nearest s mag place) ≤ ((B + 1024).toNat) * 4503599627370496 := by
  unfold Format.nearest
  by_cases h0 : mag = 0
  · rw [if_pos h0, rung_word s 0 (by omega)]; omega
  · rw [if_neg h0]
    dsimp only
    have e1 : F.leastPlace = -1074 := rfl
    have e2 : (F.fractionBits : Int) = 52 := rfl
    have e3 : F.binade = 4503599627370496 := rfl
    have e4 : F.infRung = 9218868437227405312 := rfl
    rw [e1, e2, e3, e4]
    generalize hlast : max (place + (mag.log2 : Int) - 52) (-1074) = last
    have hm := @Nat.lt_log2_self mag
    have kept : Toward.even.cut s (mag <<< (place - last).toNat) (last - place).toNat ≤ 9007199254740992 := by
      apply cut_le
      · rw [Nat.shiftLeft_eq]
        calc mag * 2 ^ (place - last).toNat < 2 ^ (mag.log2 + 1) * 2 ^ (place - last).toNat := Nat.mul_lt_mul_of_pos_right hm (Nat.two_pow_pos _)
          _ = 2 ^ (mag.log2 + 1 + (place - last).toNat) := (Nat.pow_add _ _ _).symm
          _ ≤ 2 ^ (53 + (last - place).toNat) := Nat.pow_le_pow_right (by omega) (by omega)
      · intro hz
        rw [Nat.shiftLeft_eq]
        calc mag * 2 ^ (place - last).toNat < 2 ^ (mag.log2 + 1) * 2 ^ (place - last).toNat := Nat.mul_lt_mul_of_pos_right hm (Nat.two_pow_pos _)
          _ = 2 ^ (mag.log2 + 1 + (place - last).toNat) := (Nat.pow_add _ _ _).symm
          _ ≤ 2 ^ 53 := Nat.pow_le_pow_right (by omega) (by omega)
    generalize Toward.even.cut s (mag <<< (place - last).toNat) (last - place).toNat = q at kept
    have hl : (last - -1074).toNat + 2 ≤ (B + 1024).toNat := by omega
    have hK : (B + 1024).toNat ≤ 2000 := by omega
    generalize (last - -1074).toNat = a at hl
    generalize (B + 1024).toNat = K at hl hK
    have hz : a * 4503599627370496 + q ≤ K * 4503599627370496 := by omega
    generalize a * 4503599627370496 + q = z at hz
    have hm2 := Nat.min_le_left z 9218868437227405312
    generalize min z 9218868437227405312 = r at hm2
    rw [rung_word s r (by omega)]
    omega
theorem fin_le {x K : Nat} (h : rung x ≤ K * 4503599627370496) (hK : K ≤ 2000) : fin x = true := by
  unfold fin
  have : K * 4503599627370496 ≤ 2000 * 4503599627370496 := Nat.mul_le_mul_right _ hK
  simp only [decide_eq_true_eq]; omega
/-- A finite word's number, where the word is not great, or not small. -/
theorem read_le {x K : Nat} (h : rung x ≤ K * 4503599627370496) (hK : K ≤ 2000) : ∃ (s : Bool) (m : Nat) (i : Int), F.read x = .number s m i ∧ (m.log2 : Int) + i ≤ max (-1022) ((K : Int) - 1022) := by
  have hf := fin_le h hK
  simp only [fin, decide_eq_true_eq] at hf
  rw [read_eq]
  by_cases h1 : rung x < 4503599627370496
  · rw [if_pos h1]
    refine ⟨_, _, _, rfl, ?_⟩
    have : (rung x).log2 < 52 := by
      by_cases h0 : rung x = 0
      · rw [h0]; decide
      · exact (Nat.log2_lt h0).2 (by omega)
    omega
  · rw [if_neg h1, if_pos hf]
    refine ⟨_, _, _, rfl, ?_⟩
    have : (4503599627370496 + rung x % 4503599627370496).log2 < 53 := (Nat.log2_lt (by omega)).2 (by omega)
    have : rung x / 4503599627370496 ≤ K := Nat.div_le_of_le_mul (by omega)
    omega
theorem read_ge {y : Nat} (h : 4503599627370496000 ≤ rung y) (hf : fin y = true) : ∃ (s : Bool) (m : Nat) (i : Int), F.read y = .number s m i ∧ m ≠ 0 ∧ -100 ≤ i := by
  simp only [fin, decide_eq_true_eq] at hf
  rw [read_eq, if_neg (by omega), if_pos hf]
  refine ⟨_, _, _, rfl, by omega, ?_⟩
  have : 1000 ≤ rung y / 4503599627370496 := by omega
  omega
theorem quo_div (x y : Nat) : floatBits .quo .f64 x y = F.div x y := rfl
theorem add_add (x y : Nat) : floatBits .add .f64 x y = F.add x y := rfl
theorem sub_sub (x y : Nat) : floatBits .sub .f64 x y = F.sub x y := rfl
theorem w64_lt {x : Nat} (h : x < 2 ^ F.width) : x < 18446744073709551616 := h
/-- A quotient of moderate words is finite. -/
theorem quo_fin {x y : Nat} (hx : rung x ≤ 1100 * 4503599627370496) (hy : 4503599627370496000 ≤ rung y) (fy : fin y = true) : ∃ r, floatBits .quo .f64 x y = some r ∧ fin r = true ∧ r < 18446744073709551616 := by
  obtain ⟨s, m, i, e1, h1⟩ := read_le hx (by omega)
  obtain ⟨t, n, j, e2, hn, h2⟩ := read_ge hy fy
  have e : F.div x y = some (F.write (.number (s ^^ t) (2 * (m <<< (54 + n.log2 - m.log2) / n) + ((m <<< (54 + n.log2 - m.log2)) % n != 0).toNat) (i - j - (54 + n.log2 - m.log2 : Nat) - 1))) := by
    unfold Format.div
    rw [e1, e2]
    simp only [Datum.quotient, if_neg hn, Option.map_some]
    rfl
  refine ⟨_, (quo_div x y).trans e, ?_, w64_lt (F.write_lt _)⟩
  show fin (F.nearest _ _ _) = true
  generalize 54 + n.log2 - m.log2 = more
  refine fin_le (nearest_rung _ _ _ 300 ?_ (by omega) (by omega)) (by omega)
  have hm := @Nat.lt_log2_self m
  have hs : m <<< more < 2 ^ (m.log2 + 1 + more) := by
    rw [Nat.shiftLeft_eq, Nat.pow_add _ _ more]
    exact Nat.mul_lt_mul_of_pos_right hm (Nat.two_pow_pos _)
  have hq : m <<< more / n ≤ m <<< more := Nat.div_le_self _ _
  have hb : ((m <<< more) % n != 0).toNat ≤ 1 := by cases ((m <<< more) % n != 0) <;> simp
  generalize ((m <<< more) % n != 0).toNat = b at hb
  generalize m <<< more / n = q at hq
  have hlt : 2 * q + b < 2 ^ (m.log2 + 1 + more + 1) := by rw [Nat.pow_succ]; omega
  by_cases h0 : 2 * q + b = 0
  · rw [h0]
    have : Nat.log2 0 = 0 := by decide
    rw [this]
    omega
  · have := (Nat.log2_lt h0).2 hlt
    omega
/-- A quotient by a moderate word tells something, unless the dividend is no number. -/
theorem quo_some {x y : Nat} (hx : rung x ≤ 9218868437227405312) (hy : 4503599627370496000 ≤ rung y) (fy : fin y = true) : ∃ r, floatBits .quo .f64 x y = some r ∧ r < 18446744073709551616 := by
  obtain ⟨t, n, j, e2, hn, h2⟩ := read_ge hy fy
  have hx' : (∃ s m i, F.read x = .number s m i) ∨ ∃ s, F.read x = .infinity s := by
    rw [read_eq]
    by_cases h1 : rung x < 4503599627370496
    · rw [if_pos h1]; exact .inl ⟨_, _, _, rfl⟩
    · rw [if_neg h1]
      by_cases h3 : rung x < 9218868437227405312
      · rw [if_pos h3]; exact .inl ⟨_, _, _, rfl⟩
      · rw [if_neg h3, if_pos (by omega)]; exact .inr ⟨_, rfl⟩
  rw [quo_div]
  unfold Format.div
  rw [e2]
  rcases hx' with ⟨s, m, i, e1⟩ | ⟨s, e1⟩
  · rw [e1]; simp only [Datum.quotient, if_neg hn, Option.map_some]; exact ⟨_, rfl, w64_lt (F.write_lt _)⟩
  · rw [e1]; simp only [Datum.quotient, Option.map_some]; exact ⟨_, rfl, w64_lt (F.write_lt _)⟩
theorem add_some {x y : Nat} (fx : fin x = true) (fy : fin y = true) : ∃ r, floatBits .add .f64 x y = some r ∧ r < 18446744073709551616 := by
  obtain ⟨r, _, h, _, _⟩ := add_same (rfl : Same x x) (rfl : Same y y) fx fy
  exact ⟨r, h, w64_lt (F.add_lt h)⟩
theorem sub_some {x y : Nat} (fx : fin x = true) (fy : fin y = true) : ∃ r, floatBits .sub .f64 x y = some r ∧ r < 18446744073709551616 := by
  obtain ⟨r, _, h, _, _⟩ := sub_same (rfl : Same x x) (rfl : Same y y) fx fy
  exact ⟨r, h, w64_lt (F.sub_lt h)⟩
/-! The order -/
def val (x : Nat) : Int := match F.read x with
  | .number s m i => signed s m (i + 1074).toNat
  | _ => 0
theorem signed_add (s : Bool) (m p q : Nat) : signed s m (p + q) = signed s m p * ((2 ^ q : Nat) : Int) := by
  unfold signed
  rw [Nat.shiftLeft_eq, Nat.shiftLeft_eq, Nat.pow_add, ← Nat.mul_assoc]
  cases s <;> simp [Int.neg_mul]
theorem cmp_mul (a b : Int) (c : Int) (hc : 0 < c) : compare (a * c) (b * c) = compare a b := by
  have e : ∀ x y : Int, compare x y = if x < y then Ordering.lt else if x = y then Ordering.eq else Ordering.gt := fun x y => rfl
  rw [e, e]
  have h1 : a * c < b * c ↔ a < b := ⟨fun h => Int.lt_of_mul_lt_mul_right h (by omega), fun h => Int.mul_lt_mul_of_pos_right h hc⟩
  have h2 : a * c = b * c ↔ a = b := ⟨fun h => Int.eq_of_mul_eq_mul_right (by omega) h, fun h => by rw [h]⟩
  simp only [h1, h2]
theorem order_val {x y : Nat} (fx : fin x = true) (fy : fin y = true) : FloatKind.f64.format.order x y = some (compare (val x) (val y)) := by
  obtain ⟨m, i, e1, _, _, i0, _, _⟩ := read_fin fx
  obtain ⟨n, j, e2, _, _, j0, _, _⟩ := read_fin fy
  have v1 : val x = signed (sgn x) m (i + 1074).toNat := by unfold val; rw [e1]
  have v2 : val y = signed (sgn y) n (j + 1074).toNat := by unfold val; rw [e2]
  rw [v1, v2]
  show F.order x y = _
  unfold Format.order
  rw [e1, e2]
  simp only [Datum.order]
  have q1 : (i + 1074).toNat = (i - min i j).toNat + (min i j + 1074).toNat := by omega
  have q2 : (j + 1074).toNat = (j - min i j).toNat + (min i j + 1074).toNat := by omega
  rw [q1, q2, signed_add, signed_add, cmp_mul _ _ _ (Int.natCast_pos.2 (Nat.two_pow_pos _))]
theorem cmp_lt (a b : Int) : (compare a b = Ordering.lt ↔ a < b) ∧ (compare a b = Ordering.gt ↔ b < a) ∧ (compare a b = Ordering.eq ↔ a = b) := by
  have e : compare a b = if a < b then Ordering.lt else if a = b then Ordering.eq else Ordering.gt := rfl
  rw [e]
  refine ⟨?_, ?_, ?_⟩
  · by_cases h : a < b
    · simp [h]
    · by_cases h2 : a = b <;> simp [h, h2]
  · by_cases h : a < b
    · simp [h]; omega
    · by_cases h2 : a = b
      · simp [h2]
      · simp [h, h2]; omega
  · by_cases h : a < b
    · simp [h]; omega
    · by_cases h2 : a = b
      · simp [h2]
      · simp [h, h2]
end
theorem u64_small (n : Int) (h0 : 0 ≤ n) (h1 : n < 2 ^ 24) : IntKind.u64.wrap n = n := by simp [IntKind.wrap, IntKind.bits, IntKind.signed]; omega
theorem u64_range (n : Int) : 0 ≤ IntKind.u64.wrap n ∧ IntKind.u64.wrap n < 18446744073709551616 := by simp [IntKind.wrap, IntKind.bits, IntKind.signed]; omega
theorem byte_and (x : Int) (h0 : 0 ≤ x) (h1 : x < 18446744073709551616) : 0 ≤ wrap64 (Go.bits .and .u64 (x / 1099511627776) 255) ∧ wrap64 (Go.bits .and .u64 (x / 1099511627776) 255) ≤ 255 := by
  have e : Go.bits .and .u64 (x / 1099511627776) 255 = (x / 1099511627776) % 256 := bits_mask .u64 24 (by decide) u64_small 8 (by decide) (x / 1099511627776) (by omega) (by omega)
  rw [e, G.w64' (by omega) (by omega)]
  omega
def Bytes (c : List Int) : Prop := ∀ b ∈ c, 0 ≤ b ∧ b ≤ 255
theorem next_ok {c : List Int} (hc : Bytes c) (hl : c.length ≤ 1048576) (a s : Int) (h0 : 0 ≤ a) (h1 : a ≤ 1000000000000) : ∃ b s', spec_l1Cur_next.f c a s = some (b, a + 1, s') ∧ 0 ≤ b ∧ b ≤ 255 := by
  unfold spec_l1Cur_next.f
  rw [G.w64' (i := a + 1) (by omega) (by omega)]
  by_cases h2 : a < (c.length : Int)
  · obtain ⟨i, rfl⟩ : ∃ i : Nat, a = i := ⟨a.toNat, by omega⟩
    have hi : i < c.length := by omega
    have hb := hc c[i] (List.getElem_mem hi)
    rw [if_pos h2, if_pos h0, G.rd_nat hi, G.w64' (i := c[i]) (by omega) (by omega), if_pos (by omega)]
    exact ⟨_, _, rfl, hb.1, hb.2⟩
  · rw [if_neg h2, if_neg (by omega)]
    exact ⟨_, _, rfl, (byte_and _ (u64_range _).1 (u64_range _).2).1, (byte_and _ (u64_range _).1 (u64_range _).2).2⟩
theorem pick_ok {c : List Int} (hc : Bytes c) (hl : c.length ≤ 1048576) (n a s : Int) (h0 : 0 ≤ a) (h1 : a ≤ 900000000000) : ∃ r a' s', spec_l1Cur_pick.f c a s n = some (r, a', s') ∧ 0 ≤ r ∧ (1 < n → r < n) ∧ (n ≤ 1 → r = 0) ∧ a ≤ a' ∧ a' ≤ a + 2 := by
  unfold spec_l1Cur_pick.f
  by_cases hn : n ≤ 1
  · rw [if_pos hn]; exact ⟨0, a, s, rfl, by omega, by omega, by omega, by omega, by omega⟩
  · rw [if_neg hn]
    obtain ⟨b, s1, e1, b0, b1⟩ := next_ok hc hl a s h0 (by omega)
    rw [e1]
    simp only [Option.bind_some]
    by_cases h2 : n > 200
    · obtain ⟨d, s2, e2, d0, d1⟩ := next_ok hc hl (a + 1) s1 (by omega) (by omega)
      rw [if_pos h2, e2]
      simp only [Option.bind_some]
      rw [if_neg (by omega), G.w64' (i := b * 256) (by omega) (by omega), G.w64' (by omega) (by omega), Int.tmod_eq_emod_of_nonneg (by omega)]
      exact ⟨_, _, _, rfl, Int.emod_nonneg _ (by omega), fun _ => Int.emod_lt_of_pos _ (by omega), fun h => absurd h hn, by omega, by omega⟩
    · rw [if_neg h2, if_neg (by omega), Int.tmod_eq_emod_of_nonneg (by omega)]
      exact ⟨_, _, _, rfl, Int.emod_nonneg _ (by omega), fun _ => Int.emod_lt_of_pos _ (by omega), fun h => absurd h hn, by omega, by omega⟩
theorem one_ok {c : List Int} (hc : Bytes c) (hl : c.length ≤ 1048576) (n a s : Int) (h0 : 0 ≤ a) (h1 : a ≤ 900000000000) : ∃ r a' s', spec_l1Cur_one.f c a s n = some (r, a', s') ∧ a ≤ a' ∧ a' ≤ a + 2 := by
  obtain ⟨r, a', s', e, _, _, _, h2, h3⟩ := pick_ok hc hl n a s h0 h1
  unfold spec_l1Cur_one.f
  rw [e]
  exact ⟨_, _, _, rfl, h2, h3⟩
/-! What is drawn of floats: some word, a sound one finite. -/
open Go.Proofs.Ytbhnnobpjmnngaa.Flo in
theorem int_fin (n : Int) (h : n.natAbs ≤ 100000) : rung (floatOfInt .f64 n) ≤ 1100 * 4503599627370496 := by
  show rung (Go.Proofs.Ytbhnnobpjmnngaa.Flo.F.nearest (decide (n < 0)) n.natAbs 0) ≤ _
  have hl : n.natAbs.log2 < 20 := by
    by_cases h0 : n.natAbs = 0
    · rw [h0]; decide
    · exact (Nat.log2_lt h0).2 (by omega)
  have h2 := nearest_rung (decide (n < 0)) n.natAbs 0 20 (by omega) (by omega) (by omega)
  exact Nat.le_trans h2 (by decide)
open Go.Proofs.Ytbhnnobpjmnngaa.Flo in
theorem den_all : ∀ d : Fin 1001, d.val = 0 ∨ (4503599627370496000 ≤ rung (floatOfInt .f64 (d.val : Int)) ∧ fin (floatOfInt .f64 (d.val : Int)) = true) := by decide +kernel
open Go.Proofs.Ytbhnnobpjmnngaa.Flo in
theorem den_ok (d : Int) (h1 : 1 ≤ d) (h2 : d ≤ 1000) : 4503599627370496000 ≤ rung (floatOfInt .f64 d) ∧ fin (floatOfInt .f64 d) = true := by
  have h := den_all ⟨d.toNat, by omega⟩
  simp only at h
  rw [show ((d.toNat : Nat) : Int) = d by omega] at h
  rcases h with h | h
  · omega
  · exact h
theorem int_lt (n : Int) : floatOfInt .f64 n < 18446744073709551616 := Ieee.Format.nearest_lt Go.Proofs.Ytbhnnobpjmnngaa.Flo.F _ _ _
open Go.Proofs.Ytbhnnobpjmnngaa.Flo in
theorem int_num (n : Int) : rung (floatOfInt .f64 n) ≤ 9218868437227405312 := by
  show rung (F.nearest (decide (n < 0)) n.natAbs 0) ≤ _
  unfold Ieee.Format.nearest
  dsimp only
  split
  · rw [rung_word _ _ (by omega)]; omega
  · have h := Nat.min_le_right ((max ((0 : Int) + (n.natAbs.log2 : Int) - (F.fractionBits : Int)) F.leastPlace - F.leastPlace).toNat * F.binade + Ieee.Toward.even.cut (decide (n < 0)) (n.natAbs <<< ((0 : Int) - max ((0 : Int) + (n.natAbs.log2 : Int) - (F.fractionBits : Int)) F.leastPlace).toNat) (max ((0 : Int) + (n.natAbs.log2 : Int) - (F.fractionBits : Int)) F.leastPlace - 0).toNat) F.infRung
    have e4 : F.infRung = 9218868437227405312 := rfl
    rw [e4] at h ⊢
    generalize min _ 9218868437227405312 = r at h ⊢
    rw [rung_word _ r (by omega)]; exact h
theorem fl2_of {op : BinOp} {x y r : Nat} (h : floatBits op .f64 x y = some r) : (floatBits op .f64 x y).isSome = true ∧ fl2 op x y = r := by
  unfold fl2; rw [h]; exact ⟨rfl, rfl⟩
open Go.Proofs.Ytbhnnobpjmnngaa.Flo in
theorem plain_ok (v : Nat) (hv : v < 18446744073709551616) (hf : fin v = true) : ∃ r, spec_l2Plain.f v = some r ∧ r < 18446744073709551616 ∧ fin r = true := by
  unfold spec_l2Plain.f
  split
  · exact ⟨0, rfl, by omega, rfl⟩
  · exact ⟨v, rfl, hv, hf⟩
theorem plain_lt (v : Nat) (hv : v < 18446744073709551616) : ∃ r, spec_l2Plain.f v = some r ∧ r < 18446744073709551616 := by
  unfold spec_l2Plain.f
  split
  · exact ⟨0, rfl, by omega⟩
  · exact ⟨v, rfl, hv⟩
theorem shl_small (k : Int) (h0 : 0 ≤ k) (h1 : k < 6) : 1 ≤ shl .i64 1 (IntKind.u64.wrap k) ∧ shl .i64 1 (IntKind.u64.wrap k) ≤ 32 := by
  obtain rfl | rfl | rfl | rfl | rfl | rfl : k = 0 ∨ k = 1 ∨ k = 2 ∨ k = 3 ∨ k = 4 ∨ k = 5 := by omega
  all_goals decide +kernel
open Go.Proofs.Ytbhnnobpjmnngaa.Flo in
theorem sound_ok {c : List Int} (hc : Bytes c) (hl : c.length ≤ 1048576) (a s : Int) (h0 : 0 ≤ a) (h1 : a ≤ 800000000000) : ∃ v a' s', spec_l1Cur_sound.f c a s = some (v, a', s') ∧ v < 18446744073709551616 ∧ fin v = true ∧ a ≤ a' ∧ a' ≤ a + 6 := by
  obtain ⟨b, a1, s1, e1, _, _, _, p1, q1⟩ := pick_ok hc hl 6 a s h0 (by omega)
  unfold spec_l1Cur_sound.f
  rw [e1, Option.bind_some]
  dsimp only
  by_cases c0 : b = 0
  · rw [if_pos c0]
    obtain ⟨n, a2, s2, e2, n0, n1, _, p2, q2⟩ := pick_ok hc hl 20001 a1 s1 (by omega) (by omega)
    have n1 := n1 (by omega)
    rw [e2, Option.bind_some]
    dsimp only
    rw [G.w64' (by omega) (by omega)]
    obtain ⟨r, hr, fr, wr⟩ := quo_fin (int_fin (n - 10000) (by omega)) (show 4503599627370496000 ≤ rung (4652007308841189376 : Nat) by decide) (by decide)
    obtain ⟨i1, i2⟩ := fl2_of hr
    rw [if_pos i1, i2]
    obtain ⟨v, hv, wv, fv⟩ := plain_ok r wr fr
    rw [hv]
    exact ⟨v, a2, s2, rfl, wv, fv, by omega, by omega⟩
  · rw [if_neg c0]
    by_cases c1 : b = 1
    · rw [if_pos c1]
      obtain ⟨n, a2, s2, e2, n0, n1, _, p2, q2⟩ := pick_ok hc hl 200 a1 s1 (by omega) (by omega)
      have n1 := n1 (by omega)
      rw [e2, Option.bind_some]
      dsimp only
      obtain ⟨d, a3, s3, e3, d0, d1, _, p3, q3⟩ := pick_ok hc hl 99 a2 s2 (by omega) (by omega)
      have d1 := d1 (by omega)
      rw [e3, Option.bind_some]
      dsimp only
      rw [G.w64' (i := n - 100) (by omega) (by omega), G.w64' (i := 1 + d) (by omega) (by omega)]
      obtain ⟨y1, y2⟩ := den_ok (1 + d) (by omega) (by omega)
      obtain ⟨r, hr, fr, wr⟩ := quo_fin (int_fin (n - 100) (by omega)) y1 y2
      obtain ⟨i1, i2⟩ := fl2_of hr
      rw [if_pos i1, i2]
      obtain ⟨v, hv, wv, fv⟩ := plain_ok r wr fr
      rw [hv]
      exact ⟨v, a3, s3, rfl, wv, fv, by omega, by omega⟩
    · rw [if_neg c1]
      obtain ⟨n, a2, s2, e2, n0, n1, _, p2, q2⟩ := pick_ok hc hl 41 a1 s1 (by omega) (by omega)
      have n1 := n1 (by omega)
      rw [e2, Option.bind_some]
      dsimp only
      obtain ⟨d, a3, s3, e3, d0, d1, _, p3, q3⟩ := pick_ok hc hl 6 a2 s2 (by omega) (by omega)
      have d1 := d1 (by omega)
      rw [e3, Option.bind_some]
      dsimp only
      obtain ⟨z1, z2⟩ := shl_small d d0 d1
      rw [if_pos (u64_range d).1, G.w64' (i := n - 20) (by omega) (by omega)]
      obtain ⟨y1, y2⟩ := den_ok _ z1 (by omega)
      obtain ⟨r, hr, fr, wr⟩ := quo_fin (int_fin (n - 20) (by omega)) y1 y2
      obtain ⟨i1, i2⟩ := fl2_of hr
      rw [if_pos i1, i2]
      obtain ⟨v, hv, wv, fv⟩ := plain_ok r wr fr
      rw [hv]
      exact ⟨v, a3, s3, rfl, wv, fv, by omega, by omega⟩
theorem wide_loop {c : List Int} (hc : Bytes c) (hl : c.length ≤ 1048576) : ∀ i : Nat, i ≤ 8 → ∀ n a s : Int, 0 ≤ a → a ≤ 800000000000 + i → ∃ r : Int × Int × Int, Ev (fun k => spec_l1Cur_wide.l0 k n (i : Int) c a s) r ∧ a ≤ r.2.1 ∧ r.2.1 ≤ a + (8 - i) := by
  refine G.down_ind 8 (fun i => ∀ n a s : Int, 0 ≤ a → a ≤ 800000000000 + i → ∃ r : Int × Int × Int, Ev (fun k => spec_l1Cur_wide.l0 k n (i : Int) c a s) r ∧ a ≤ r.2.1 ∧ r.2.1 ≤ a + (8 - i)) ?_ ?_
  · intro n a s h0 h1
    refine ⟨(n, a, s), G.succ ?_, by simp, by simp⟩
    simp only [spec_l1Cur_wide.l0]
    exact G.neg (by omega) (G.now fun _ => rfl)
  · intro i hi ih n a s h0 h1
    obtain ⟨b, s1, e1, _, _⟩ := next_ok hc hl a s h0 (by omega)
    obtain ⟨r, hr, p, q⟩ := ih (Go.bits .or .i64 (wrap64 (n * 256)) b) (a + 1) s1 (by omega) (by omega)
    refine ⟨r, G.succ ?_, by omega, by omega⟩
    simp only [spec_l1Cur_wide.l0, G.w64 i (by omega)]
    exact G.pos (by omega) (G.bind0 e1 hr)
theorem wide_ok {c : List Int} (hc : Bytes c) (hl : c.length ≤ 1048576) (a s : Int) (h0 : 0 ≤ a) (h1 : a ≤ 800000000000) : ∃ n a' s', Ev (fun k => spec_l1Cur_wide.f k c a s) (n, a', s') ∧ a ≤ a' ∧ a' ≤ a + 8 := by
  obtain ⟨⟨n, a', s'⟩, h, p, q⟩ := wide_loop hc hl 0 (by omega) 0 a s h0 (by omega)
  exact ⟨n, a', s', h, p, by simpa using q⟩
theorem sized_ok {c : List Int} (hc : Bytes c) (hl : c.length ≤ 1048576) (a s : Int) (h0 : 0 ≤ a) (h1 : a ≤ 700000000000) : ∃ n a' s', Ev (fun k => spec_l1Cur_sized.f k c a s) (n, a', s') ∧ a ≤ a' ∧ a' ≤ a + 20 := by
  obtain ⟨b, a1, s1, e1, _, _, _, p1, q1⟩ := pick_ok hc hl 5 a s h0 (by omega)
  obtain ⟨d, a2, s2, e2, _, _, _, p2, q2⟩ := pick_ok hc hl 8 a1 s1 (by omega) (by omega)
  have last (n m a s : Int) (h0 : 0 ≤ a) (h1 : a ≤ 800000000000) : ∃ r a' s', Ev (fun k : Nat => (spec_l1Cur_one.f c a s 3).bind fun bt => (if bt.1 = true then (some (n, bt.2.1, bt.2.2)) else (some (m, bt.2.1, bt.2.2)))) (r, a', s') ∧ a ≤ a' ∧ a' ≤ a + 2 := by
    obtain ⟨b, a1, s1, e1, p1, q1⟩ := one_ok hc hl 3 a s h0 (by omega)
    cases b with
    | true => exact ⟨n, a1, s1, G.bind0 e1 (G.pos rfl (G.now fun _ => rfl)), p1, q1⟩
    | false => exact ⟨m, a1, s1, G.bind0 e1 (G.neg (by simp) (G.now fun _ => rfl)), p1, q1⟩
  simp only [spec_l1Cur_sized.f]
  by_cases c0 : d = 0
  · obtain ⟨n, a3, s3, e3, _, _, _, p3, q3⟩ := pick_ok hc hl 300 a2 s2 (by omega) (by omega)
    obtain ⟨r, a4, s4, h, p4, q4⟩ := last (wrap64 (-n)) n a3 s3 (by omega) (by omega)
    exact ⟨r, a4, s4, G.bind0 e1 (G.bind0 e2 (G.pos c0 (G.bind0 e3 h))), by omega, by omega⟩
  by_cases c1 : d = 1
  · obtain ⟨n, a3, s3, e3, p3, q3⟩ := wide_ok hc hl a2 s2 (by omega) (by omega)
    obtain ⟨k, a4, s4, e4, _, _, _, p4, q4⟩ := pick_ok hc hl 64 a3 s3 (by omega) (by omega)
    obtain ⟨r, a5, s5, h, p5, q5⟩ := last (wrap64 (-(shr .i64 n (IntKind.u64.wrap k)))) (shr .i64 n (IntKind.u64.wrap k)) a4 s4 (by omega) (by omega)
    exact ⟨r, a5, s5, G.bind0 e1 (G.bind0 e2 (G.neg c0 (G.pos c1 (G.bind e3 (G.bind0 e4 (G.pos (u64_range k).1 h)))))), by omega, by omega⟩
  by_cases c2 : d = 2
  · obtain ⟨k, a4, s4, e4, _, _, _, p4, q4⟩ := pick_ok hc hl 64 a2 s2 (by omega) (by omega)
    obtain ⟨r, a5, s5, h, p5, q5⟩ := last (wrap64 (-(shl .i64 1 (IntKind.u64.wrap k)))) (shl .i64 1 (IntKind.u64.wrap k)) a4 s4 (by omega) (by omega)
    exact ⟨r, a5, s5, G.bind0 e1 (G.bind0 e2 (G.neg c0 (G.neg c1 (G.pos c2 (G.bind0 e4 (G.pos (u64_range k).1 h)))))), by omega, by omega⟩
  by_cases c3 : d = 3
  · obtain ⟨k, a4, s4, e4, _, _, _, p4, q4⟩ := pick_ok hc hl 64 a2 s2 (by omega) (by omega)
    obtain ⟨r, a5, s5, h, p5, q5⟩ := last (wrap64 (-(wrap64 ((shl .i64 1 (IntKind.u64.wrap k)) - 1)))) (wrap64 ((shl .i64 1 (IntKind.u64.wrap k)) - 1)) a4 s4 (by omega) (by omega)
    exact ⟨r, a5, s5, G.bind0 e1 (G.bind0 e2 (G.neg c0 (G.neg c1 (G.neg c2 (G.pos c3 (G.bind0 e4 (G.pos (u64_range k).1 h))))))), by omega, by omega⟩
  · obtain ⟨r, a5, s5, h, p5, q5⟩ := last (wrap64 (-b)) b a2 s2 (by omega) (by omega)
    exact ⟨r, a5, s5, G.bind0 e1 (G.bind0 e2 (G.neg c0 (G.neg c1 (G.neg c2 (G.neg c3 h))))), by omega, by omega⟩
theorem copysign_lt : ∃ v, math_Copysign.f (0 : Nat) (13830554455654793216 : Nat) = some v ∧ v < 18446744073709551616 := ⟨_, rfl, by decide +kernel⟩
open Go.Proofs.Ytbhnnobpjmnngaa.Flo in
theorem real_ok {c : List Int} (hc : Bytes c) (hl : c.length ≤ 1048576) (a s : Int) (h0 : 0 ≤ a) (h1 : a ≤ 600000000000) : ∃ v a' s', Ev (fun k => spec_l1Cur_real.f k c a s) (v, a', s') ∧ v < 18446744073709551616 ∧ a ≤ a' ∧ a' ≤ a + 30 := by
  obtain ⟨b, a1, s1, e1, _, _, _, p1, q1⟩ := pick_ok hc hl 14 a s h0 (by omega)
  simp only [spec_l1Cur_real.f]
  by_cases c0 : b = 0
  · obtain ⟨n, a3, s3, e3, p3, q3⟩ := wide_ok hc hl a1 s1 (by omega) (by omega)
    have hu := u64_range n
    exact ⟨(IntKind.u64.wrap n).toNat, a3, s3, G.bind0 e1 (G.pos c0 (G.bind e3 (G.now fun _ => rfl))), by omega, by omega, by omega⟩
  by_cases c1 : b = 1
  · obtain ⟨v, hv, wv⟩ := copysign_lt
    obtain ⟨i, a3, s3, e3, i0, i1, _, p3, q3⟩ := pick_ok hc hl 11 a1 s1 (by omega) (by omega)
    have i1 := i1 (by omega)
    have hlist : rdOf (0 : Nat) [9218868437227405311, 18442240474082181119, 1, 9223372036854775809, 4503599627370496, 9218868437227405312, 9221120237041090561, v, 4846369599423283200, 4845873199050653696, 4591870180066957722] i < 18446744073709551616 := by
      obtain ⟨j, rfl⟩ : ∃ j : Nat, i = j := ⟨i.toNat, by omega⟩
      have hall : ∀ x ∈ [9218868437227405311, 18442240474082181119, 1, 9223372036854775809, 4503599627370496, 9218868437227405312, 9221120237041090561, v, 4846369599423283200, 4845873199050653696, 4591870180066957722], x < 18446744073709551616 := by
        intro x hx
        simp only [List.mem_cons, List.not_mem_nil, or_false] at hx
        omega
      rw [rdf (show j < _ by simp; omega)]
      exact hall _ (List.getElem_mem _)
    exact ⟨_, a3, s3, G.bind0 e1 (G.neg c0 (G.pos c1 (G.bind0 rfl (G.bind0 rfl (G.bind0 hv (G.bind0 rfl (G.bind0 e3 (G.pos i0 (G.pos (by simp; omega) (G.now fun _ => rfl)))))))))), hlist, by omega, by omega⟩
  by_cases c2 : b = 2
  · obtain ⟨n, a3, s3, e3, p3, q3⟩ := sized_ok hc hl a1 s1 (by omega) (by omega)
    exact ⟨_, a3, s3, G.bind0 e1 (G.neg c0 (G.neg c1 (G.pos c2 (G.bind e3 (G.now fun _ => rfl))))), int_lt n, by omega, by omega⟩
  by_cases c3 : b = 3
  · obtain ⟨n, a3, s3, e3, p3, q3⟩ := sized_ok hc hl a1 s1 (by omega) (by omega)
    obtain ⟨d, a4, s4, e4, d0, d1, _, p4, q4⟩ := pick_ok hc hl 1000 a3 s3 (by omega) (by omega)
    have d1 := d1 (by omega)
    obtain ⟨y1, y2⟩ := den_ok (1 + d) (by omega) (by omega)
    obtain ⟨r, hr, wr⟩ := quo_some (int_num n) y1 y2
    have ew : wrap64 (1 + d) = 1 + d := G.w64' (by omega) (by omega)
    obtain ⟨i1, i2⟩ := fl2_of hr
    refine ⟨r, a4, s4, G.bind0 e1 (G.neg c0 (G.neg c1 (G.neg c2 (G.pos c3 (G.bind e3 (G.bind0 e4 ?_)))))), wr, by omega, by omega⟩
    simp only [ew]
    exact G.pos i1 (G.now fun _ => by rw [i2])
  · obtain ⟨n, a2, s2, e2, n0, n1, _, p2, q2⟩ := pick_ok hc hl 41 a1 s1 (by omega) (by omega)
    have n1 := n1 (by omega)
    obtain ⟨d, a3, s3, e3, d0, d1, _, p3, q3⟩ := pick_ok hc hl 6 a2 s2 (by omega) (by omega)
    have d1 := d1 (by omega)
    obtain ⟨z1, z2⟩ := shl_small d d0 d1
    have ew : wrap64 (n - 20) = n - 20 := G.w64' (by omega) (by omega)
    obtain ⟨y1, y2⟩ := den_ok _ z1 (by omega)
    obtain ⟨r, hr, fr, wr⟩ := quo_fin (int_fin (n - 20) (by omega)) y1 y2
    obtain ⟨i1, i2⟩ := fl2_of hr
    refine ⟨r, a3, s3, G.bind0 e1 (G.neg c0 (G.neg c1 (G.neg c2 (G.neg c3 (G.bind0 e2 (G.bind0 e3 (G.pos (u64_range d).1 ?_))))))), wr, by omega, by omega⟩
    simp only [ew]
    exact G.pos i1 (G.now fun _ => by rw [i2])
open Go.Proofs.Ytbhnnobpjmnngaa.Flo in
theorem absf_ok (v : Nat) (h : v < 18446744073709551616) : math_Abs.f v = some (rung v) := by
  unfold math_Abs.f; rw [abs_word v h]
def finl (l : List Nat) : Prop := ∀ x ∈ l, x < 18446744073709551616 ∧ Go.Proofs.Ytbhnnobpjmnngaa.Flo.fin x = true
theorem wfl_snoc {l : List Nat} {x : Nat} (h : wfl l) (w : x < 18446744073709551616) : wfl (l ++ [x]) := by
  intro y hy
  rcases List.mem_append.1 hy with hy | hy
  · exact h y hy
  · simp at hy; rw [hy]; exact w
theorem wfl_set {l : List Nat} {i x : Nat} (h : wfl l) (w : x < 18446744073709551616) : wfl (l.set i x) := by
  intro y hy
  rcases List.mem_or_eq_of_mem_set hy with hy | hy
  · exact h y hy
  · rw [hy]; exact w
theorem finl_snoc {l : List Nat} {x : Nat} (h : finl l) (w : x < 18446744073709551616) (f : Go.Proofs.Ytbhnnobpjmnngaa.Flo.fin x = true) : finl (l ++ [x]) := by
  intro y hy
  rcases List.mem_append.1 hy with hy | hy
  · exact h y hy
  · simp at hy; rw [hy]; exact ⟨w, f⟩
open Go.Proofs.Ytbhnnobpjmnngaa.Flo in
theorem box_loop {c : List Int} (hc : Bytes c) (hl : c.length ≤ 1048576) (n : Nat) (hn : n ≤ 5) : ∀ i, i ≤ n → ∀ (a s : Int) (L H : List Nat), L.length = i → H.length = i → finl L → wfl H → 0 ≤ a → a ≤ 100000 + 100 * i →
    ∃ r : List Nat × List Nat × Int × Int, Ev (fun k => spec_l1Cur_box.l0 k n (i : Int) c a s L H) r ∧ wfl r.1 ∧ wfl r.2.1 ∧ r.1.length ≤ 6 ∧ r.2.1.length ≤ 6 ∧ 0 ≤ r.2.2.1 ∧ r.2.2.1 ≤ a + 100 * (n - i) + 2 := by
  refine G.down_ind n (fun i => ∀ (a s : Int) (L H : List Nat), L.length = i → H.length = i → finl L → wfl H → 0 ≤ a → a ≤ 100000 + 100 * i →
    ∃ r : List Nat × List Nat × Int × Int, Ev (fun k => spec_l1Cur_box.l0 k n (i : Int) c a s L H) r ∧ wfl r.1 ∧ wfl r.2.1 ∧ r.1.length ≤ 6 ∧ r.2.1.length ≤ 6 ∧ 0 ≤ r.2.2.1 ∧ r.2.2.1 ≤ a + 100 * (n - i) + 2) ?_ ?_
  · intro a s L H hL hH fL wH h0 h1
    have wL : wfl L := fun x hx => (fL x hx).1
    obtain ⟨b, a1, s1, e1, _, _, _, p1, q1⟩ := pick_ok hc hl 40 a s h0 (by omega)
    by_cases c0 : b = 0
    · refine ⟨(L, H ++ [4607182418800017408], a1, s1), G.succ ?_, wL, wfl_snoc wH (by omega), by simp; omega, by simp; omega, by simp; omega, by simp; omega⟩
      simp only [spec_l1Cur_box.l0]
      exact G.neg (by omega) (G.bind0 e1 (G.pos c0 (G.pos (by omega) (G.now fun _ => rfl))))
    · by_cases c1 : b = 1
      · by_cases hp : n = 0
        · refine ⟨(L, H, a1, s1), G.succ ?_, wL, wH, by simp; omega, by simp; omega, by simp; omega, by simp; omega⟩
          simp only [spec_l1Cur_box.l0]
          exact G.neg (by omega) (G.bind0 e1 (G.neg c0 (G.pos c1 (G.neg (by omega) (G.now fun _ => rfl)))))
        · have h00 : rdOf (0 : Nat) L 0 = L[0]'(by omega) := rdf (l := L) (i := 0) (by omega)
          obtain ⟨w0, f0⟩ := fL _ (List.getElem_mem (show 0 < L.length by omega))
          obtain ⟨r, hr, wr⟩ := sub_some f0 (show fin (4607182418800017408 : Nat) = true by decide)
          rw [← h00] at hr
          obtain ⟨i1, i2⟩ := fl2_of hr
          refine ⟨(L, H.set (0 : Int).toNat r, a1, s1), G.succ ?_, wL, wfl_set wH wr, by simp; omega, by simp; omega, by simp; omega, by simp; omega⟩
          simp only [spec_l1Cur_box.l0]
          exact G.neg (by omega) (G.bind0 e1 (G.neg c0 (G.pos c1 (G.pos (by omega) (G.pos (by omega) (G.pos i1 (G.pos (by omega) (G.now fun _ => by rw [i2]))))))))
      · refine ⟨(L, H, a1, s1), G.succ ?_, wL, wH, by simp; omega, by simp; omega, by simp; omega, by simp; omega⟩
        simp only [spec_l1Cur_box.l0]
        exact G.neg (by omega) (G.bind0 e1 (G.neg c0 (G.neg c1 (G.now fun _ => rfl))))
  · intro i hi ih a s L H hL hH fL wH h0 h1
    obtain ⟨x, a1, s1, e1, wx, fx, p1, q1⟩ := sound_ok hc hl a s h0 (by omega)
    obtain ⟨y, a2, s2, e2, wy, fy, p2, q2⟩ := sound_ok hc hl a1 s1 (by omega) (by omega)
    have e3 := absf_ok y wy
    obtain ⟨z, hz, wz⟩ := add_some fx (show fin (rung y) = true by rw [fin_rung]; exact fy)
    obtain ⟨i1, i2⟩ := fl2_of hz
    obtain ⟨b, a4, s4, e4, p4, q4⟩ := one_ok hc hl 40 a2 s2 (by omega) (by omega)
    cases b with
    | true =>
      obtain ⟨u, a5, s5, e5, wu, p5, q5⟩ := real_ok hc hl a4 s4 (by omega) (by omega)
      obtain ⟨t, e6, wt⟩ := plain_lt u wu
      obtain ⟨r, hr, r1, r2, r3, r4, r5, r6⟩ := ih a5 s5 (L ++ [x]) (H ++ [t]) (by simp [hL]) (by simp [hH]) (finl_snoc fL wx fx) (wfl_snoc wH wt) (by omega) (by omega)
      refine ⟨r, G.succ ?_, r1, r2, r3, r4, r5, by omega⟩
      simp only [spec_l1Cur_box.l0, G.w64 i (by omega)]
      exact G.pos (by omega) (G.bind0 e1 (G.bind0 e2 (G.bind0 e3 (G.pos i1 (G.bind0 e4 (G.pos rfl (G.bind e5 (G.pos (by omega) (G.bind0 e6 (G.pos (by omega) hr))))))))))
    | false =>
      obtain ⟨t, e6, wt⟩ := plain_lt z wz
      obtain ⟨r, hr, r1, r2, r3, r4, r5, r6⟩ := ih a4 s4 (L ++ [x]) (H ++ [t]) (by simp [hL]) (by simp [hH]) (finl_snoc fL wx fx) (wfl_snoc wH wt) (by omega) (by omega)
      refine ⟨r, G.succ ?_, r1, r2, r3, r4, r5, by omega⟩
      simp only [spec_l1Cur_box.l0, G.w64 i (by omega)]
      exact G.pos (by omega) (G.bind0 e1 (G.bind0 e2 (G.bind0 e3 (G.pos i1 (G.bind0 e4 (G.neg (by simp) (G.pos (by omega) (G.bind0 (show spec_l2Plain.f (fl2 .add x (rung y)) = some t by rw [i2]; exact e6) (G.pos (by omega) hr)))))))))
theorem boxd_ok {c : List Int} (hc : Bytes c) (hl : c.length ≤ 1048576) (n : Int) (hn0 : 0 ≤ n) (hn : n ≤ 5) (a s : Int) (h0 : 0 ≤ a) (h1 : a ≤ 100000) : ∃ (L H : List Nat) (a' s' : Int), Ev (fun k => spec_l1Cur_box.f k c a s n) (L, H, a', s') ∧ wfl L ∧ wfl H ∧ L.length ≤ 6 ∧ H.length ≤ 6 ∧ 0 ≤ a' ∧ a' ≤ a + 502 := by
  obtain ⟨m, rfl⟩ : ∃ m : Nat, n = m := ⟨n.toNat, by omega⟩
  obtain ⟨⟨L, H, a', s'⟩, hr, r1, r2, r3, r4, r5, r6⟩ := box_loop hc hl m (by omega) 0 (Nat.zero_le _) a s [] [] rfl rfl (fun _ h => by simp at h) (fun _ h => by simp at h) h0 (by omega)
  exact ⟨L, H, a', s', hr, r1, r2, r3, r4, r5, by simp at r6; omega⟩
theorem dim_ok {c : List Int} (hc : Bytes c) (hl : c.length ≤ 1048576) (a s : Int) (h0 : 0 ≤ a) (h1 : a ≤ 100000) : ∃ n a' s', spec_l1Cur_dim.f c a s = some (n, a', s') ∧ 0 ≤ n ∧ n ≤ 4 ∧ a ≤ a' ∧ a' ≤ a + 4 := by
  obtain ⟨b, a1, s1, e1, p1, q1⟩ := one_ok hc hl 24 a s h0 (by omega)
  unfold spec_l1Cur_dim.f
  rw [e1, Option.bind_some]
  cases b with
  | true =>
    obtain ⟨n, a2, s2, e2, n0, n1, _, p2, q2⟩ := pick_ok hc hl 5 a1 s1 (by omega) (by omega)
    have n1 := n1 (by omega)
    rw [if_pos rfl, e2]
    exact ⟨n, a2, s2, rfl, by omega, by omega, by omega, by omega⟩
  | false =>
    obtain ⟨n, a2, s2, e2, n0, n1, _, p2, q2⟩ := pick_ok hc hl 3 a1 s1 (by omega) (by omega)
    have n1 := n1 (by omega)
    rw [if_neg (by simp), e2, Option.bind_some]
    dsimp only
    rw [G.w64' (by omega) (by omega)]
    exact ⟨1 + n, a2, s2, rfl, by omega, by omega, by omega, by omega⟩
theorem boxes_ok {c : List Int} (hc : Bytes c) (hl : c.length ≤ 1048576) : ∃ (A B C D : List Nat) (inc : Bool), Ev (fun k => spec_DrawBoxHull.f k c) (A, B, C, D, inc) ∧ (wfl A ∧ wfl B ∧ wfl C ∧ wfl D) ∧ (A.length ≤ 6 ∧ B.length ≤ 6 ∧ C.length ≤ 6 ∧ D.length ≤ 6) := by
  obtain ⟨n, a1, s1, e1, n0, n1, p1, q1⟩ := dim_ok hc hl 0 0 (by omega) (by omega)
  obtain ⟨A, B, a2, s2, e2, wA, wB, lA, lB, p2, q2⟩ := boxd_ok hc hl n n0 (by omega) a1 s1 (by omega) (by omega)
  obtain ⟨b, a3, s3, e3, p3, q3⟩ := one_ok hc hl 4 a2 s2 p2 (by omega)
  simp only [spec_DrawBoxHull.f, spec_l17Boxes.f]
  cases b with
  | true =>
    by_cases hB : (B.length : Int) > 0
    · exact ⟨A, B, A, B, true, G.bind (a := (A, B, A, B, true)) (G.bind0 e1 (G.bind e2 (G.bind0 e3 (G.pos rfl (G.bind0 rfl (G.pos (by simp; omega) (G.bind0 rfl (G.bind0 rfl (G.pos (by simp; omega) (G.bind0 rfl (G.pos (by simpa using hB) (G.pos (by simpa using hB) (G.now fun _ => rfl))))))))))))) (G.now fun _ => rfl), ⟨wA, wB, wA, wB⟩, ⟨lA, lB, lA, lB⟩⟩
    · exact ⟨A, B, A, B, false, G.bind (a := (A, B, A, B, false)) (G.bind0 e1 (G.bind e2 (G.bind0 e3 (G.pos rfl (G.bind0 rfl (G.pos (by simp; omega) (G.bind0 rfl (G.bind0 rfl (G.pos (by simp; omega) (G.bind0 rfl (G.neg (by simpa using hB) (G.now fun _ => rfl)))))))))))) (G.now fun _ => rfl), ⟨wA, wB, wA, wB⟩, ⟨lA, lB, lA, lB⟩⟩
  | false =>
    obtain ⟨b, a4, s4, e4, p4, q4⟩ := one_ok hc hl 20 a3 s3 (by omega) (by omega)
    cases b with
    | true =>
      obtain ⟨C, D, a5, s5, e5, wC, wD, lC, lD, p5, q5⟩ := boxd_ok hc hl (n + 1) (by omega) (by omega) a4 s4 (by omega) (by omega)
      have ew : wrap64 (n + 1) = n + 1 := G.w64' (by omega) (by omega)
      refine ⟨A, B, C, D, false, G.bind (a := (A, B, C, D, false)) (G.bind0 e1 (G.bind e2 (G.bind0 e3 (G.neg (by simp) (G.bind0 e4 (G.pos rfl ?_)))))) (G.now fun _ => rfl), ⟨wA, wB, wC, wD⟩, ⟨lA, lB, lC, lD⟩⟩
      simp only [ew]
      exact G.bind e5 (G.now fun _ => rfl)
    | false =>
      obtain ⟨C, D, a5, s5, e5, wC, wD, lC, lD, p5, q5⟩ := boxd_ok hc hl n n0 (by omega) a4 s4 (by omega) (by omega)
      exact ⟨A, B, C, D, false, G.bind (a := (A, B, C, D, false)) (G.bind0 e1 (G.bind e2 (G.bind0 e3 (G.neg (by simp) (G.bind0 e4 (G.neg (by simp) (G.bind e5 (G.now fun _ => rfl)))))))) (G.now fun _ => rfl), ⟨wA, wB, wC, wD⟩, ⟨lA, lB, lC, lD⟩⟩
/-! The hull and the meet, edge by edge. -/
def zipL (f : Nat → Nat → Nat) (a c : List Nat) : List Nat := (List.range a.length).map fun i => f (a.getD i 0) (c.getD i 0)
theorem zipL_length (f : Nat → Nat → Nat) (a c : List Nat) : (zipL f a c).length = a.length := by simp [zipL]
theorem zipL_get (f : Nat → Nat → Nat) {a c : List Nat} (hc : c.length = a.length) {i : Nat} (h : i < (zipL f a c).length) : (zipL f a c)[i] = f (a[i]'(by rw [zipL_length] at h; exact h)) (c[i]'(by rw [zipL_length] at h; omega)) := by
  have h' : i < a.length := by rw [zipL_length] at h; exact h
  simp only [zipL, List.getElem_map, List.getElem_range]
  rw [gd h', gd (show i < c.length by omega)]
theorem zipL_take (f : Nat → Nat → Nat) {a c : List Nat} (hc : c.length = a.length) {i : Nat} (h : i < a.length) : (zipL f a c).take (i + 1) = (zipL f a c).take i ++ [f a[i] (c[i]'(by omega))] := by
  rw [List.take_succ_eq_append_getElem (by rw [zipL_length]; exact h), zipL_get f hc]
structure Pair (a b c d : List Nat) : Prop where
  wa : wfl a
  wb : wfl b
  wc : wfl c
  wd : wfl d
  h1 : 1 ≤ a.length
  h2 : a.length ≤ 3
  hb : b.length = a.length
  hc : c.length = a.length
  hd : d.length = a.length
  r1 : rowsOk a b = true
  r2 : rowsOk c d = true
section
variable {a b c d : List Nat} (P : Pair a b c d)
include P
theorem hull_at {i : Nat} (hi : i < a.length) :
    (FloatKind.f64.format.order a[i] (c[i]'(by have := P.hc; omega))).isSome = true ∧ fmin a[i] (c[i]'(by have := P.hc; omega)) = lowv a[i] (c[i]'(by have := P.hc; omega)) ∧ fmax a[i] (c[i]'(by have := P.hc; omega)) = highv a[i] (c[i]'(by have := P.hc; omega)) ∧
    (FloatKind.f64.format.order (b[i]'(by have := P.hb; omega)) (d[i]'(by have := P.hd; omega))).isSome = true ∧ fmin (b[i]'(by have := P.hb; omega)) (d[i]'(by have := P.hd; omega)) = lowv (b[i]'(by have := P.hb; omega)) (d[i]'(by have := P.hd; omega)) ∧ fmax (b[i]'(by have := P.hb; omega)) (d[i]'(by have := P.hd; omega)) = highv (b[i]'(by have := P.hb; omega)) (d[i]'(by have := P.hd; omega)) := by
  obtain ⟨wa, wb, wc, wd, h1, h2, hb, hc, hd, r1, r2⟩ := P
  obtain ⟨g1, g2⟩ := goods_at hb r1 hi
  obtain ⟨g3, g4⟩ := goods_at (a := c) (b := d) (by omega) r2 (i := i) (by omega)
  obtain ⟨s1, m1, q1, _⟩ := mm_is (wa _ (List.getElem_mem hi)) (wc _ (List.getElem_mem (show i < c.length by omega))) g1 g3
  obtain ⟨s2, m2, q2, _⟩ := mm_is (wb _ (List.getElem_mem (show i < b.length by omega))) (wd _ (List.getElem_mem (show i < d.length by omega))) g2 g4
  exact ⟨s1, m1, q1, s2, m2, q2⟩
theorem hull_loops : ∀ i, i ≤ a.length →
    Ev (fun k => spec_BoxHull.l0 k a.length (i : Int) a b c d ((zipL lowv a c).take i) ((zipL highv b d).take i)) (zipL lowv a c, zipL highv b d, true) ∧ Ev (fun k => impl_BoxHull.l0 k a.length (i : Int) a b c d ((zipL lowv a c).take i) ((zipL highv b d).take i)) (zipL lowv a c, zipL highv b d, true) := by
  have hb := P.hb; have hc := P.hc; have hd := P.hd; have h2 := P.h2
  refine G.down_ind a.length (fun i => Ev (fun k => spec_BoxHull.l0 k a.length (i : Int) a b c d ((zipL lowv a c).take i) ((zipL highv b d).take i)) (zipL lowv a c, zipL highv b d, true) ∧ Ev (fun k => impl_BoxHull.l0 k a.length (i : Int) a b c d ((zipL lowv a c).take i) ((zipL highv b d).take i)) (zipL lowv a c, zipL highv b d, true)) ?_ ?_
  · rw [List.take_of_length_le (by rw [zipL_length]; omega), List.take_of_length_le (by rw [zipL_length]; omega)]
    refine ⟨G.succ ?_, G.succ ?_⟩
    · simp only [spec_BoxHull.l0]; exact G.neg (by omega) (G.now fun _ => rfl)
    · simp only [impl_BoxHull.l0]; exact G.neg (by omega) (G.now fun _ => rfl)
  · intro i hi ih
    have ib : i < b.length := by omega
    have ic : i < c.length := by omega
    have id' : i < d.length := by omega
    obtain ⟨s1, m1, _, s2, _, m2⟩ := hull_at P hi
    rw [zipL_take lowv hc hi, zipL_take highv (a := b) (c := d) (by omega) ib] at ih
    obtain ⟨e1, e2⟩ := ih
    have hl : (FloatKind.f64.format.order c[i] a[i] == some Ordering.lt) = ltb c[i] a[i] := rfl
    have hg : (FloatKind.f64.format.order d[i] b[i] == some Ordering.gt) = gtb d[i] b[i] := rfl
    have hL' : ((zipL lowv a c).take i).length < 17592186044416 := by rw [List.length_take, zipL_length]; omega
    have hH' : ((zipL highv b d).take i).length < 17592186044416 := by rw [List.length_take, zipL_length]; omega
    generalize (zipL lowv a c).take i = L at e1 e2 hL' ⊢
    generalize (zipL highv b d).take i = H at e1 e2 hH' ⊢
    generalize ((zipL lowv a c, zipL highv b d, true) : List Nat × List Nat × Bool) = R at e1 e2 ⊢
    refine ⟨G.succ ?_, G.succ ?_⟩
    · simp only [spec_BoxHull.l0, rdf hi, rdf ib, rdf ic, rdf id', G.w64 i (by omega), hl, hg]
      refine G.pos (by omega) (G.pos (by omega) (G.pos (by omega) (G.pos (by omega) ?_)))
      unfold lowv highv at e1
      refine G.ite (fun c1 => G.pos (by omega) (G.pos (by omega) (G.ite (fun c2 => G.pos hL' (G.pos hH' ?_)) (fun c2 => G.pos hL' (G.pos hH' ?_))))) (fun c1 => G.pos (by omega) (G.pos (by omega) (G.ite (fun c2 => G.pos hL' (G.pos hH' ?_)) (fun c2 => G.pos hL' (G.pos hH' ?_)))))
      · rw [if_pos c1, if_pos c2] at e1; exact e1
      · rw [if_pos c1, if_neg c2] at e1; exact e1
      · rw [if_neg c1, if_pos c2] at e1; exact e1
      · rw [if_neg c1, if_neg c2] at e1; exact e1
    · simp only [impl_BoxHull.l0, rdf hi, rdf ib, rdf ic, rdf id', G.w64 i (by omega), m1, m2]
      exact G.pos (by omega) (G.pos (by omega) (G.pos (by omega) (G.pos (by omega) (G.pos s1 (G.pos hL' (G.pos (by omega) (G.pos (by omega) (G.pos s2 (G.pos hH' e2)))))))))
end
theorem wfg_zip {f : Nat → Nat → Nat} {a c : List Nat} (hc : c.length = a.length) (h : ∀ i (hi : i < a.length), f a[i] (c[i]'(by omega)) < 18446744073709551616 ∧ Go.Proofs.Ytbhnnobpjmnngaa.Flo.good (f a[i] (c[i]'(by omega))) = true) : wfg (zipL f a c) := by
  have key : ∀ x ∈ zipL f a c, x < 18446744073709551616 ∧ Go.Proofs.Ytbhnnobpjmnngaa.Flo.good x = true := by
    intro x hx
    obtain ⟨i, hi, rfl⟩ := List.mem_iff_getElem.1 hx
    rw [zipL_get f hc]
    exact h i (by rw [zipL_length] at hi; exact hi)
  exact ⟨fun x hx => (key x hx).1, List.all_eq_true.2 fun x hx => (key x hx).2⟩
open Go.Proofs.Ytbhnnobpjmnngaa.Flo in
theorem good_fin {x : Nat} (h : good x = true) : fin x = true := by
  unfold good at h; simp only [Bool.and_eq_true] at h; exact h.1
open Go.Proofs.Ytbhnnobpjmnngaa.Flo in
theorem ltb_val {x y : Nat} (fx : fin x = true) (fy : fin y = true) : ltb x y = decide (val x < val y) := by
  unfold ltb; rw [order_val fx fy, Bool.eq_iff_iff, decide_eq_true_eq, beq_iff_eq, Option.some.injEq]; exact (cmp_lt _ _).1
open Go.Proofs.Ytbhnnobpjmnngaa.Flo in
theorem gtb_val {x y : Nat} (fx : fin x = true) (fy : fin y = true) : gtb x y = decide (val y < val x) := by
  unfold gtb; rw [order_val fx fy, Bool.eq_iff_iff, decide_eq_true_eq, beq_iff_eq, Option.some.injEq]; exact (cmp_lt _ _).2.1
open Go.Proofs.Ytbhnnobpjmnngaa.Flo in
theorem low_val {x y : Nat} (fx : fin x = true) (fy : fin y = true) : (lowv x y = x ∨ lowv x y = y) ∧ val (lowv x y) ≤ val x ∧ val (lowv x y) ≤ val y := by
  unfold lowv; rw [ltb_val fy fx]
  by_cases h : val y < val x
  · rw [if_pos (decide_eq_true h)]; exact ⟨.inr rfl, by omega, by omega⟩
  · rw [if_neg (by simpa using h)]; exact ⟨.inl rfl, by omega, by omega⟩
open Go.Proofs.Ytbhnnobpjmnngaa.Flo in
theorem high_val {x y : Nat} (fx : fin x = true) (fy : fin y = true) : (highv x y = x ∨ highv x y = y) ∧ val x ≤ val (highv x y) ∧ val y ≤ val (highv x y) := by
  unfold highv; rw [gtb_val fy fx]
  by_cases h : val x < val y
  · rw [if_pos (decide_eq_true h)]; exact ⟨.inr rfl, by omega, by omega⟩
  · rw [if_neg (by simpa using h)]; exact ⟨.inl rfl, by omega, by omega⟩
theorem rows_at {a b : List Nat} (hl : b.length = a.length) (h : rowsOk a b = true) {i : Nat} (hi : i < a.length) : gtb a[i] (b[i]'(by omega)) = false := by
  have := List.all_eq_true.1 h i (List.mem_range.2 hi)
  rw [gd hi, gd (show i < b.length by omega)] at this
  simp only [Bool.and_eq_true, Bool.not_eq_true'] at this
  exact this.2
open Go.Proofs.Ytbhnnobpjmnngaa.Flo in
theorem rows_mk {L H : List Nat} (hl : H.length = L.length) (h : ∀ i (hi : i < L.length), good L[i] = true ∧ good (H[i]'(by omega)) = true ∧ gtb L[i] (H[i]'(by omega)) = false) : rowsOk L H = true := by
  unfold rowsOk
  rw [List.all_eq_true]
  intro i hi
  have hi' : i < L.length := List.mem_range.1 hi
  obtain ⟨g1, g2, g3⟩ := h i hi'
  rw [gd hi', gd (show i < H.length by omega), g1, g2, g3]; rfl
/-- A good box is good; what lies within. -/
theorem goodBox_ev {a b : List Nat} (wa : wfl a) (wb : wfl b) (hs : shapeOk a b) (r : rowsOk a b = true) : Ev (fun k => impl_GoodBox.f k a b) true := by
  simp only [impl_GoodBox.f]
  have h1 := hs.1; have h2 := hs.2.1; have h3 := hs.2.2
  have ga : a.all Go.Proofs.Ytbhnnobpjmnngaa.Flo.good = true := List.all_eq_true.2 fun x hx => by
    obtain ⟨i, hi, rfl⟩ := List.mem_iff_getElem.1 hx
    exact (goods_at h3 r hi).1
  have gb : b.all Go.Proofs.Ytbhnnobpjmnngaa.Flo.good = true := List.all_eq_true.2 fun x hx => by
    obtain ⟨i, hi, rfl⟩ := List.mem_iff_getElem.1 hx
    exact (goods_at h3 r (i := i) (by omega)).2
  refine G.neg (by omega) (G.neg (by omega) (G.pos (by omega) (G.bind (goods_ev wa h2) ?_)))
  rw [ga]
  refine G.pos rfl (G.bind (goods_ev wb (by omega)) (G.succ ?_))
  rw [gb]
  simp only [impl_GoodBox.j0]
  refine G.neg (by simp) (G.eqv (iBox_loop hs) ?_)
  rw [List.all_eq_true]
  intro i hi
  have hi' : i < a.length := List.mem_range.1 hi
  rw [gd hi', gd (show i < b.length by omega), rows_at h3 r hi']; rfl
def inside (a b c d : List Nat) : Bool := (List.range a.length).all fun i => !ltb (a.getD i 0) (c.getD i 0) && !gtb (b.getD i 0) (d.getD i 0)
theorem iWithin_loop {a b c d : List Nat} (h2 : a.length ≤ 3) (hb : b.length = a.length) (hc : c.length = a.length) (hd : d.length = a.length) : Ev (fun k => impl_BoxWithin.l0 k (a.length : Int) 0 a b c d) (inside a b c d) := by
  have h := G.all_loop (F := fun k i => impl_BoxWithin.l0 k (a.length : Int) i a b c d) (List.range a.length) (fun i => !ltb (a.getD i 0) (c.getD i 0) && !gtb (b.getD i 0) (d.getD i 0)) true ?_ ?_
  · rw [Bool.and_true] at h; exact h
  · intro k; simp only [impl_BoxWithin.l0, List.length_range]; rw [if_neg (by omega)]
  · intro k i hi
    have hi2 : i < a.length := by simpa using hi
    have ib : i < b.length := by omega
    have ic : i < c.length := by omega
    have id' : i < d.length := by omega
    have hg : (FloatKind.f64.format.order b[i] d[i] == some Ordering.gt) = gtb b[i] d[i] := rfl
    have hl : (FloatKind.f64.format.order a[i] c[i] == some Ordering.lt) = ltb a[i] c[i] := rfl
    simp only [impl_BoxWithin.l0, List.getElem_range, gd hi2, gd ib, gd ic, gd id', rdf hi2, rdf ib, rdf ic, rdf id', G.w64 i (by omega), hg, hl]
    simp only [show (i : Int) < (a.length : Int) from by omega, show (0 : Int) ≤ (i : Int) from by omega, show (i : Int) < (b.length : Int) from by omega, show (i : Int) < (c.length : Int) from by omega, show (i : Int) < (d.length : Int) from by omega, if_true]
    generalize gtb b[i] d[i] = z; generalize ltb a[i] c[i] = y
    cases z <;> cases y <;> simp
open Go.Proofs.Ytbhnnobpjmnngaa.Flo in
theorem within_true {a b c d : List Nat} (P : Pair a b c d) (h : ∀ i (hi : i < a.length), val (c[i]'(by have := P.hc; omega)) ≤ val a[i] ∧ val (b[i]'(by have := P.hb; omega)) ≤ val (d[i]'(by have := P.hd; omega))) : Ev (fun k => impl_BoxWithin.f k a b c d) true := by
  have hb := P.hb; have hc := P.hc; have hd := P.hd
  have s1 : shapeOk a b := ⟨P.h1, P.h2, hb⟩
  have s2 : shapeOk c d := ⟨by rw [hc]; exact P.h1, by rw [hc]; exact P.h2, by omega⟩
  have al : Ev (fun k => impl_alike.f k a b c d) true := by
    simp only [impl_alike.f]
    refine G.bind (goodBox_ev P.wa P.wb s1 P.r1) (G.pos rfl (G.bind (goodBox_ev P.wc P.wd s2 P.r2) (G.pos rfl (G.now fun _ => ?_))))
    rw [hc]; simp
  simp only [impl_BoxWithin.f]
  refine G.bind al (G.pos rfl (G.eqv (iWithin_loop P.h2 hb hc hd) ?_))
  unfold inside
  rw [List.all_eq_true]
  intro i hi
  have hi' : i < a.length := List.mem_range.1 hi
  obtain ⟨g1, g2⟩ := goods_at hb P.r1 hi'
  obtain ⟨g3, g4⟩ := goods_at (a := c) (b := d) (by omega) P.r2 (i := i) (by omega)
  obtain ⟨v1, v2⟩ := h i hi'
  rw [gd hi', gd (show i < b.length by omega), gd (show i < c.length by omega), gd (show i < d.length by omega), ltb_val (good_fin g1) (good_fin g3), gtb_val (good_fin g2) (good_fin g4), decide_eq_false (by omega), decide_eq_false (by omega)]; rfl
open Go.Proofs.Ytbhnnobpjmnngaa.Flo in
theorem neq_self {x y : Nat} (h : y = x) (f : fin x = true) : (FloatKind.f64.format.order y x != some Ordering.eq) = false := by
  subst h; rw [show FloatKind.f64.format.order y y = some Ordering.eq from order_fin f]; rfl
open Go.Proofs.Ytbhnnobpjmnngaa.Flo in
theorem edges_true {a b c d L H : List Nat} (P : Pair a b c d) (hL : L.length = a.length) (hH : H.length = a.length)
    (h : ∀ i (hi : i < a.length), (L[i]'(by omega) = a[i] ∨ L[i]'(by omega) = c[i]'(by have := P.hc; omega)) ∧ (H[i]'(by omega) = b[i]'(by have := P.hb; omega) ∨ H[i]'(by omega) = d[i]'(by have := P.hd; omega))) : Ev (fun k => laws_zEdges.f k a b c d L H) true := by
  have hb := P.hb; have hc := P.hc; have hd := P.hd; have h2 := P.h2
  simp only [laws_zEdges.f]
  refine G.pos (by omega) ?_
  have e1 : ((H.length : Int) != (b.length : Int)) = false := by simp; omega
  rw [e1]
  refine G.succ ?_
  simp only [laws_zEdges.j0]
  refine G.neg (by simp) ?_
  refine G.down_ind L.length (fun i => Ev (fun k => laws_zEdges.l0 k L (L.length : Int) (i : Int) a b c d L H) true) ?_ ?_ 0 (Nat.zero_le _)
  · refine G.succ ?_
    simp only [laws_zEdges.l0]; exact G.neg (by omega) (G.now fun _ => rfl)
  · intro i hi ih
    have ia : i < a.length := by omega
    have ib : i < b.length := by omega
    have ic : i < c.length := by omega
    have id' : i < d.length := by omega
    have iH : i < H.length := by omega
    obtain ⟨g1, g2⟩ := goods_at hb P.r1 ia
    obtain ⟨g3, g4⟩ := goods_at (a := c) (b := d) (by omega) P.r2 (i := i) ic
    obtain ⟨u1, u2⟩ := h i ia
    have hi2 : Ev (fun k => if (i : Int) < (H.length : Int) then (if (i : Int) < (b.length : Int) then (if (FloatKind.f64.format.order H[i] b[i] != some Ordering.eq) = true then (if (i : Int) < (d.length : Int) then (if (FloatKind.f64.format.order H[i] d[i] != some Ordering.eq) = true then (some false) else (laws_zEdges.l0 k L (L.length : Int) ((i + 1 : Nat) : Int) a b c d L H)) else (none)) else (laws_zEdges.l0 k L (L.length : Int) ((i + 1 : Nat) : Int) a b c d L H)) else (none)) else (none)) true := by
      refine G.pos (by omega) (G.pos (by omega) (G.ite (fun _ => G.pos (by omega) (G.neg ?_ ih)) (fun _ => ih)))
      rename_i hne
      rcases u2 with u | u
      · rw [neq_self u (good_fin g2)] at hne; cases hne
      · rw [neq_self u (good_fin g4)]; simp
    refine G.succ ?_
    simp only [laws_zEdges.l0, rdf hi, rdf ia, rdf ib, rdf ic, rdf id', rdf iH, G.w64 i (by omega)]
    refine G.pos (by omega) (G.pos (by omega) (G.pos (by omega) (G.pos (by omega) (G.ite (fun _ => G.pos (by omega) (G.neg ?_ hi2)) (fun _ => hi2)))))
    rename_i hne
    rcases u1 with u | u
    · rw [neq_self u (good_fin g1)] at hne; cases hne
    · rw [neq_self u (good_fin g3)]; simp
theorem iGoodBox_ev {a b : List Nat} (ga : wfg a) (gb : wfg b) (hs : shapeOk a b) : Ev (fun k => impl_GoodBox.f k a b) ((List.range a.length).all fun i => !gtb (a.getD i 0) (b.getD i 0)) := by
  simp only [impl_GoodBox.f]
  have h1 := hs.1; have h2 := hs.2.1; have h3 := hs.2.2
  refine G.neg (by omega) (G.neg (by omega) (G.pos (by omega) (G.bind (goods_ev ga.1 h2) ?_)))
  rw [ga.2]
  refine G.pos rfl (G.bind (goods_ev gb.1 (by omega)) (G.succ ?_))
  rw [gb.2]
  simp only [impl_GoodBox.j0]
  exact G.neg (by simp) (iBox_loop hs)
def meets (a b c d : List Nat) (i : Nat) : Bool := ((List.range a.length).drop i).all fun j => !gtb ((zipL highv a c).getD j 0) ((zipL lowv b d).getD j 0)
def metR (a b c d : List Nat) (i : Nat) : List Nat × List Nat × Bool := if meets a b c d i = true then (zipL highv a c, zipL lowv b d, true) else ([], [], false)
section
variable {a b c d : List Nat} (P : Pair a b c d)
include P
open Go.Proofs.Ytbhnnobpjmnngaa.Flo in
theorem zips_good : wfg (zipL lowv a c) ∧ wfg (zipL highv b d) ∧ wfg (zipL highv a c) ∧ wfg (zipL lowv b d) := by
  obtain ⟨wa, wb, wc, wd, h1, h2, hb, hc, hd, r1, r2⟩ := P
  have at1 (i : Nat) (hi : i < a.length) := mm_is (wa _ (List.getElem_mem hi)) (wc _ (List.getElem_mem (show i < c.length by omega))) (goods_at hb r1 hi).1 (goods_at (a := c) (b := d) (by omega) r2 (i := i) (by omega)).1
  have at2 (i : Nat) (hi : i < b.length) := mm_is (wb _ (List.getElem_mem hi)) (wd _ (List.getElem_mem (show i < d.length by omega))) (goods_at hb r1 (i := i) (by omega)).2 (goods_at (a := c) (b := d) (by omega) r2 (i := i) (by omega)).2
  refine ⟨wfg_zip hc fun i hi => ?_, wfg_zip (by omega) fun i hi => ?_, wfg_zip hc fun i hi => ?_, wfg_zip (by omega) fun i hi => ?_⟩
  · obtain ⟨_, _, _, q1, q2, w1, w2⟩ := at1 i hi; exact ⟨w1, q1⟩
  · obtain ⟨_, _, _, q1, q2, w1, w2⟩ := at2 i hi; exact ⟨w2, q2⟩
  · obtain ⟨_, _, _, q1, q2, w1, w2⟩ := at1 i hi; exact ⟨w2, q2⟩
  · obtain ⟨_, _, _, q1, q2, w1, w2⟩ := at2 i hi; exact ⟨w1, q1⟩
theorem meet_impl : ∀ i, i ≤ a.length → Ev (fun k => impl_BoxMeet.l0 k a.length (i : Int) a b c d ((zipL highv a c).take i) ((zipL lowv b d).take i)) (metR a b c d 0) := by
  have hb := P.hb; have hc := P.hc; have hd := P.hd; have h2 := P.h2
  refine G.down_ind a.length (fun i => Ev (fun k => impl_BoxMeet.l0 k a.length (i : Int) a b c d ((zipL highv a c).take i) ((zipL lowv b d).take i)) (metR a b c d 0)) ?_ ?_
  · rw [List.take_of_length_le (by rw [zipL_length]; omega), List.take_of_length_le (by rw [zipL_length]; omega)]
    have z := zips_good P
    have hg := iGoodBox_ev z.2.2.1 z.2.2.2 ⟨by rw [zipL_length]; exact P.h1, by rw [zipL_length]; exact P.h2, by rw [zipL_length, zipL_length]; exact hb⟩
    rw [zipL_length] at hg
    refine G.succ ?_
    simp only [impl_BoxMeet.l0]
    refine G.neg (by omega) (G.bind hg (G.now fun _ => ?_))
    unfold metR meets
    rw [List.drop_zero]
    split <;> rfl
  · intro i hi ih
    have ib : i < b.length := by omega
    have ic : i < c.length := by omega
    have id' : i < d.length := by omega
    obtain ⟨s1, _, m1, s2, m2, _⟩ := hull_at P hi
    rw [zipL_take highv hc hi, zipL_take lowv (a := b) (c := d) (by omega) ib] at ih
    have hL' : ((zipL highv a c).take i).length < 17592186044416 := by rw [List.length_take, zipL_length]; omega
    have hH' : ((zipL lowv b d).take i).length < 17592186044416 := by rw [List.length_take, zipL_length]; omega
    refine G.succ ?_
    simp only [impl_BoxMeet.l0, rdf hi, rdf ib, rdf ic, rdf id', G.w64 i (by omega), m1, m2]
    exact G.pos (by omega) (G.pos (by omega) (G.pos (by omega) (G.pos (by omega) (G.pos s1 (G.pos hL' (G.pos (by omega) (G.pos (by omega) (G.pos s2 (G.pos hH' ih)))))))))
theorem meet_spec : ∀ i, i ≤ a.length → Ev (fun k => spec_BoxMeet.l0 k a.length (i : Int) a b c d ((zipL highv a c).take i) ((zipL lowv b d).take i)) (metR a b c d i) := by
  have hb := P.hb; have hc := P.hc; have hd := P.hd; have h2 := P.h2
  refine G.down_ind a.length (fun i => Ev (fun k => spec_BoxMeet.l0 k a.length (i : Int) a b c d ((zipL highv a c).take i) ((zipL lowv b d).take i)) (metR a b c d i)) ?_ ?_
  · rw [List.take_of_length_le (by rw [zipL_length]; omega), List.take_of_length_le (by rw [zipL_length]; omega)]
    have e : meets a b c d a.length = true := by unfold meets; rw [List.drop_of_length_le (by simp)]; rfl
    refine G.succ ?_
    simp only [spec_BoxMeet.l0]
    refine G.neg (by omega) (G.now fun _ => ?_)
    unfold metR; rw [if_pos e]
  · intro i hi ih
    have ib : i < b.length := by omega
    have ic : i < c.length := by omega
    have id' : i < d.length := by omega
    rw [zipL_take highv hc hi, zipL_take lowv (a := b) (c := d) (by omega) ib] at ih
    have hL' : ((zipL highv a c).take i).length < 17592186044416 := by rw [List.length_take, zipL_length]; omega
    have hH' : ((zipL lowv b d).take i).length < 17592186044416 := by rw [List.length_take, zipL_length]; omega
    have hm : meets a b c d i = (!gtb (highv a[i] c[i]) (lowv b[i] d[i]) && meets a b c d (i + 1)) := by
      unfold meets
      rw [List.drop_eq_getElem_cons (show i < (List.range a.length).length by simpa using hi), List.all_cons, List.getElem_range, gd (show i < (zipL highv a c).length by rw [zipL_length]; exact hi), gd (show i < (zipL lowv b d).length by rw [zipL_length]; exact ib), zipL_get highv hc, zipL_get lowv (by omega)]
    have hgt (u v : Nat) : (FloatKind.f64.format.order u v == some Ordering.gt) = gtb u v := rfl
    have hlt (u v : Nat) : (FloatKind.f64.format.order u v == some Ordering.lt) = ltb u v := rfl
    have step (x : Nat) (hx : x = highv a[i] c[i]) : Ev (fun k => spec_BoxMeet.j1 k (i : Int) x a.length (i : Int) a b c d ((zipL highv a c).take i) ((zipL lowv b d).take i)) (metR a b c d i) := by
      have tail (y : Nat) (hy : y = lowv b[i] d[i]) : Ev (fun k => if gtb x y = true then (some (([] : List Nat), ([] : List Nat), false)) else (if ((zipL highv a c).take i).length < 17592186044416 then (if ((zipL lowv b d).take i).length < 17592186044416 then (spec_BoxMeet.l0 k a.length ((i + 1 : Nat) : Int) a b c d ((zipL highv a c).take i ++ [x]) ((zipL lowv b d).take i ++ [y])) else (none)) else (none))) (metR a b c d i) := by
        rw [hx, hy]
        unfold metR
        rw [hm]
        cases hq : gtb (highv a[i] c[i]) (lowv b[i] d[i]) with
        | true => exact G.pos rfl (G.now fun _ => rfl)
        | false =>
          refine G.neg (by simp) (G.pos hL' (G.pos hH' ?_))
          unfold metR at ih
          rw [Bool.not_false, Bool.true_and]; exact ih
      refine G.succ ?_
      simp only [spec_BoxMeet.j1, rdf ib, rdf id', G.w64 i (by omega), hgt, hlt]
      refine G.pos (by omega) (G.pos (by omega) (G.pos (by omega) (G.ite (fun e => tail d[i] ?_) (fun e => tail b[i] ?_))))
      · unfold lowv; rw [if_pos e]
      · unfold lowv; rw [if_neg e]
    refine G.succ ?_
    simp only [spec_BoxMeet.l0, rdf hi, rdf ic, hgt]
    refine G.pos (by omega) (G.pos (by omega) (G.pos (by omega) (G.pos (by omega) (G.ite (fun e => step c[i] ?_) (fun e => step a[i] ?_)))))
    · unfold highv; rw [if_pos e]
    · unfold highv; rw [if_neg e]
open Go.Proofs.Ytbhnnobpjmnngaa.Flo in
theorem lows {i : Nat} (hi : i < a.length) : (lowv a[i] (c[i]'(by have := P.hc; omega)) = a[i] ∨ lowv a[i] (c[i]'(by have := P.hc; omega)) = (c[i]'(by have := P.hc; omega))) ∧ val (lowv a[i] (c[i]'(by have := P.hc; omega))) ≤ val a[i] ∧ val (lowv a[i] (c[i]'(by have := P.hc; omega))) ≤ val (c[i]'(by have := P.hc; omega)) := low_val (good_fin (goods_at P.hb P.r1 hi).1) (good_fin (goods_at (a := c) (b := d) (by have := P.hc; have := P.hd; omega) P.r2 (i := i) (by have := P.hc; omega)).1)
open Go.Proofs.Ytbhnnobpjmnngaa.Flo in
theorem lows2 {i : Nat} (hi : i < a.length) : (lowv (b[i]'(by have := P.hb; omega)) (d[i]'(by have := P.hd; omega)) = (b[i]'(by have := P.hb; omega)) ∨ lowv (b[i]'(by have := P.hb; omega)) (d[i]'(by have := P.hd; omega)) = (d[i]'(by have := P.hd; omega))) ∧ val (lowv (b[i]'(by have := P.hb; omega)) (d[i]'(by have := P.hd; omega))) ≤ val (b[i]'(by have := P.hb; omega)) ∧ val (lowv (b[i]'(by have := P.hb; omega)) (d[i]'(by have := P.hd; omega))) ≤ val (d[i]'(by have := P.hd; omega)) := low_val (good_fin (goods_at P.hb P.r1 hi).2) (good_fin (goods_at (a := c) (b := d) (by have := P.hc; have := P.hd; omega) P.r2 (i := i) (by have := P.hc; omega)).2)
open Go.Proofs.Ytbhnnobpjmnngaa.Flo in
theorem highs {i : Nat} (hi : i < a.length) : (highv a[i] (c[i]'(by have := P.hc; omega)) = a[i] ∨ highv a[i] (c[i]'(by have := P.hc; omega)) = (c[i]'(by have := P.hc; omega))) ∧ val a[i] ≤ val (highv a[i] (c[i]'(by have := P.hc; omega))) ∧ val (c[i]'(by have := P.hc; omega)) ≤ val (highv a[i] (c[i]'(by have := P.hc; omega))) := high_val (good_fin (goods_at P.hb P.r1 hi).1) (good_fin (goods_at (a := c) (b := d) (by have := P.hc; have := P.hd; omega) P.r2 (i := i) (by have := P.hc; omega)).1)
open Go.Proofs.Ytbhnnobpjmnngaa.Flo in
theorem highs2 {i : Nat} (hi : i < a.length) : (highv (b[i]'(by have := P.hb; omega)) (d[i]'(by have := P.hd; omega)) = (b[i]'(by have := P.hb; omega)) ∨ highv (b[i]'(by have := P.hb; omega)) (d[i]'(by have := P.hd; omega)) = (d[i]'(by have := P.hd; omega))) ∧ val (b[i]'(by have := P.hb; omega)) ≤ val (highv (b[i]'(by have := P.hb; omega)) (d[i]'(by have := P.hd; omega))) ∧ val (d[i]'(by have := P.hd; omega)) ≤ val (highv (b[i]'(by have := P.hb; omega)) (d[i]'(by have := P.hd; omega))) := high_val (good_fin (goods_at P.hb P.r1 hi).2) (good_fin (goods_at (a := c) (b := d) (by have := P.hc; have := P.hd; omega) P.r2 (i := i) (by have := P.hc; omega)).2)
open Go.Proofs.Ytbhnnobpjmnngaa.Flo in
theorem hull_rows : rowsOk (zipL lowv a c) (zipL highv b d) = true := by
  have hb := P.hb; have hc := P.hc; have hd := P.hd
  have z := zips_good P
  refine rows_mk (by rw [zipL_length, zipL_length]; exact hb) fun i hi => ?_
  have hi' : i < a.length := by rw [zipL_length] at hi; exact hi
  have g1 := List.all_eq_true.1 z.1.2 _ (List.getElem_mem hi)
  have hi2 : i < (zipL highv b d).length := by rw [zipL_length]; omega
  have g2 := List.all_eq_true.1 z.2.1.2 _ (List.getElem_mem hi2)
  refine ⟨g1, g2, ?_⟩
  rw [gtb_val (good_fin g1) (good_fin g2), zipL_get lowv hc, zipL_get highv (by omega)]
  have l := lows P hi'
  have h := highs2 P hi'
  have r := rows_at hb P.r1 hi'
  rw [gtb_val (good_fin (goods_at hb P.r1 hi').1) (good_fin (goods_at hb P.r1 hi').2)] at r
  simp only [decide_eq_false_iff_not] at r ⊢
  omega
theorem pair_hull1 : Pair a b (zipL lowv a c) (zipL highv b d) := by
  have z := zips_good P
  exact ⟨P.wa, P.wb, z.1.1, z.2.1.1, P.h1, P.h2, P.hb, zipL_length _ _ _, by rw [zipL_length]; exact P.hb, P.r1, hull_rows P⟩
theorem pair_hull2 : Pair c d (zipL lowv a c) (zipL highv b d) := by
  have z := zips_good P
  have hb := P.hb; have hc := P.hc; have hd := P.hd
  exact ⟨P.wc, P.wd, z.1.1, z.2.1.1, by rw [hc]; exact P.h1, by rw [hc]; exact P.h2, by omega, by rw [zipL_length]; omega, by rw [zipL_length]; omega, P.r2, hull_rows P⟩
open Go.Proofs.Ytbhnnobpjmnngaa.Flo in
theorem meet_rows (h : meets a b c d 0 = true) : rowsOk (zipL highv a c) (zipL lowv b d) = true := by
  have hb := P.hb; have hc := P.hc; have hd := P.hd
  have z := zips_good P
  refine rows_mk (by rw [zipL_length, zipL_length]; exact hb) fun i hi => ?_
  have hi' : i < a.length := by rw [zipL_length] at hi; exact hi
  have hi2 : i < (zipL lowv b d).length := by rw [zipL_length]; omega
  refine ⟨List.all_eq_true.1 z.2.2.1.2 _ (List.getElem_mem hi), List.all_eq_true.1 z.2.2.2.2 _ (List.getElem_mem hi2), ?_⟩
  unfold meets at h
  rw [List.drop_zero, List.all_eq_true] at h
  have := h i (List.mem_range.2 hi')
  rw [gd hi, gd hi2] at this
  simpa using this
theorem pair_meet1 (h : meets a b c d 0 = true) : Pair (zipL highv a c) (zipL lowv b d) a b := by
  have z := zips_good P
  have hb := P.hb; have hc := P.hc; have hd := P.hd
  exact ⟨z.2.2.1.1, z.2.2.2.1, P.wa, P.wb, by rw [zipL_length]; exact P.h1, by rw [zipL_length]; exact P.h2, by rw [zipL_length, zipL_length]; exact hb, by rw [zipL_length], by rw [zipL_length]; exact hb, meet_rows P h, P.r1⟩
theorem pair_meet2 (h : meets a b c d 0 = true) : Pair (zipL highv a c) (zipL lowv b d) c d := by
  have z := zips_good P
  have hb := P.hb; have hc := P.hc; have hd := P.hd
  exact ⟨z.2.2.1.1, z.2.2.2.1, P.wc, P.wd, by rw [zipL_length]; exact P.h1, by rw [zipL_length]; exact P.h2, by rw [zipL_length, zipL_length]; exact hb, by rw [zipL_length]; exact hc, by rw [zipL_length]; exact hd, meet_rows P h, P.r2⟩
end
theorem law_g {a b c d : List Nat} (wa : wfl a) (wb : wfl b) (wc : wfl c) (wd : wfl d) (lb : b.length ≤ 1048576) (ld : d.length ≤ 1048576) : ∃ k, laws_FnJoins.g k a b c d = some true := by
  refine Ev.rounds ?_
  obtain ⟨r, e1, e2, h⟩ := pair_both wa wb wc wd lb ld
  simp only [laws_FnJoins.g]
  cases r with
  | false =>
    have h1 : Ev (fun k => impl_BoxHull.f k a b c d) ([], [], false) := by simp only [impl_BoxHull.f]; exact G.bind e2 (G.neg (by simp) (G.now fun _ => rfl))
    have h2 : Ev (fun k => spec_BoxHull.f k a b c d) ([], [], false) := by simp only [spec_BoxHull.f]; exact G.bind e1 (G.neg (by simp) (G.now fun _ => rfl))
    have h3 : Ev (fun k => impl_BoxMeet.f k a b c d) ([], [], false) := by simp only [impl_BoxMeet.f]; exact G.bind e2 (G.neg (by simp) (G.now fun _ => rfl))
    have h4 : Ev (fun k => spec_BoxMeet.f k a b c d) ([], [], false) := by simp only [spec_BoxMeet.f]; exact G.bind e1 (G.neg (by simp) (G.now fun _ => rfl))
    refine G.bind h1 (G.bind h2 (G.neg (by simp) (G.neg (by simp) (G.succ ?_))))
    simp only [laws_FnJoins.j0]
    exact G.neg (by simp) (G.bind h3 (G.bind h4 (G.neg (by simp) (G.neg (by simp) (G.now fun _ => rfl)))))
  | true =>
    obtain ⟨s1, r1, s2, r2, hl⟩ := h rfl
    have P : Pair a b c d := ⟨wa, wb, wc, wd, s1.1, s1.2.1, s1.2.2, hl, s2.2.2.trans hl, r1, r2⟩
    have hb := P.hb; have hc := P.hc; have hd := P.hd
    obtain ⟨u1, u2⟩ := hull_loops P 0 (Nat.zero_le _)
    have h1 : Ev (fun k => impl_BoxHull.f k a b c d) (zipL lowv a c, zipL highv b d, true) := by simp only [impl_BoxHull.f]; exact G.bind e2 (G.pos rfl u2)
    have h2 : Ev (fun k => spec_BoxHull.f k a b c d) (zipL lowv a c, zipL highv b d, true) := by simp only [spec_BoxHull.f]; exact G.bind e1 (G.pos rfl u1)
    have m1 := meet_impl P 0 (Nat.zero_le _)
    have m2 := meet_spec P 0 (Nat.zero_le _)
    have h3 : Ev (fun k => impl_BoxMeet.f k a b c d) (metR a b c d 0) := by simp only [impl_BoxMeet.f]; exact G.bind e2 (G.pos rfl m1)
    have h4 : Ev (fun k => spec_BoxMeet.f k a b c d) (metR a b c d 0) := by simp only [spec_BoxMeet.f]; exact G.bind e1 (G.pos rfl m2)
    have w1 : Ev (fun k => impl_BoxWithin.f k a b (zipL lowv a c) (zipL highv b d)) true := by
      refine within_true (pair_hull1 P) fun i hi => ?_
      rw [zipL_get lowv hc, zipL_get highv (by omega)]
      exact ⟨(lows P hi).2.1, (highs2 P hi).2.1⟩
    have w2 : Ev (fun k => impl_BoxWithin.f k c d (zipL lowv a c) (zipL highv b d)) true := by
      refine within_true (pair_hull2 P) fun i hi => ?_
      have hi' : i < a.length := by omega
      rw [zipL_get lowv hc, zipL_get highv (by omega)]
      exact ⟨(lows P hi').2.2, (highs2 P hi').2.2⟩
    have w3 : Ev (fun k => laws_zEdges.f k a b c d (zipL lowv a c) (zipL highv b d)) true := by
      refine edges_true P (zipL_length _ _ _) (by rw [zipL_length]; exact hb) fun i hi => ?_
      rw [zipL_get lowv hc, zipL_get highv (by omega)]
      exact ⟨(lows P hi).1, (highs2 P hi).1⟩
    refine G.bind h1 (G.bind h2 (G.neg (by simp) (G.pos rfl (G.bind w1 (G.pos rfl (G.bind w2 (G.pos rfl (G.bind w3 (G.succ ?_)))))))))
    simp only [laws_FnJoins.j0]
    refine G.neg (by simp) (G.bind h3 (G.bind h4 (G.neg (by simp) ?_)))
    unfold metR
    cases hm : meets a b c d 0 with
    | false => exact G.neg (by simp) (G.now fun _ => rfl)
    | true =>
      have v1 : Ev (fun k => impl_BoxWithin.f k (zipL highv a c) (zipL lowv b d) a b) true := by
        refine within_true (pair_meet1 P hm) fun i hi => ?_
        have hi' : i < a.length := by rw [zipL_length] at hi; exact hi
        rw [zipL_get highv hc, zipL_get lowv (by omega)]
        exact ⟨(highs P hi').2.1, (lows2 P hi').2.1⟩
      have v2 : Ev (fun k => impl_BoxWithin.f k (zipL highv a c) (zipL lowv b d) c d) true := by
        refine within_true (pair_meet2 P hm) fun i hi => ?_
        have hi' : i < a.length := by rw [zipL_length] at hi; exact hi
        rw [zipL_get highv hc, zipL_get lowv (by omega)]
        exact ⟨(highs P hi').2.2, (lows2 P hi').2.2⟩
      have v3 : Ev (fun k => laws_zEdges.f k a b c d (zipL highv a c) (zipL lowv b d)) true := by
        refine edges_true P (zipL_length _ _ _) (by rw [zipL_length]; exact hb) fun i hi => ?_
        rw [zipL_get highv hc, zipL_get lowv (by omega)]
        exact ⟨(highs P hi).1, (lows2 P hi).1⟩
      exact G.pos rfl (G.bind v1 (G.pos rfl (G.bind v2 (G.pos rfl (G.bind v3 (G.now fun _ => rfl))))))
theorem FnJoins : laws_FnJoins.Pure := by
  intro c hm hreach hb
  have byt : Bytes c := fun b hx => by have := hb b hx; simp [Lit.wf, IntKind.min, IntKind.max, IntKind.signed, IntKind.bits] at this; omega
  by_cases hl : c.length ≤ 1048576
  · obtain ⟨A, B, C, D, inc, ⟨K, hK⟩, ⟨wA, wB, wC, wD⟩, ⟨lA, lB, lC, lD⟩⟩ := boxes_ok byt hl
    refine ⟨K, A, B, C, D, inc, fun _ => hK K (Nat.le_refl _), fun _ d hd => ?_⟩
    have key : wfl d ∧ d.length = D.length := by
      cases inc with
      | true =>
        obtain ⟨v, hv, rfl⟩ := hd
        exact ⟨wfl_set wD hv, by simp⟩
      | false =>
        have hd' : d = D := hd
        subst hd'
        exact ⟨wD, rfl⟩
    exact law_g wA wB wC key.1 (by omega) (by omega)
  · exact ⟨0, [], [], [], [], false, fun h => absurd h hl, fun h => absurd h hl⟩

end Go.Proofs.Ytbhnnobpjmnngaa.Pure
