/- Floats, in plain numbers: which words are finite, what a zero without its sign is, and that + - * / tell the same up to a zero's sign where the operands do, and nothing finite where an operand is not finite. -/
import Derived.Laws.FloatArith
import Derived.Laws.BitsAllLaws
import Derived.IntWalk
import Derived.RowKit
namespace Go.Proofs.Ytfmplkjicdgfbaa.Flo
open Ieee
set_option linter.unusedVariables false
set_option linter.unusedSimpArgs false

abbrev F : Ieee.Format := FloatKind.f64.format
/-- The word without its sign. -/
def rung (x : Nat) : Nat := x % 9223372036854775808
def sgn (x : Nat) : Bool := x / 9223372036854775808 % 2 == 1
/-- Finite? -/
def fin (x : Nat) : Bool := decide (rung x < 9218868437227405312)
/-- Nought without a sign. -/
def plus (x : Nat) : Nat := if rung x = 0 then 0 else x

theorem read_eq (x : Nat) : F.read x = (if rung x < 4503599627370496 then .number (sgn x) (rung x) (-1074) else if rung x < 9218868437227405312 then .number (sgn x) (4503599627370496 + rung x % 4503599627370496) (-1074 + (rung x / 4503599627370496 - 1 : Nat)) else if rung x = 9218868437227405312 then .infinity (sgn x) else .nan (sgn x) (rung x - 9218868437227405312)) := rfl

/-- What a finite word stands for: sign, size, place. -/
theorem read_fin {x : Nat} (h : fin x = true) : ∃ m : Nat, ∃ i : Int, F.read x = .number (sgn x) m i ∧ (m = 0 ↔ rung x = 0) ∧ m < 9007199254740992 ∧ -1074 ≤ i ∧ i ≤ 971 ∧ ∀ y, rung y = rung x → F.read y = .number (sgn y) m i := by
  simp only [fin, decide_eq_true_eq] at h
  by_cases h1 : rung x < 4503599627370496
  · refine ⟨rung x, -1074, ?_, Iff.rfl, by omega, by omega, by omega, fun y hy => ?_⟩
    · rw [read_eq, if_pos h1]
    · rw [read_eq, hy, if_pos h1]
  · refine ⟨4503599627370496 + rung x % 4503599627370496, -1074 + (rung x / 4503599627370496 - 1 : Nat), ?_, by omega, by omega, by omega, by omega, fun y hy => ?_⟩
    · rw [read_eq, if_neg h1, if_pos h]
    · rw [read_eq, hy, if_neg h1, if_pos h]
theorem read_inf {x : Nat} (h : fin x = false) : (∃ s, F.read x = .infinity s) ∨ ∃ s t, F.read x = .nan s t := by
  simp only [fin, decide_eq_false_iff_not] at h
  rw [read_eq, if_neg (by omega), if_neg h]
  by_cases h1 : rung x = 9218868437227405312
  · rw [if_pos h1]; exact .inl ⟨_, rfl⟩
  · rw [if_neg h1]; exact .inr ⟨_, _, rfl⟩

theorem rung_plus (x : Nat) : rung (plus x) = rung x := by
  unfold plus
  by_cases h : rung x = 0
  · rw [if_pos h, h]; rfl
  · rw [if_neg h]
theorem fin_plus (x : Nat) : fin (plus x) = fin x := by unfold fin; rw [rung_plus]
theorem plus_plus (x : Nat) : plus (plus x) = plus x := by
  by_cases h : rung x = 0
  · have e : plus x = 0 := if_pos h
    rw [e]; rfl
  · have e : plus x = x := if_neg h
    rw [e, e]
theorem rung_word (s : Bool) (r : Nat) (h : r < 9223372036854775808) : rung (F.word s r) = r := by
  unfold rung Format.word
  have e : F.signWeight = 9223372036854775808 := rfl
  rw [e]
  cases s <;> simp <;> omega
theorem sgn_word (s : Bool) (r : Nat) (h : r < 9223372036854775808) : sgn (F.word s r) = s := by
  unfold sgn Format.word
  have e : F.signWeight = 9223372036854775808 := rfl
  rw [e]
  cases s
  · have : r / 9223372036854775808 % 2 = 0 := by omega
    simp [this]
  · have : (9223372036854775808 + r) / 9223372036854775808 % 2 = 1 := by omega
    simp only [if_true, this]; rfl

/-! ### The order -/
theorem compare_self (a : Int) : compare a a = .eq := by simp [compare, compareOfLessAndEq]
theorem order_self (x : Nat) : F.order x x = some .eq ∨ F.order x x = none := by
  unfold Format.order
  rcases F.read x with ⟨s, m, i⟩ | ⟨s⟩ | ⟨s, t⟩
  · left; simp only [Datum.order]; rw [compare_self]
  · left; cases s <;> rfl
  · right; rfl
theorem order_fin {x : Nat} (h : fin x = true) : F.order x x = some .eq := by
  obtain ⟨m, i, hr, _⟩ := read_fin h
  unfold Format.order
  rw [hr]; simp only [Datum.order]; rw [compare_self]
theorem signed_zero (s : Bool) (k : Nat) : signed s 0 k = 0 := by cases s <;> simp [signed]
theorem signed_le (s : Bool) (m k : Nat) : signed s m k ≤ (m <<< k : Nat) ∧ -(m <<< k : Nat) ≤ signed s m k := by
  have := Int.natCast_nonneg (m <<< k)
  cases s <;> simp only [signed, Bool.false_eq_true, if_false, if_true] <;> generalize ((m <<< k : Nat) : Int) = z at * <;> omega
theorem signed_ne (s : Bool) (m k : Nat) (h : m ≠ 0) : signed s m k ≠ 0 := by
  have : m <<< k ≠ 0 := by rw [Nat.shiftLeft_eq]; exact Nat.mul_ne_zero h (Nat.pos_iff_ne_zero.1 (Nat.two_pow_pos k))
  cases s <;> simp only [signed, Bool.false_eq_true, if_false, if_true] <;> omega
/-- Is a word nought? -/
theorem order_zero (x : Nat) : (F.order x 0 == some .eq) = decide (rung x = 0) := by
  have h0 : F.read 0 = .number false 0 (-1074) := rfl
  cases hf : fin x
  · have hn : ¬ rung x = 0 := by unfold fin at hf; simp at hf; omega
    rw [decide_eq_false hn]
    unfold Format.order
    rcases read_inf hf with ⟨s, h⟩ | ⟨s, t, h⟩
    · rw [h, h0]; cases s <;> rfl
    · rw [h]; rfl
  · obtain ⟨m, i, hr, hm, _⟩ := read_fin hf
    unfold Format.order
    rw [hr, h0]
    simp only [Datum.order]
    rw [signed_zero]
    by_cases hz : rung x = 0
    · rw [decide_eq_true hz, hm.2 hz, signed_zero, compare_self]; rfl
    · rw [decide_eq_false hz]
      have := signed_ne (sgn x) m (i - min i (-1074)).toNat (fun e => hz (hm.1 e))
      have hc : compare (signed (sgn x) m (i - min i (-1074)).toNat) 0 ≠ .eq := by
        simp only [compare, compareOfLessAndEq]
        split
        · simp
        · simp [this]
      revert hc
      generalize compare (signed (sgn x) m (i - min i (-1074)).toNat) 0 = c
      cases c <;> simp
theorem shl_ge (a k : Nat) : a ≤ a <<< k := by rw [Nat.shiftLeft_eq]; exact Nat.le_mul_of_pos_right a (Nat.two_pow_pos k)
/-- No finite word is above the greatest, or below its negative. -/
theorem order_max {x : Nat} (h : fin x = true) : (F.order x 9218868437227405311 == some .gt) = false ∧ (F.order x 18442240474082181119 == some .lt) = false := by
  have h1 : F.read 9218868437227405311 = .number false 9007199254740991 971 := rfl
  have h2 : F.read 18442240474082181119 = .number true 9007199254740991 971 := rfl
  obtain ⟨m, i, hr, hm, hlt, hi, hi', _⟩ := read_fin h
  have hmin : min i 971 = i := by omega
  have hk : (i - i).toNat = 0 := by omega
  have hs := signed_le (sgn x) m 0
  have hge := shl_ge 9007199254740991 (971 - i).toNat
  simp only [Nat.shiftLeft_zero] at hs
  constructor
  · unfold Format.order
    rw [hr, h1]
    simp only [Datum.order]
    rw [hmin, hk]
    have e : signed false 9007199254740991 (971 - i).toNat = ((9007199254740991 <<< (971 - i).toNat : Nat) : Int) := by simp [signed]
    rw [e]
    have hc : compare (signed (sgn x) m 0) ((9007199254740991 <<< (971 - i).toNat : Nat) : Int) ≠ .gt := by
      simp only [compare, compareOfLessAndEq]
      split
      · simp
      · split
        · simp
        · exfalso; omega
    revert hc
    generalize compare (signed (sgn x) m 0) ((9007199254740991 <<< (971 - i).toNat : Nat) : Int) = c
    cases c <;> simp
  · unfold Format.order
    rw [hr, h2]
    simp only [Datum.order]
    rw [hmin, hk]
    have e : signed true 9007199254740991 (971 - i).toNat = -((9007199254740991 <<< (971 - i).toNat : Nat) : Int) := by simp [signed]
    rw [e]
    have hc : compare (signed (sgn x) m 0) (-((9007199254740991 <<< (971 - i).toNat : Nat) : Int)) ≠ .lt := by
      simp only [compare, compareOfLessAndEq]
      split
      · exfalso; omega
      · split <;> simp
    revert hc
    generalize compare (signed (sgn x) m 0) (-((9007199254740991 <<< (971 - i).toNat : Nat) : Int)) = c
    cases c <;> simp
theorem order_infs {x : Nat} (h : fin x = false) : F.order x x = none ∨ (F.order x 9218868437227405311 == some .gt) = true ∨ (F.order x 18442240474082181119 == some .lt) = true := by
  have h1 : F.read 9218868437227405311 = .number false 9007199254740991 971 := rfl
  have h2 : F.read 18442240474082181119 = .number true 9007199254740991 971 := rfl
  unfold Format.order
  rcases read_inf h with ⟨s, h⟩ | ⟨s, t, h⟩
  · right
    rw [h, h1, h2]
    cases s
    · left; rfl
    · right; rfl
  · left; rw [h]; rfl

/-! ### Up to a zero's sign -/
/-- The same word, or both noughts. -/
def Same (x y : Nat) : Prop := plus x = plus y
theorem Same.fin {x y : Nat} (h : Same x y) : fin x = fin y := by rw [← fin_plus x, ← fin_plus y, h]
theorem same_rung {x y : Nat} (h : Same x y) : rung x = rung y := by rw [← rung_plus x, ← rung_plus y, h]
theorem same_zero {x y : Nat} (hx : rung x = 0) (hy : rung y = 0) : Same x y := by unfold Same plus; rw [if_pos hx, if_pos hy]
theorem nearest_zero (s : Bool) (p : Int) : rung (F.nearest s 0 p) = 0 := by
  unfold Format.nearest; rw [if_pos rfl]; exact rung_word s 0 (by omega)
/-- Data that are the same up to a zero's sign are written the same, up to a zero's sign. -/
theorem write_same (s t : Bool) (m : Nat) (p : Int) (h : m ≠ 0 → s = t) : Same (F.write (.number s m p)) (F.write (.number t m p)) := by
  by_cases hm : m = 0
  · subst hm; exact same_zero (nearest_zero s p) (nearest_zero t p)
  · rw [h hm]; rfl
theorem fin_word_inf (s : Bool) : fin (F.write (.infinity s)) = false := by
  show fin (F.word s F.infRung) = false
  unfold fin
  rw [rung_word s _ (by decide)]
  decide
/-- Two words that are the same, read. -/
theorem read_same {x y : Nat} (h : Same x y) (hf : fin x = true) : ∃ m : Nat, ∃ i : Int, F.read x = .number (sgn x) m i ∧ F.read y = .number (sgn y) m i ∧ (m ≠ 0 → sgn x = sgn y) ∧ (m = 0 ↔ rung x = 0) := by
  obtain ⟨m, i, h1, h2, _, _, _, h3⟩ := read_fin hf
  refine ⟨m, i, h1, h3 y (same_rung h).symm, fun hm => ?_, h2⟩
  have hx : ¬ rung x = 0 := fun e => hm (h2.2 e)
  have hy : ¬ rung y = 0 := by rw [← same_rung h]; exact hx
  unfold Same plus at h
  rw [if_neg hx, if_neg hy] at h
  rw [h]
theorem signed_sgn (s t : Bool) (m k : Nat) (h : m ≠ 0 → s = t) : signed s m k = signed t m k := by
  by_cases hm : m = 0
  · subst hm; rw [signed_zero, signed_zero]
  · rw [h hm]
theorem add_same {x x' y y' : Nat} (hx : Same x x') (hy : Same y y') (fx : fin x = true) (fy : fin y = true) : ∃ r r', F.add x y = some r ∧ F.add x' y' = some r' ∧ Same r r' := by
  obtain ⟨m, i, a1, a2, a3, _⟩ := read_same hx fx
  obtain ⟨n, j, b1, b2, b3, _⟩ := read_same hy fy
  simp only [Format.add, a1, a2, b1, b2, Datum.sum, Option.map_some]
  refine ⟨_, _, rfl, rfl, ?_⟩
  rw [signed_sgn (sgn x') (sgn x) m _ (fun h => (a3 h).symm), signed_sgn (sgn y') (sgn y) n _ (fun h => (b3 h).symm)]
  refine write_same _ _ _ _ fun h => ?_
  have : ¬ (signed (sgn x) m (i - min i j).toNat + signed (sgn y) n (j - min i j).toNat = 0) := fun e => h (by rw [e]; rfl)
  rw [if_neg this, if_neg this]
theorem sub_same {x x' y y' : Nat} (hx : Same x x') (hy : Same y y') (fx : fin x = true) (fy : fin y = true) : ∃ r r', F.sub x y = some r ∧ F.sub x' y' = some r' ∧ Same r r' := by
  obtain ⟨m, i, a1, a2, a3, _⟩ := read_same hx fx
  obtain ⟨n, j, b1, b2, b3, _⟩ := read_same hy fy
  simp only [Format.sub, a1, a2, b1, b2, Datum.opposite, Datum.sum, Option.map_some]
  refine ⟨_, _, rfl, rfl, ?_⟩
  rw [signed_sgn (sgn x') (sgn x) m _ (fun h => (a3 h).symm), signed_sgn (!sgn y') (!sgn y) n _ (fun h => by rw [b3 h])]
  refine write_same _ _ _ _ fun h => ?_
  have : ¬ (signed (sgn x) m (i - min i j).toNat + signed (!sgn y) n (j - min i j).toNat = 0) := fun e => h (by rw [e]; rfl)
  rw [if_neg this, if_neg this]
theorem mul_same {x x' y y' : Nat} (hx : Same x x') (hy : Same y y') (fx : fin x = true) (fy : fin y = true) : ∃ r r', F.mul x y = some r ∧ F.mul x' y' = some r' ∧ Same r r' := by
  obtain ⟨m, i, a1, a2, a3, _⟩ := read_same hx fx
  obtain ⟨n, j, b1, b2, b3, _⟩ := read_same hy fy
  simp only [Format.mul, a1, a2, b1, b2, Datum.product, Option.map_some]
  refine ⟨_, _, rfl, rfl, ?_⟩
  refine write_same _ _ _ _ fun h => ?_
  have hm : m ≠ 0 := fun e => h (by rw [e, Nat.zero_mul])
  have hn : n ≠ 0 := fun e => h (by rw [e, Nat.mul_zero])
  rw [a3 hm, b3 hn]
theorem div_same {x x' y y' : Nat} (hx : Same x x') (hy : Same y y') (fx : fin x = true) (fy : fin y = true) (nz : rung y ≠ 0) : ∃ r r', F.div x y = some r ∧ F.div x' y' = some r' ∧ Same r r' := by
  obtain ⟨m, i, a1, a2, a3, _⟩ := read_same hx fx
  obtain ⟨n, j, b1, b2, b3, b4⟩ := read_same hy fy
  have hn : n ≠ 0 := fun e => nz (b4.1 e)
  simp only [Format.div, a1, a2, b1, b2, Datum.quotient, if_neg hn, Option.map_some]
  refine ⟨_, _, rfl, rfl, ?_⟩
  refine write_same _ _ _ _ fun h => ?_
  have hm : m ≠ 0 := by
    intro e
    apply h
    rw [e]
    simp
  rw [a3 hm, b3 hn]

/-! ### Nothing finite out of what is not finite -/
def NoNum (d : Datum) : Prop := (∃ s, d = .infinity s) ∨ ∃ s t, d = .nan s t
theorem noNum_of {x : Nat} (h : fin x = false) : NoNum (F.read x) := read_inf h
theorem noNum_opp {d : Datum} (h : NoNum d) : NoNum d.opposite := by
  rcases h with ⟨s, rfl⟩ | ⟨s, t, rfl⟩
  · exact .inl ⟨_, rfl⟩
  · exact .inr ⟨_, _, rfl⟩
theorem sum_no {d e : Datum} (h : NoNum d ∨ NoNum e) : d.sum e = none ∨ ∃ s, d.sum e = some (.infinity s) := by
  rcases h with (⟨s, rfl⟩ | ⟨s, t, rfl⟩) | (⟨s, rfl⟩ | ⟨s, t, rfl⟩)
  · rcases e with ⟨a, b, c⟩ | ⟨a⟩ | ⟨a, b⟩ <;> simp [Datum.sum]
    by_cases e : s = a <;> simp [e]
  · left; rfl
  · rcases d with ⟨a, b, c⟩ | ⟨a⟩ | ⟨a, b⟩ <;> simp [Datum.sum]
    by_cases e : a = s <;> simp [e]
  · rcases d with ⟨a, b, c⟩ | ⟨a⟩ | ⟨a, b⟩ <;> left <;> rfl
theorem product_no {d e : Datum} (h : NoNum d ∨ NoNum e) : d.product e = none ∨ ∃ s, d.product e = some (.infinity s) := by
  rcases h with (⟨s, rfl⟩ | ⟨s, t, rfl⟩) | (⟨s, rfl⟩ | ⟨s, t, rfl⟩)
  · rcases e with ⟨a, b, c⟩ | ⟨a⟩ | ⟨a, b⟩ <;> simp [Datum.product]
    by_cases e : b = 0 <;> simp [e]
  · left; rfl
  · rcases d with ⟨a, b, c⟩ | ⟨a⟩ | ⟨a, b⟩ <;> simp [Datum.product]
    by_cases e : b = 0 <;> simp [e]
  · rcases d with ⟨a, b, c⟩ | ⟨a⟩ | ⟨a, b⟩ <;> left <;> rfl
theorem quotient_no {k : Nat} {d e : Datum} (h : NoNum d) (he : ∃ s m p, e = .number s m p) : d.quotient k e = none ∨ ∃ s, d.quotient k e = some (.infinity s) := by
  obtain ⟨a, b, c, rfl⟩ := he
  rcases h with ⟨s, rfl⟩ | ⟨s, t, rfl⟩
  · right; exact ⟨_, rfl⟩
  · left; rfl
theorem written_no {o : Option Datum} {r : Nat} (h : o = none ∨ ∃ s, o = some (.infinity s)) (hr : o.map F.write = some r) : fin r = false := by
  rcases h with rfl | ⟨s, rfl⟩
  · cases hr
  · cases hr; exact fin_word_inf s
theorem add_strict {x y r : Nat} (h : fin x = false ∨ fin y = false) (hr : F.add x y = some r) : fin r = false := written_no (sum_no (h.imp noNum_of noNum_of)) hr
theorem sub_strict {x y r : Nat} (h : fin x = false ∨ fin y = false) (hr : F.sub x y = some r) : fin r = false := written_no (sum_no (h.imp noNum_of fun h => noNum_opp (noNum_of h))) hr
theorem mul_strict {x y r : Nat} (h : fin x = false ∨ fin y = false) (hr : F.mul x y = some r) : fin r = false := written_no (product_no (h.imp noNum_of noNum_of)) hr
theorem div_strict {x y r : Nat} (h : fin x = false) (hy : fin y = true) (hr : F.div x y = some r) : fin r = false := by
  obtain ⟨m, i, e, _⟩ := read_fin hy
  exact written_no (quotient_no (noNum_of h) ⟨_, _, _, e⟩) hr

/-! ### What a word tells: nothing where it is not finite, else the word, nought without a sign -/
def al (x : Nat) : Option Nat := if fin x = true then some (plus x) else none
theorem al_some {x : Nat} (h : fin x = true) : al x = some (plus x) := if_pos h
theorem al_none {x : Nat} (h : fin x = false) : al x = none := by unfold al; rw [h]; rfl
theorem al_plus (x : Nat) : al (plus x) = al x := by unfold al; rw [fin_plus, plus_plus]
def opv (op : BinOp) (a b : Nat) : Option Nat := (floatBits op .f64 a b).bind al
def opS (op : BinOp) (X Y : Option Nat) : Option Nat := X.bind fun a => Y.bind fun b => opv op a b
/-- The word r is what an operation gives: its bits where it is valid, else some NaN. -/
def Res (op : BinOp) (x y r : Nat) : Prop := floatBits op .f64 x y = some r ∨ (floatBits op .f64 x y = none ∧ fin r = false)
theorem same_plus (x : Nat) : Same x (plus x) := (plus_plus x).symm
theorem al_same {r r' : Nat} (h : Same r r') : al r = al r' := by unfold al; rw [h.fin, h]
theorem res_al {op : BinOp} {x y r : Nat}
    (hs : fin x = true → fin y = true → ∃ r r', floatBits op .f64 x y = some r ∧ floatBits op .f64 (plus x) (plus y) = some r' ∧ Same r r')
    (hn : ∀ r, fin x = false ∨ fin y = false → floatBits op .f64 x y = some r → fin r = false) (h : Res op x y r) : al r = opS op (al x) (al y) := by
  cases hx : fin x
  · rw [al_none hx]
    rcases h with h | h
    · exact al_none (hn r (.inl hx) h)
    · exact al_none h.2
  · cases hy : fin y
    · rw [al_none hy, al_some hx]
      rcases h with h | h
      · exact al_none (hn r (.inr hy) h)
      · exact al_none h.2
    · obtain ⟨q, q', h1, h2, h3⟩ := hs hx hy
      rw [al_some hx, al_some hy]
      show al r = opv op (plus x) (plus y)
      unfold opv
      rw [h2]
      rcases h with h | h
      · rw [h1] at h; cases h; exact al_same h3
      · rw [h1] at h; exact absurd h.1 (by simp)
theorem res_add {x y r : Nat} (h : Res .add x y r) : al r = opS .add (al x) (al y) := res_al (fun a b => add_same (same_plus x) (same_plus y) a b) (fun r h e => add_strict h e) h
theorem res_sub {x y r : Nat} (h : Res .sub x y r) : al r = opS .sub (al x) (al y) := res_al (fun a b => sub_same (same_plus x) (same_plus y) a b) (fun r h e => sub_strict h e) h
theorem res_mul {x y r : Nat} (h : Res .mul x y r) : al r = opS .mul (al x) (al y) := res_al (fun a b => mul_same (same_plus x) (same_plus y) a b) (fun r h e => mul_strict h e) h
theorem res_quo {x y r : Nat} (fy : fin y = true) (nz : rung y ≠ 0) (h : Res .quo x y r) : al r = opS .quo (al x) (al y) :=
  res_al (fun a b => div_same (same_plus x) (same_plus y) a b nz) (fun r h e => div_strict (h.elim id fun h => absurd fy (by rw [h]; simp)) fy e) h
theorem opS_none_l (op : BinOp) (Y : Option Nat) : opS op none Y = none := rfl
theorem opS_none_r (op : BinOp) (X : Option Nat) : opS op X none = none := by cases X <;> rfl

/-! ### How the program's text asks -/
def isN (x : Nat) : Bool := F.order x x != some Ordering.eq
theorem isN_fin {x : Nat} (h : fin x = true) : isN x = false := by unfold isN; rw [order_fin h]; rfl
theorem rung_rung (x : Nat) : rung (rung x) = rung x := by unfold rung; omega
theorem fin_rung (x : Nat) : fin (rung x) = fin x := by unfold fin; rw [rung_rung]
/-- The size of a word: its sign is struck. -/
theorem abs_word (x : Nat) (hx : x < 18446744073709551616) : (Go.bits .andNot .u64 (x : Int) 9223372036854775808 : Int).toNat = rung x := by
  have h := u64_andNot_nat x 9223372036854775808 hx (by omega)
  have h' : Go.bits .andNot .u64 (x : Int) 9223372036854775808 = ((x &&& (18446744073709551615 - 9223372036854775808) : Nat) : Int) := h
  rw [h', Int.toNat_natCast]
  show x &&& (2 ^ 63 - 1) = rung x
  rw [Nat.and_two_pow_sub_one_eq_mod]; rfl
theorem gt_fin {x : Nat} (h : fin x = true) : (F.order (rung x) 9218868437227405311 == some .gt) = false := (order_max (by rw [fin_rung]; exact h)).1
theorem gt_inf {x : Nat} (h : fin x = false) (hn : isN x = false) : (F.order (rung x) 9218868437227405311 == some .gt) = true := by
  have h1 : ¬ rung x < 9218868437227405312 := by unfold fin at h; simpa using h
  by_cases h2 : rung x = 9218868437227405312
  · rw [h2]; rfl
  · exfalso
    have hr : F.read x = .nan (sgn x) (rung x - 9218868437227405312) := by rw [read_eq, if_neg (by omega), if_neg h1, if_neg h2]
    unfold isN Format.order at hn
    rw [hr] at hn
    simp [Datum.order] at hn
theorem sign_word (x : Nat) (hx : x < 18446744073709551616) : decide (Go.RowKit.wrap64 ((x : Int)) < 0) = decide (9223372036854775808 ≤ x) := by
  rw [Bool.eq_iff_iff]; simp only [decide_eq_true_eq]; unfold Go.RowKit.wrap64; omega
/-- Good: finite, and no nought with a sign. -/
def good (x : Nat) : Bool := fin x && decide (plus x = x)
theorem good_iff {x : Nat} (hx : x < 18446744073709551616) : good x = true ↔ fin x = true ∧ (rung x = 0 → x = 0) := by
  unfold good plus
  rw [Bool.and_eq_true, decide_eq_true_eq]
  refine and_congr Iff.rfl ?_
  by_cases h : rung x = 0
  · rw [if_pos h]; constructor
    · intro e _; exact e.symm
    · intro e; exact (e h).symm
  · rw [if_neg h]; exact ⟨fun _ e => absurd e h, fun _ => rfl⟩
/-- The negative of a word. -/
def ngt (x : Nat) : Nat := Op.negFloat .f64 x
theorem or63 {y : Nat} (hy : y < 2 ^ 63) : 2 ^ 63 + y = 2 ^ 63 ||| y := by
  have h := Nat.two_pow_add_eq_or_of_lt hy 1
  rwa [Nat.mul_one] at h
theorem xor63 {y : Nat} (hy : y < 2 ^ 63) : y ^^^ 2 ^ 63 = 2 ^ 63 + y ∧ (2 ^ 63 + y) ^^^ 2 ^ 63 = y := by
  rw [or63 hy]
  constructor
  · refine Nat.eq_of_testBit_eq fun i => ?_
    rw [Nat.testBit_xor, Nat.testBit_or, Nat.testBit_two_pow]
    by_cases hi : 63 = i
    · subst hi; rw [Nat.testBit_lt_two_pow hy]; simp
    · simp [hi]
  · refine Nat.eq_of_testBit_eq fun i => ?_
    rw [Nat.testBit_xor, Nat.testBit_or, Nat.testBit_two_pow]
    by_cases hi : 63 = i
    · subst hi; rw [Nat.testBit_lt_two_pow hy]; simp
    · simp [hi]
theorem ngt_eq (x : Nat) (hx : x < 18446744073709551616) : ngt x = if x < 9223372036854775808 then x + 9223372036854775808 else x - 9223372036854775808 := by
  show x ^^^ 2 ^ 63 = _
  by_cases h : x < 9223372036854775808
  · rw [if_pos h, (xor63 (y := x) h).1, Nat.add_comm]
  · rw [if_neg h]
    obtain ⟨y, rfl⟩ : ∃ y, x = 2 ^ 63 + y := ⟨x - 2 ^ 63, by omega⟩
    have hy : y < 2 ^ 63 := by omega
    rw [(xor63 hy).2]; omega
theorem ngt_lt (x : Nat) (hx : x < 18446744073709551616) : ngt x < 18446744073709551616 := by rw [ngt_eq x hx]; split <;> omega
theorem rung_ngt (x : Nat) (hx : x < 18446744073709551616) : rung (ngt x) = rung x := by rw [ngt_eq x hx]; unfold rung; split <;> omega
theorem sgn_ngt (x : Nat) (hx : x < 18446744073709551616) : sgn (ngt x) = !sgn x := by
  rw [ngt_eq x hx]; unfold sgn
  by_cases h : x < 9223372036854775808
  · rw [if_pos h]
    have e1 : (x + 9223372036854775808) / 9223372036854775808 % 2 = 1 := by omega
    have e2 : x / 9223372036854775808 % 2 = 0 := by omega
    rw [e1, e2]; rfl
  · rw [if_neg h]
    have e1 : (x - 9223372036854775808) / 9223372036854775808 % 2 = 0 := by omega
    have e2 : x / 9223372036854775808 % 2 = 1 := by omega
    rw [e1, e2]; rfl
theorem fin_ngt (x : Nat) (hx : x < 18446744073709551616) : fin (ngt x) = fin x := by unfold fin; rw [rung_ngt x hx]
theorem sgn_iff (x : Nat) (hx : x < 18446744073709551616) : sgn x = true ↔ 9223372036854775808 ≤ x := by
  unfold sgn
  by_cases h : 9223372036854775808 ≤ x
  · have : x / 9223372036854775808 % 2 = 1 := by omega
    rw [this]; simp [h]
  · have : x / 9223372036854775808 % 2 = 0 := by omega
    rw [this]; simp [h]
/-- Above nought. -/
theorem order_pos {x : Nat} (h : fin x = true) (hz : rung x ≠ 0) : (F.order x 0 == some .gt) = !sgn x := by
  obtain ⟨m, i, hr, hm, _⟩ := read_fin h
  have h0 : F.read 0 = .number false 0 (-1074) := rfl
  unfold Format.order
  rw [hr, h0]
  simp only [Datum.order]
  rw [signed_zero]
  have hm0 : m ≠ 0 := fun e => hz (hm.1 e)
  have hp : 0 < ((m <<< (i - min i (-1074)).toNat : Nat) : Int) := by
    have := shl_ge m (i - min i (-1074)).toNat; omega
  cases hs : sgn x
  · simp only [signed, Bool.false_eq_true, if_false]
    generalize ((m <<< (i - min i (-1074)).toNat : Nat) : Int) = z at *
    have : compare z 0 = .gt := by simp only [compare, compareOfLessAndEq]; rw [if_neg (by omega), if_neg (by omega)]
    rw [this]; rfl
  · simp only [signed, if_true]
    generalize ((m <<< (i - min i (-1074)).toNat : Nat) : Int) = z at *
    have : compare (-z) 0 = .lt := by simp only [compare, compareOfLessAndEq]; rw [if_pos (by omega)]
    rw [this]; rfl
/-- Equal to the least word, or its negative to the greatest. -/
theorem order_least {x : Nat} (hx : x < 18446744073709551616) (h : fin x = true) : (F.order x 18442240474082181119 == some .eq) = (F.order (ngt x) 9218868437227405311 == some .eq) := by
  have h1 : F.read 9218868437227405311 = .number false 9007199254740991 971 := rfl
  have h2 : F.read 18442240474082181119 = .number true 9007199254740991 971 := rfl
  obtain ⟨m, i, hr, _, _, _, _, hall⟩ := read_fin h
  have hr2 := hall (ngt x) (rung_ngt x hx)
  unfold Format.order
  rw [hr, hr2, h1, h2, sgn_ngt x hx]
  simp only [Datum.order]
  have e1 : signed true 9007199254740991 (971 - min i 971).toNat = -signed false 9007199254740991 (971 - min i 971).toNat := by simp [signed]
  have e2 : signed (!sgn x) m (i - min i 971).toNat = -signed (sgn x) m (i - min i 971).toNat := by cases sgn x <;> simp [signed]
  rw [e1, e2]
  generalize signed (sgn x) m (i - min i 971).toNat = u
  generalize signed false 9007199254740991 (971 - min i 971).toNat = v
  simp only [compare, compareOfLessAndEq]
  by_cases a : u = -v
  · rw [if_neg (by omega), if_pos a, if_neg (by omega), if_pos (by omega)]
  · by_cases b : u < -v
    · rw [if_pos b, if_neg (by omega), if_neg (by omega)]; rfl
    · rw [if_neg b, if_neg a, if_pos (by omega)]; rfl
theorem order_inf {x : Nat} (h : fin x = true) : F.order x 9218868437227405312 = some .lt ∧ F.order x 18442240474082181120 = some .gt ∧ F.order 9218868437227405312 x = some .gt ∧ F.order 18442240474082181120 x = some .lt := by
  obtain ⟨m, i, hr, _⟩ := read_fin h
  have h1 : F.read 9218868437227405312 = .infinity false := rfl
  have h2 : F.read 18442240474082181120 = .infinity true := rfl
  unfold Format.order
  rw [hr, h1, h2]
  exact ⟨rfl, rfl, rfl, rfl⟩
theorem swap_compare (a b : Int) : (compare a b).swap = compare b a := by
  simp only [compare, compareOfLessAndEq]
  by_cases h : a < b
  · rw [if_pos h, if_neg (by omega), if_neg (by omega)]; rfl
  · rw [if_neg h]
    by_cases e : a = b
    · rw [if_pos e, if_neg (by omega), if_pos e.symm]; rfl
    · rw [if_neg e, if_pos (by omega)]; rfl
/-- Two finite words are ordered, and the other way round the other way. -/
theorem order_two {x y : Nat} (fx : fin x = true) (fy : fin y = true) : ∃ c, F.order x y = some c ∧ F.order y x = some c.swap := by
  obtain ⟨m, i, hr, _⟩ := read_fin fx
  obtain ⟨n, j, hs, _⟩ := read_fin fy
  unfold Format.order
  rw [hr, hs]
  simp only [Datum.order]
  refine ⟨_, rfl, ?_⟩
  rw [swap_compare, Int.min_comm]
theorem compare_eq {a b : Int} (h : compare a b = .eq) : a = b := by
  simp only [compare, compareOfLessAndEq] at h
  by_cases c : a < b
  · rw [if_pos c] at h; cases h
  · rw [if_neg c] at h
    by_cases e : a = b
    · exact e
    · rw [if_neg e] at h; cases h
/-- What a finite word's size and place tell of its other bits. -/
theorem read_fin2 {x : Nat} (h : fin x = true) : ∃ m : Nat, ∃ i : Int, F.read x = .number (sgn x) m i ∧ -1074 ≤ i ∧ m < 9007199254740992 ∧ (i ≠ -1074 → 4503599627370496 ≤ m) ∧ rung x = (if m < 4503599627370496 then m else (i + 1075).toNat * 4503599627370496 + (m - 4503599627370496)) := by
  simp only [fin, decide_eq_true_eq] at h
  by_cases h1 : rung x < 4503599627370496
  · refine ⟨rung x, -1074, ?_, by omega, by omega, fun h => absurd rfl h, ?_⟩
    · rw [read_eq, if_pos h1]
    · rw [if_pos h1]
  · refine ⟨4503599627370496 + rung x % 4503599627370496, -1074 + (rung x / 4503599627370496 - 1 : Nat), ?_, by omega, by omega, fun _ => by omega, ?_⟩
    · rw [read_eq, if_neg h1, if_pos h]
    · rw [if_neg (by omega)]; omega
theorem shl_big {m n k : Nat} (h : m <<< k = n) (hk : k ≠ 0) (hm : 4503599627370496 ≤ m) : 9007199254740992 ≤ n := by
  obtain ⟨k, rfl⟩ : ∃ q, k = q + 1 := ⟨k - 1, by omega⟩
  rw [← h, Nat.shiftLeft_succ]
  have := shl_ge m k
  omega
/-- Good words that are equal in order are one word. -/
theorem order_eq_good {x y : Nat} (wx : x < 18446744073709551616) (wy : y < 18446744073709551616) (gx : good x = true) (gy : good y = true) (h : F.order x y = some .eq) : x = y := by
  obtain ⟨fx, zx⟩ := (good_iff wx).1 gx
  obtain ⟨fy, zy⟩ := (good_iff wy).1 gy
  obtain ⟨m, i, hr, hi, hm, hn, er⟩ := read_fin2 fx
  obtain ⟨n, j, hs, hj, hm', hn', es⟩ := read_fin2 fy
  unfold Format.order at h
  rw [hr, hs] at h
  simp only [Datum.order] at h
  have h := compare_eq (Option.some.inj h)
  have hx := sgn_iff x wx
  have hy := sgn_iff y wy
  -- sizes
  have key : m = n ∧ (m ≠ 0 → i = j ∧ sgn x = sgn y) := by
    have hnat : m <<< (i - min i j).toNat = n <<< (j - min i j).toNat ∧ (m ≠ 0 → sgn x = sgn y) := by
      generalize ha : m <<< (i - min i j).toNat = a at h
      generalize hb : n <<< (j - min i j).toNat = b at h
      have ga : m ≤ a := by rw [← ha]; exact shl_ge m _
      simp only [signed, ha, hb] at h
      cases sx : sgn x <;> cases sy : sgn y <;> simp only [sx, sy, Bool.false_eq_true, if_true, if_false] at h
      · exact ⟨by omega, fun _ => rfl⟩
      · exact ⟨by omega, fun _ => by omega⟩
      · exact ⟨by omega, fun _ => by omega⟩
      · exact ⟨by omega, fun _ => rfl⟩
    by_cases hij : i = j
    · subst hij
      have e : (i - min i i).toNat = 0 := by omega
      rw [e] at hnat
      simp only [Nat.shiftLeft_zero] at hnat
      exact ⟨hnat.1, fun h0 => ⟨rfl, hnat.2 h0⟩⟩
    · exfalso
      rcases Int.lt_or_gt_of_ne hij with hlt | hgt
      · have e1 : (i - min i j).toNat = 0 := by omega
        have e2 : (j - min i j).toNat ≠ 0 := by omega
        rw [e1] at hnat
        have := shl_big hnat.1.symm e2 (hn' (by omega))
        simp only [Nat.shiftLeft_zero] at this
        omega
      · have e1 : (j - min i j).toNat = 0 := by omega
        have e2 : (i - min i j).toNat ≠ 0 := by omega
        rw [e1] at hnat
        have := shl_big hnat.1 e2 (hn (by omega))
        simp only [Nat.shiftLeft_zero] at this
        omega
  obtain ⟨rfl, hs2⟩ := key
  by_cases h0 : m = 0
  · subst h0
    rw [if_pos (by omega)] at er es
    rw [zx er, zy es]
  · obtain ⟨rfl, hsg⟩ := hs2 h0
    have e : rung x = rung y := by rw [er, es]
    unfold rung at e
    rw [hsg] at hx
    cases hs : sgn y
    · rw [hs] at hx hy; simp at hx hy; omega
    · rw [hs] at hx hy; simp at hx hy; omega
end Go.Proofs.Ytfmplkjicdgfbaa.Flo
