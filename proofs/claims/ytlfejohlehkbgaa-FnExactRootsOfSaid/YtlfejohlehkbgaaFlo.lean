/- Floats, in plain numbers: which words are finite, what a zero without its sign is, and that + - * / tell the same up to a zero's sign where the operands do, and nothing finite where an operand is not finite. -/
import Derived.Laws.FloatArith
import Derived.Laws.BitsAllLaws
import Derived.IntWalk
import Derived.RowKit
namespace Go.Proofs.Ytlfejohlehkbgaa.Flo
open Ieee
set_option linter.unusedVariables false
set_option linter.unusedSimpArgs false

abbrev F : Ieee.Format := FloatKind.f64.format
def rung (x : Nat) : Nat := x % 9223372036854775808
def sgn (x : Nat) : Bool := x / 9223372036854775808 % 2 == 1
def fin (x : Nat) : Bool := decide (rung x < 9218868437227405312)
def plus (x : Nat) : Nat := if rung x = 0 then 0 else x

theorem read_eq (x : Nat) : F.read x = (if rung x < 4503599627370496 then .number (sgn x) (rung x) (-1074) else if rung x < 9218868437227405312 then .number (sgn x) (4503599627370496 + rung x % 4503599627370496) (-1074 + (rung x / 4503599627370496 - 1 : Nat)) else if rung x = 9218868437227405312 then .infinity (sgn x) else .nan (sgn x) (rung x - 9218868437227405312)) := rfl

theorem read_fin {x : Nat} (h : fin x = true) : ∃ m : Nat, ∃ i : Int, F.read x = .number (sgn x) m i ∧ (m = 0 ↔ rung x = 0) ∧ m < 9007199254740992 ∧ -1074 ≤ i ∧ i ≤ 971 ∧ ∀ y, rung y = rung x → F.read y = .number (sgn y) m i := by
  simp only [fin, decide_eq_true_eq] at h
  by_cases h1 : rung x < 4503599627370496
  · refine ⟨rung x, -1074, ?_, Iff.rfl, by omega, by omega, by omega, fun y hy => ?_⟩
    · rw [read_eq, if_pos h1]
    · rw [read_eq, hy, if_pos h1]
  · refine ⟨4503599627370496 + rung x % 4503599627370496, -1074 + (rung x / 4503599627370496 - 1 : Nat), ?_, by omega, by omega, by omega, by omega, fun y hy => ?_⟩
    · rw [read_eq, if_neg h1, if_pos h]
    · rw [read_eq, hy, if_neg h1, if_pos h]
theorem read_inf {x : Nat} (h : fin x = false) : (∃ s, F.read x = .infinity s) ∨ ∃ s t, F.read x = .nan s t := by
  simp only [fin, decide_eq_false_iff_not] at h
  rw [read_eq, if_neg (by omega), if_neg h]
  by_cases h1 : rung x = 9218868437227405312
  · rw [if_pos h1]; exact .inl ⟨_, rfl⟩
  · rw [if_neg h1]; exact .inr ⟨_, _, rfl⟩

theorem rung_plus (x : Nat) : rung (plus x) = rung x := by
  unfold plus
  by_cases h : rung x = 0
  · rw [if_pos h, h]; rfl
  · rw [if_neg h]
theorem fin_plus (x : Nat) : fin (plus x) = fin x := by unfold fin; rw [rung_plus]
theorem plus_plus (x : Nat) : plus (plus x) = plus x := by
  by_cases h : rung x = 0
  · have e : plus x = 0 := if_pos h
    rw [e]; rfl
  · have e : plus x = x := if_neg h
    rw [e, e]
theorem rung_word (s : Bool) (r : Nat) (h : r < 9223372036854775808) : rung (F.word s r) = r := by
  unfold rung Format.word
  have e : F.signWeight = 9223372036854775808 := rfl
  rw [e]
  cases s <;> simp <;> omega
theorem sgn_word (s : Bool) (r : Nat) (h : r < 9223372036854775808) : sgn (F.word s r) = s := by
  unfold sgn Format.word
  have e : F.signWeight = 9223372036854775808 := rfl
  rw [e]
  cases s
  · have : r / 9223372036854775808 % 2 = 0 := by omega
    simp [this]
  · have : (9223372036854775808 + r) / 9223372036854775808 % 2 = 1 := by omega
    simp only [if_true, this]; rfl

theorem compare_self (a : Int) : compare a a = .eq := by simp [compare, compareOfLessAndEq]
theorem order_fin {x : Nat} (h : fin x = true) : F.order x x = some .eq := by
  obtain ⟨m, i, hr, _⟩ := read_fin h
  unfold Format.order
  rw [hr]; simp only [Datum.order]; rw [compare_self]
theorem signed_zero (s : Bool) (k : Nat) : signed s 0 k = 0 := by cases s <;> simp [signed]
theorem signed_le (s : Bool) (m k : Nat) : signed s m k ≤ (m <<< k : Nat) ∧ -(m <<< k : Nat) ≤ signed s m k := by
  have := Int.natCast_nonneg (m <<< k)
  cases s <;> simp only [signed, Bool.false_eq_true, if_false, if_true] <;> generalize ((m <<< k : Nat) : Int) = z at * <;> omega
theorem signed_ne (s : Bool) (m k : Nat) (h : m ≠ 0) : signed s m k ≠ 0 := by
  have : m <<< k ≠ 0 := by rw [Nat.shiftLeft_eq]; exact Nat.mul_ne_zero h (Nat.pos_iff_ne_zero.1 (Nat.two_pow_pos k))
  cases s <;> simp only [signed, Bool.false_eq_true, if_false, if_true] <;> omega
theorem order_zero (x : Nat) : (F.order x 0 == some .eq) = decide (rung x = 0) := by
  have h0 : F.read 0 = .number false 0 (-1074) := rfl
  cases hf : fin x
  · have hn : ¬ rung x = 0 := by unfold fin at hf; simp at hf; omega
    rw [decide_eq_false hn]
    unfold Format.order
    rcases read_inf hf with ⟨s, h⟩ | ⟨s, t, h⟩
    · rw [h, h0]; cases s <;> rfl
    · rw [h]; rfl
  · obtain ⟨m, i, hr, hm, _⟩ := read_fin hf
    unfold Format.order
    rw [hr, h0]
    simp only [Datum.order]
    rw [signed_zero]
    by_cases hz : rung x = 0
    · rw [decide_eq_true hz, hm.2 hz, signed_zero, compare_self]; rfl
    · rw [decide_eq_false hz]
      have := signed_ne (sgn x) m (i - min i (-1074)).toNat (fun e => hz (hm.1 e))
      have hc : compare (signed (sgn x) m (i - min i (-1074)).toNat) 0 ≠ .eq := by
        simp only [compare, compareOfLessAndEq]
        split
        · simp
        · simp [this]
      revert hc
      generalize compare (signed (sgn x) m (i - min i (-1074)).toNat) 0 = c
      cases c <;> simp
theorem shl_ge (a k : Nat) : a ≤ a <<< k := by rw [Nat.shiftLeft_eq]; exact Nat.le_mul_of_pos_right a (Nat.two_pow_pos k)
theorem order_max {x : Nat} (h : fin x = true) : (F.order x 9218868437227405311 == some .gt) = false ∧ (F.order x 18442240474082181119 == some .lt) = false := by
  have h1 : F.read 9218868437227405311 = .number false 9007199254740991 971 := rfl
  have h2 : F.read 18442240474082181119 = .number true 9007199254740991 971 := rfl
  obtain ⟨m, i, hr, hm, hlt, hi, hi', _⟩ := read_fin h
  have hmin : min i 971 = i := by omega
  have hk : (i - i).toNat = 0 := by omega
  have hs := signed_le (sgn x) m 0
  have hge := shl_ge 9007199254740991 (971 - i).toNat
  simp only [Nat.shiftLeft_zero] at hs
  constructor
  · unfold Format.order
    rw [hr, h1]
    simp only [Datum.order]
    rw [hmin, hk]
    have e : signed false 9007199254740991 (971 - i).toNat = ((9007199254740991 <<< (971 - i).toNat : Nat) : Int) := by simp [signed]
    rw [e]
    have hc : compare (signed (sgn x) m 0) ((9007199254740991 <<< (971 - i).toNat : Nat) : Int) ≠ .gt := by
      simp only [compare, compareOfLessAndEq]
      split
      · simp
      · split
        · simp
        · exfalso; omega
    revert hc
    generalize compare (signed (sgn x) m 0) ((9007199254740991 <<< (971 - i).toNat : Nat) : Int) = c
    cases c <;> simp
  · unfold Format.order
    rw [hr, h2]
    simp only [Datum.order]
    rw [hmin, hk]
    have e : signed true 9007199254740991 (971 - i).toNat = -((9007199254740991 <<< (971 - i).toNat : Nat) : Int) := by simp [signed]
    rw [e]
    have hc : compare (signed (sgn x) m 0) (-((9007199254740991 <<< (971 - i).toNat : Nat) : Int)) ≠ .lt := by
      simp only [compare, compareOfLessAndEq]
      split
      · exfalso; omega
      · split <;> simp
    revert hc
    generalize compare (signed (sgn x) m 0) (-((9007199254740991 <<< (971 - i).toNat : Nat) : Int)) = c
    cases c <;> simp
def Same (x y : Nat) : Prop := plus x = plus y
theorem Same.fin {x y : Nat} (h : Same x y) : fin x = fin y := by rw [← fin_plus x, ← fin_plus y, h]
theorem same_rung {x y : Nat} (h : Same x y) : rung x = rung y := by rw [← rung_plus x, ← rung_plus y, h]
theorem same_zero {x y : Nat} (hx : rung x = 0) (hy : rung y = 0) : Same x y := by unfold Same plus; rw [if_pos hx, if_pos hy]
theorem nearest_zero (s : Bool) (p : Int) : rung (F.nearest s 0 p) = 0 := by
  unfold Format.nearest; rw [if_pos rfl]; exact rung_word s 0 (by omega)
theorem write_same (s t : Bool) (m : Nat) (p : Int) (h : m ≠ 0 → s = t) : Same (F.write (.number s m p)) (F.write (.number t m p)) := by
  by_cases hm : m = 0
  · subst hm; exact same_zero (nearest_zero s p) (nearest_zero t p)
  · rw [h hm]; rfl
theorem fin_word_inf (s : Bool) : fin (F.write (.infinity s)) = false := by
  show fin (F.word s F.infRung) = false
  unfold fin
  rw [rung_word s _ (by decide)]
  decide
theorem read_same {x y : Nat} (h : Same x y) (hf : fin x = true) : ∃ m : Nat, ∃ i : Int, F.read x = .number (sgn x) m i ∧ F.read y = .number (sgn y) m i ∧ (m ≠ 0 → sgn x = sgn y) ∧ (m = 0 ↔ rung x = 0) := by
  obtain ⟨m, i, h1, h2, _, _, _, h3⟩ := read_fin hf
  refine ⟨m, i, h1, h3 y (same_rung h).symm, fun hm => ?_, h2⟩
  have hx : ¬ rung x = 0 := fun e => hm (h2.2 e)
  have hy : ¬ rung y = 0 := by rw [← same_rung h]; exact hx
  unfold Same plus at h
  rw [if_neg hx, if_neg hy] at h
  rw [h]
theorem signed_sgn (s t : Bool) (m k : Nat) (h : m ≠ 0 → s = t) : signed s m k = signed t m k := by
  by_cases hm : m = 0
  · subst hm; rw [signed_zero, signed_zero]
  · rw [h hm]
theorem add_same {x x' y y' : Nat} (hx : Same x x') (hy : Same y y') (fx : fin x = true) (fy : fin y = true) : ∃ r r', F.add x y = some r ∧ F.add x' y' = some r' ∧ Same r r' := by
  obtain ⟨m, i, a1, a2, a3, _⟩ := read_same hx fx
  obtain ⟨n, j, b1, b2, b3, _⟩ := read_same hy fy
  simp only [Format.add, a1, a2, b1, b2, Datum.sum, Option.map_some]
  refine ⟨_, _, rfl, rfl, ?_⟩
  rw [signed_sgn (sgn x') (sgn x) m _ (fun h => (a3 h).symm), signed_sgn (sgn y') (sgn y) n _ (fun h => (b3 h).symm)]
  refine write_same _ _ _ _ fun h => ?_
  have : ¬ (signed (sgn x) m (i - min i j).toNat + signed (sgn y) n (j - min i j).toNat = 0) := fun e => h (by rw [e]; rfl)
  rw [if_neg this, if_neg this]
theorem sub_same {x x' y y' : Nat} (hx : Same x x') (hy : Same y y') (fx : fin x = true) (fy : fin y = true) : ∃ r r', F.sub x y = some r ∧ F.sub x' y' = some r' ∧ Same r r' := by
  obtain ⟨m, i, a1, a2, a3, _⟩ := read_same hx fx
  obtain ⟨n, j, b1, b2, b3, _⟩ := read_same hy fy
  simp only [Format.sub, a1, a2, b1, b2, Datum.opposite, Datum.sum, Option.map_some]
  refine ⟨_, _, rfl, rfl, ?_⟩
  rw [signed_sgn (sgn x') (sgn x) m _ (fun h => (a3 h).symm), signed_sgn (!sgn y') (!sgn y) n _ (fun h => by rw [b3 h])]
  refine write_same _ _ _ _ fun h => ?_
  have : ¬ (signed (sgn x) m (i - min i j).toNat + signed (!sgn y) n (j - min i j).toNat = 0) := fun e => h (by rw [e]; rfl)
  rw [if_neg this, if_neg this]
theorem mul_same {x x' y y' : Nat} (hx : Same x x') (hy : Same y y') (fx : fin x = true) (fy : fin y = true) : ∃ r r', F.mul x y = some r ∧ F.mul x' y' = some r' ∧ Same r r' := by
  obtain ⟨m, i, a1, a2, a3, _⟩ := read_same hx fx
  obtain ⟨n, j, b1, b2, b3, _⟩ := read_same hy fy
  simp only [Format.mul, a1, a2, b1, b2, Datum.product, Option.map_some]
  refine ⟨_, _, rfl, rfl, ?_⟩
  refine write_same _ _ _ _ fun h => ?_
  have hm : m ≠ 0 := fun e => h (by rw [e, Nat.zero_mul])
  have hn : n ≠ 0 := fun e => h (by rw [e, Nat.mul_zero])
  rw [a3 hm, b3 hn]
theorem div_same {x x' y y' : Nat} (hx : Same x x') (hy : Same y y') (fx : fin x = true) (fy : fin y = true) (nz : rung y ≠ 0) : ∃ r r', F.div x y = some r ∧ F.div x' y' = some r' ∧ Same r r' := by
  obtain ⟨m, i, a1, a2, a3, _⟩ := read_same hx fx
  obtain ⟨n, j, b1, b2, b3, b4⟩ := read_same hy fy
  have hn : n ≠ 0 := fun e => nz (b4.1 e)
  simp only [Format.div, a1, a2, b1, b2, Datum.quotient, if_neg hn, Option.map_some]
  refine ⟨_, _, rfl, rfl, ?_⟩
  refine write_same _ _ _ _ fun h => ?_
  have hm : m ≠ 0 := by
    intro e
    apply h
    rw [e]
    simp
  rw [a3 hm, b3 hn]

def NoNum (d : Datum) : Prop := (∃ s, d = .infinity s) ∨ ∃ s t, d = .nan s t
theorem noNum_of {x : Nat} (h : fin x = false) : NoNum (F.read x) := read_inf h
theorem noNum_opp {d : Datum} (h : NoNum d) : NoNum d.opposite := by
  rcases h with ⟨s, rfl⟩ | ⟨s, t, rfl⟩
  · exact .inl ⟨_, rfl⟩
  · exact .inr ⟨_, _, rfl⟩
theorem sum_no {d e : Datum} (h : NoNum d ∨ NoNum e) : d.sum e = none ∨ ∃ s, d.sum e = some (.infinity s) := by
  rcases h with (⟨s, rfl⟩ | ⟨s, t, rfl⟩) | (⟨s, rfl⟩ | ⟨s, t, rfl⟩)
  · rcases e with ⟨a, b, c⟩ | ⟨a⟩ | ⟨a, b⟩ <;> simp [Datum.sum]
    by_cases e : s = a <;> simp [e]
  · left; rfl
  · rcases d with ⟨a, b, c⟩ | ⟨a⟩ | ⟨a, b⟩ <;> simp [Datum.sum]
    by_cases e : a = s <;> simp [e]
  · rcases d with ⟨a, b, c⟩ | ⟨a⟩ | ⟨a, b⟩ <;> left <;> rfl
theorem product_no {d e : Datum} (h : NoNum d ∨ NoNum e) : d.product e = none ∨ ∃ s, d.product e = some (.infinity s) := by
  rcases h with (⟨s, rfl⟩ | ⟨s, t, rfl⟩) | (⟨s, rfl⟩ | ⟨s, t, rfl⟩)
  · rcases e with ⟨a, b, c⟩ | ⟨a⟩ | ⟨a, b⟩ <;> simp [Datum.product]
    by_cases e : b = 0 <;> simp [e]
  · left; rfl
  · rcases d with ⟨a, b, c⟩ | ⟨a⟩ | ⟨a, b⟩ <;> simp [Datum.product]
    by_cases e : b = 0 <;> simp [e]
  · rcases d with ⟨a, b, c⟩ | ⟨a⟩ | ⟨a, b⟩ <;> left <;> rfl
theorem quotient_no {k : Nat} {d e : Datum} (h : NoNum d) (he : ∃ s m p, e = .number s m p) : d.quotient k e = none ∨ ∃ s, d.quotient k e = some (.infinity s) := by
  obtain ⟨a, b, c, rfl⟩ := he
  rcases h with ⟨s, rfl⟩ | ⟨s, t, rfl⟩
  · right; exact ⟨_, rfl⟩
  · left; rfl
theorem written_no {o : Option Datum} {r : Nat} (h : o = none ∨ ∃ s, o = some (.infinity s)) (hr : o.map F.write = some r) : fin r = false := by
  rcases h with rfl | ⟨s, rfl⟩
  · cases hr
  · cases hr; exact fin_word_inf s
theorem add_strict {x y r : Nat} (h : fin x = false ∨ fin y = false) (hr : F.add x y = some r) : fin r = false := written_no (sum_no (h.imp noNum_of noNum_of)) hr
theorem sub_strict {x y r : Nat} (h : fin x = false ∨ fin y = false) (hr : F.sub x y = some r) : fin r = false := written_no (sum_no (h.imp noNum_of fun h => noNum_opp (noNum_of h))) hr
theorem mul_strict {x y r : Nat} (h : fin x = false ∨ fin y = false) (hr : F.mul x y = some r) : fin r = false := written_no (product_no (h.imp noNum_of noNum_of)) hr
theorem div_strict {x y r : Nat} (h : fin x = false) (hy : fin y = true) (hr : F.div x y = some r) : fin r = false := by
  obtain ⟨m, i, e, _⟩ := read_fin hy
  exact written_no (quotient_no (noNum_of h) ⟨_, _, _, e⟩) hr

def al (x : Nat) : Option Nat := if fin x = true then some (plus x) else none
theorem al_some {x : Nat} (h : fin x = true) : al x = some (plus x) := if_pos h
theorem al_none {x : Nat} (h : fin x = false) : al x = none := by unfold al; rw [h]; rfl
theorem al_plus (x : Nat) : al (plus x) = al x := by unfold al; rw [fin_plus, plus_plus]
def opv (op : BinOp) (a b : Nat) : Option Nat := (floatBits op .f64 a b).bind al
def opS (op : BinOp) (X Y : Option Nat) : Option Nat := X.bind fun a => Y.bind fun b => opv op a b
def Res (op : BinOp) (x y r : Nat) : Prop := floatBits op .f64 x y = some r ∨ (floatBits op .f64 x y = none ∧ fin r = false)
theorem same_plus (x : Nat) : Same x (plus x) := (plus_plus x).symm
theorem al_same {r r' : Nat} (h : Same r r') : al r = al r' := by unfold al; rw [h.fin, h]
theorem res_al {op : BinOp} {x y r : Nat}
    (hs : fin x = true → fin y = true → ∃ r r', floatBits op .f64 x y = some r ∧ floatBits op .f64 (plus x) (plus y) = some r' ∧ Same r r')
    (hn : ∀ r, fin x = false ∨ fin y = false → floatBits op .f64 x y = some r → fin r = false) (h : Res op x y r) : al r = opS op (al x) (al y) := by
  cases hx : fin x
  · rw [al_none hx]
    rcases h with h | h
    · exact al_none (hn r (.inl hx) h)
    · exact al_none h.2
  · cases hy : fin y
    · rw [al_none hy, al_some hx]
      rcases h with h | h
      · exact al_none (hn r (.inr hy) h)
      · exact al_none h.2
    · obtain ⟨q, q', h1, h2, h3⟩ := hs hx hy
      rw [al_some hx, al_some hy]
      show al r = opv op (plus x) (plus y)
      unfold opv
      rw [h2]
      rcases h with h | h
      · rw [h1] at h; cases h; exact al_same h3
      · rw [h1] at h; exact absurd h.1 (by simp)
theorem res_add {x y r : Nat} (h : Res .add x y r) : al r = opS .add (al x) (al y) := res_al (fun a b => add_same (same_plus x) (same_plus y) a b) (fun r h e => add_strict h e) h
theorem res_sub {x y r : Nat} (h : Res .sub x y r) : al r = opS .sub (al x) (al y) := res_al (fun a b => sub_same (same_plus x) (same_plus y) a b) (fun r h e => sub_strict h e) h
theorem res_mul {x y r : Nat} (h : Res .mul x y r) : al r = opS .mul (al x) (al y) := res_al (fun a b => mul_same (same_plus x) (same_plus y) a b) (fun r h e => mul_strict h e) h
theorem res_quo {x y r : Nat} (fy : fin y = true) (nz : rung y ≠ 0) (h : Res .quo x y r) : al r = opS .quo (al x) (al y) :=
  res_al (fun a b => div_same (same_plus x) (same_plus y) a b nz) (fun r h e => div_strict (h.elim id fun h => absurd fy (by rw [h]; simp)) fy e) h
theorem opS_none_l (op : BinOp) (Y : Option Nat) : opS op none Y = none := rfl
theorem opS_none_r (op : BinOp) (X : Option Nat) : opS op X none = none := by cases X <;> rfl

def isN (x : Nat) : Bool := F.order x x != some Ordering.eq
theorem isN_fin {x : Nat} (h : fin x = true) : isN x = false := by unfold isN; rw [order_fin h]; rfl
theorem rung_rung (x : Nat) : rung (rung x) = rung x := by unfold rung; omega
theorem fin_rung (x : Nat) : fin (rung x) = fin x := by unfold fin; rw [rung_rung]
theorem abs_word (x : Nat) (hx : x < 18446744073709551616) : (Go.bits .andNot .u64 (x : Int) 9223372036854775808 : Int).toNat = rung x := by
  have h := u64_andNot_nat x 9223372036854775808 hx (by omega)
  have h' : Go.bits .andNot .u64 (x : Int) 9223372036854775808 = ((x &&& (18446744073709551615 - 9223372036854775808) : Nat) : Int) := h
  rw [h', Int.toNat_natCast]
  show x &&& (2 ^ 63 - 1) = rung x
  rw [Nat.and_two_pow_sub_one_eq_mod]; rfl
theorem gt_fin {x : Nat} (h : fin x = true) : (F.order (rung x) 9218868437227405311 == some .gt) = false := (order_max (by rw [fin_rung]; exact h)).1
theorem gt_inf {x : Nat} (h : fin x = false) (hn : isN x = false) : (F.order (rung x) 9218868437227405311 == some .gt) = true := by
  have h1 : ¬ rung x < 9218868437227405312 := by unfold fin at h; simpa using h
  by_cases h2 : rung x = 9218868437227405312
  · rw [h2]; rfl
  · exfalso
    have hr : F.read x = .nan (sgn x) (rung x - 9218868437227405312) := by rw [read_eq, if_neg (by omega), if_neg h1, if_neg h2]
    unfold isN Format.order at hn
    rw [hr] at hn
    simp [Datum.order] at hn
theorem sign_word (x : Nat) (hx : x < 18446744073709551616) : decide (Go.RowKit.wrap64 ((x : Int)) < 0) = decide (9223372036854775808 ≤ x) := by
  rw [Bool.eq_iff_iff]; simp only [decide_eq_true_eq]; unfold Go.RowKit.wrap64; omega
def good (x : Nat) : Bool := fin x && decide (plus x = x)
end Go.Proofs.Ytlfejohlehkbgaa.Flo
