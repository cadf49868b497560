/- What + - * / give, whatever their operands, as the program's real numbers keep it: what the word tells, and whether something was not finite. -/
import Derived.Test.YtfmplkjicdgfbaaF
import Derived.Test.YtfmplkjicdgfbaaFlo
import Derived.Laws.FloatBits
namespace Go.Proofs.Ytfmplkjicdgfbaa.Flo
open Ieee Go.Proofs.YtfmplkjicdgfbaaW.PrintWords
set_option linter.unusedVariables false
set_option linter.unusedSimpArgs false
theorem plus_lt {x : Nat} (h : x < 18446744073709551616) : plus x < 18446744073709551616 := by unfold plus; split <;> omega
theorem wr_lt (d : Datum) : F.write d < 18446744073709551616 := Format.write_lt F d
theorem map_lt {o : Option Datum} {r : Nat} (h : o.map F.write = some r) : r < 18446744073709551616 := by
  obtain ⟨d, _, rfl⟩ := Option.map_eq_some_iff.1 h
  exact wr_lt d
theorem opb_lt {op : BinOp} {x y r : Nat} (ho : op = .add ∨ op = .sub ∨ op = .mul ∨ op = .quo) (h : floatBits op .f64 x y = some r) : r < 18446744073709551616 := by
  rcases ho with rfl | rfl | rfl | rfl
  · exact map_lt (o := (F.read x).sum (F.read y)) h
  · exact map_lt (o := (F.read x).sum (F.read y).opposite) h
  · exact map_lt (o := (F.read x).product (F.read y)) h
  · exact map_lt h
theorem nan_lt (x y t : Nat) : (Question.nanBits .f64 x y).cut t < 18446744073709551616 := by
  show ((t % 2) * 9223372036854775808 + 9218868437227405312 + 1 + (t / 2) % 4503599627370495) < 18446744073709551616
  have h1 := Nat.mod_lt t (show 2 > 0 by omega)
  have h2 := Nat.mod_lt (t / 2) (show 4503599627370495 > 0 by omega)
  generalize t % 2 = a at *
  generalize (t / 2) % 4503599627370495 = r at *
  rcases (show a = 0 ∨ a = 1 by omega) with rfl | rfl <;> omega
theorem flw_res (op : BinOp) (x y : Nat) (w : World) : Res op x y (flw op x y w) := by
  unfold Res flw
  rcases h : floatBits op .f64 x y with _ | r
  · right
    refine ⟨rfl, ?_⟩
    have := nan_cut x y (w.tape w.drawn (.nanBits .f64 x y))
    show fin ((Question.nanBits .f64 x y).cut _) = false
    unfold fin rung
    rw [decide_eq_false_iff_not]
    omega
  · left; rfl
theorem flw_lt {op : BinOp} (ho : op = .add ∨ op = .sub ∨ op = .mul ∨ op = .quo) (x y : Nat) (w : World) : flw op x y w < 18446744073709551616 := by
  unfold flw
  rcases h : floatBits op .f64 x y with _ | r
  · exact nan_lt x y _
  · exact opb_lt ho h
/-- Some word of an operation. -/
structure Vt (op : BinOp) (x y v : Nat) : Prop where
  al : al v = opS op (al x) (al y)
  wd : v < 18446744073709551616
theorem vt_add (x y : Nat) (w : World) : Vt .add x y (flw .add x y w) := ⟨res_add (flw_res _ _ _ _), flw_lt (by simp) _ _ _⟩
theorem vt_sub (x y : Nat) (w : World) : Vt .sub x y (flw .sub x y w) := ⟨res_sub (flw_res _ _ _ _), flw_lt (by simp) _ _ _⟩
theorem vt_mul (x y : Nat) (w : World) : Vt .mul x y (flw .mul x y w) := ⟨res_mul (flw_res _ _ _ _), flw_lt (by simp) _ _ _⟩
theorem vt_quo (x y : Nat) (w : World) (fy : fin y = true) (nz : rung y ≠ 0) : Vt .quo x y (flw .quo x y w) := ⟨res_quo fy nz (flw_res _ _ _ _), flw_lt (by simp) _ _ _⟩
theorem al_isNone (x : Nat) : (al x).isNone = !fin x := by unfold al; cases fin x <;> rfl
/-- A number told by the reals: what it tells, without a zero's sign, and whether anything was not finite. -/
structure Rt (X : Option Nat) (s : Bool) (r : Nat) (b : Bool) : Prop where
  al : al r = X
  pl : plus r = r
  wd : r < 18446744073709551616
  bad : b = (s || X.isNone)
theorem rt_of {op : BinOp} {x y v : Nat} (s : Bool) (h : Vt op x y v) : Rt (opS op (al x) (al y)) s (plus v) (s || !fin v) :=
  ⟨by rw [al_plus]; exact h.al, plus_plus v, plus_lt h.wd, by rw [← h.al, al_isNone]⟩
def mRe (a b c d : Option Nat) : Option Nat := opS .sub (opS .mul a c) (opS .mul b d)
def mIm (a b c d : Option Nat) : Option Nat := opS .add (opS .mul a d) (opS .mul b c)
/-- A point told. -/
structure Rp (X Y : Option Nat) (s : Bool) (r1 r2 : Nat) (b : Bool) : Prop where
  al1 : al r1 = X
  al2 : al r2 = Y
  pl1 : plus r1 = r1
  pl2 : plus r2 = r2
  w1 : r1 < 18446744073709551616
  w2 : r2 < 18446744073709551616
  bad : b = (s || X.isNone || Y.isNone)
/-- A point, up to its noughts' signs. -/
structure Sp (X Y : Option Nat) (r1 r2 : Nat) : Prop where
  al1 : al r1 = X
  al2 : al r2 = Y
  w1 : r1 < 18446744073709551616
  w2 : r2 < 18446744073709551616
theorem opS_isNone (op : BinOp) (X Y : Option Nat) : (opS op X Y).isNone = (X.isNone || Y.isNone || (opS op X Y).isNone) := by
  cases X
  · rfl
  · cases Y
    · rfl
    · rfl
theorem rp_times {a b c d : Nat} {s : Bool} {p1 p2 p3 p4 p5 p6 : Nat} {b1 b2 b3 b4 b5 b6 : Bool}
    (h1 : Rt (opS .mul (al a) (al c)) s p1 b1) (h2 : Rt (opS .mul (al b) (al d)) b1 p2 b2) (h3 : Rt (opS .sub (al p1) (al p2)) b2 p3 b3)
    (h4 : Rt (opS .mul (al a) (al d)) b3 p4 b4) (h5 : Rt (opS .mul (al b) (al c)) b4 p5 b5) (h6 : Rt (opS .add (al p4) (al p5)) b5 p6 b6) :
    Rp (mRe (al a) (al b) (al c) (al d)) (mIm (al a) (al b) (al c) (al d)) s p3 p6 b6 := by
  have e3 : opS .sub (al p1) (al p2) = mRe (al a) (al b) (al c) (al d) := by rw [h1.al, h2.al]; rfl
  have e6 : opS .add (al p4) (al p5) = mIm (al a) (al b) (al c) (al d) := by rw [h4.al, h5.al]; rfl
  refine ⟨h3.al.trans e3, h6.al.trans e6, h3.pl, h6.pl, h3.wd, h6.wd, ?_⟩
  rw [h6.bad, h5.bad, h4.bad, h3.bad, h2.bad, h1.bad, ← h1.al, ← h2.al, ← h4.al, ← h5.al, ← e3, ← e6, opS_isNone .sub, opS_isNone .add]
  cases s <;> cases (al p1).isNone <;> cases (al p2).isNone <;> cases (al p4).isNone <;> cases (al p5).isNone <;> cases (opS .sub (al p1) (al p2)).isNone <;> cases (opS .add (al p4) (al p5)).isNone <;> rfl
theorem sp_mul {a b c d p1 p2 p3 p4 p5 p6 : Nat}
    (h1 : Vt .mul a c p1) (h2 : Vt .mul b d p2) (h3 : Vt .sub p1 p2 p3) (h4 : Vt .mul a d p4) (h5 : Vt .mul b c p5) (h6 : Vt .add p4 p5 p6) :
    Sp (mRe (al a) (al b) (al c) (al d)) (mIm (al a) (al b) (al c) (al d)) p3 p6 :=
  ⟨by rw [h3.al, h1.al, h2.al]; rfl, by rw [h6.al, h4.al, h5.al]; rfl, h3.wd, h6.wd⟩
def toldS : Option Nat → Option Nat → Nat × Nat × Bool
  | some x, some y => (x, y, true)
  | _, _ => (0, 0, false)
theorem al_eq_some {r x : Nat} (h : al r = some x) : fin r = true ∧ plus r = x := by
  unfold al at h
  cases e : fin r
  · rw [e] at h; cases h
  · rw [e] at h; exact ⟨rfl, Option.some.inj h⟩
theorem al_eq_none {r : Nat} (h : al r = none) : fin r = false := by
  unfold al at h
  cases e : fin r
  · rfl
  · rw [e] at h; cases h
theorem rp_point {X Y : Option Nat} {r1 r2 t1 t2 : Nat} {b t3 : Bool} (h : Rp X Y false r1 r2 b) (hT : toldS X Y = (t1, t2, t3)) :
    (if b = true then (some ((0 : Nat), (0 : Nat), false, b)) else (some (r1, r2, true, b))) = some (t1, t2, t3, b) := by
  have hb := h.bad
  cases X with
  | none =>
    have : b = true := by simpa using hb
    subst this
    simp only [toldS, Prod.mk.injEq] at hT
    obtain ⟨rfl, rfl, rfl⟩ := hT
    rfl
  | some x =>
    cases Y with
    | none =>
      have : b = true := by simpa using hb
      subst this
      simp only [toldS, Prod.mk.injEq] at hT
      obtain ⟨rfl, rfl, rfl⟩ := hT
      rfl
    | some y =>
      have : b = false := by simpa using hb
      subst this
      simp only [toldS, Prod.mk.injEq] at hT
      obtain ⟨rfl, rfl, rfl⟩ := hT
      rw [if_neg (by decide), ← (al_eq_some h.al1).2, ← (al_eq_some h.al2).2, h.pl1, h.pl2]
theorem sp_told {X Y : Option Nat} {r1 r2 : Nat} (h : Sp X Y r1 r2) : toldS X Y = if fin r1 = true then (if fin r2 = true then (plus r1, plus r2, true) else (0, 0, false)) else (0, 0, false) := by
  cases X with
  | none => rw [if_neg (by rw [al_eq_none h.al1]; decide)]; rfl
  | some x =>
    rw [if_pos (al_eq_some h.al1).1]
    cases Y with
    | none => rw [if_neg (by rw [al_eq_none h.al2]; decide)]; rfl
    | some y => rw [if_pos (al_eq_some h.al2).1, (al_eq_some h.al1).2, (al_eq_some h.al2).2]; rfl
end Go.Proofs.Ytfmplkjicdgfbaa.Flo
