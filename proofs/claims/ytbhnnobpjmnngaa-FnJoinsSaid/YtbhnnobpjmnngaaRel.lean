/- What + - * / give, whatever their operands, as the program's real numbers keep it: what the word tells, and whether something was not finite. -/
import Derived.Test.YtbhnnobpjmnngaaF
import Derived.Test.YtbhnnobpjmnngaaFlo
import Derived.Laws.FloatBits
namespace Go.Proofs.Ytbhnnobpjmnngaa.Flo
open Ieee Go.Proofs.YtbhnnobpjmnngaaW.PrintWords
set_option linter.unusedVariables false
set_option linter.unusedSimpArgs false
theorem wr_lt (d : Datum) : F.write d < 18446744073709551616 := Format.write_lt F d
theorem map_lt {o : Option Datum} {r : Nat} (h : o.map F.write = some r) : r < 18446744073709551616 := by
  obtain ⟨d, _, rfl⟩ := Option.map_eq_some_iff.1 h
  exact wr_lt d
theorem opb_lt {op : BinOp} {x y r : Nat} (ho : op = .add ∨ op = .sub ∨ op = .mul ∨ op = .quo) (h : floatBits op .f64 x y = some r) : r < 18446744073709551616 := by
  rcases ho with rfl | rfl | rfl | rfl
  · exact map_lt (o := (F.read x).sum (F.read y)) h
  · exact map_lt (o := (F.read x).sum (F.read y).opposite) h
  · exact map_lt (o := (F.read x).product (F.read y)) h
  · exact map_lt h
theorem nan_lt (x y t : Nat) : (Question.nanBits .f64 x y).cut t < 18446744073709551616 := by
  show ((t % 2) * 9223372036854775808 + 9218868437227405312 + 1 + (t / 2) % 4503599627370495) < 18446744073709551616
  have h1 := Nat.mod_lt t (show 2 > 0 by omega)
  have h2 := Nat.mod_lt (t / 2) (show 4503599627370495 > 0 by omega)
  generalize t % 2 = a at *
  generalize (t / 2) % 4503599627370495 = r at *
  rcases (show a = 0 ∨ a = 1 by omega) with rfl | rfl <;> omega
theorem flw_lt {op : BinOp} (ho : op = .add ∨ op = .sub ∨ op = .mul ∨ op = .quo) (x y : Nat) (w : World) : flw op x y w < 18446744073709551616 := by
  unfold flw
  rcases h : floatBits op .f64 x y with _ | r
  · exact nan_lt x y _
  · exact opb_lt ho h
structure Vt (op : BinOp) (x y v : Nat) : Prop where
  al : al v = opS op (al x) (al y)
  wd : v < 18446744073709551616
structure Rt (X : Option Nat) (s : Bool) (r : Nat) (b : Bool) : Prop where
  al : al r = X
  pl : plus r = r
  wd : r < 18446744073709551616
  bad : b = (s || X.isNone)
structure Rp (X Y : Option Nat) (s : Bool) (r1 r2 : Nat) (b : Bool) : Prop where
  al1 : al r1 = X
  al2 : al r2 = Y
  pl1 : plus r1 = r1
  pl2 : plus r2 = r2
  w1 : r1 < 18446744073709551616
  w2 : r2 < 18446744073709551616
  bad : b = (s || X.isNone || Y.isNone)
structure Sp (X Y : Option Nat) (r1 r2 : Nat) : Prop where
  al1 : al r1 = X
  al2 : al r2 = Y
  w1 : r1 < 18446744073709551616
  w2 : r2 < 18446744073709551616
structure Rq (X Y : Option Nat) (s : Bool) (r1 r2 : Nat) (b : Bool) : Prop where
  w1 : r1 < 18446744073709551616
  w2 : r2 < 18446744073709551616
  st : s = true → b = true
  bad : s = false → b = (X.isNone || Y.isNone)
  ok : b = false → al r1 = X ∧ al r2 = Y ∧ plus r1 = r1 ∧ plus r2 = r2
structure Rd (x y : Nat) (s : Bool) (r : Nat) (b : Bool) : Prop where
  pl : plus r = r
  wd : r < 18446744073709551616
  st : s = true → b = true
  ok : fin y = true → rung y ≠ 0 → al r = opS .quo (al x) (al y) ∧ b = (s || (opS .quo (al x) (al y)).isNone)
end Go.Proofs.Ytbhnnobpjmnngaa.Flo
