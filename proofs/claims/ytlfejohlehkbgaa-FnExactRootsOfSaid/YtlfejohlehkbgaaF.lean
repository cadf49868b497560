/- Floats as data: the kind of a float64 by its bits, and what the walk takes of the operations on them: comparisons, the sign, + - * / where they are valid, the conversions that fix the bits, min and max of two. -/
import Derived.Test.YtlfejohlehkbgaaWWords
import Derived.Test.YtlfejohlehkbgaaWFoot
import Derived.Test.YtlfejohlehkbgaaWMore
import Derived.WalkLawsBesides
import Derived.WalkKit
import Derived.Laws.Externs
import Derived.Test.YtlfejohlehkbgaaProg
namespace Go.Proofs.YtlfejohlehkbgaaW.PrintWords
open Go.RowKit
set_option linter.unusedVariables false
set_option linter.unusedSimpArgs false
namespace Kd
def flt : Kd Nat := Kd.scalar (Value.float .f64) (fun _ => rfl)
theorem heap_flt : Heap Kd.flt := ⟨fun _ h => h⟩
theorem at_flt {w : World} {A : Option Addr} {n : Nat} {xs : List Nat} (h : Kd.flt.C w A n xs) (i : Int) (h0 : 0 ≤ i) (h1 : i < n) : ∃ ad, A = some ad ∧ w.cell? (ad.add i.toNat) = some (.float .f64 (rdOf (0 : Nat) xs i)) :=
  ReadsOf.at_ (reads_of_C (enc := Value.float .f64) (d := (0 : Nat)) (h1 := fun _ => rfl) h) i h0 h1
end Kd
def fneg (x : Nat) : Nat := Op.negFloat .f64 x
def fl2 (op : BinOp) (x y : Nat) : Nat := (floatBits op .f64 x y).getD 0
def fmax (x y : Nat) : Nat := match FloatKind.f64.format.order x y with
  | some .lt => y
  | some .eq => if (FloatKind.f64.decode x).neg then y else x
  | _ => x
def fmin (x y : Nat) : Nat := match FloatKind.f64.format.order x y with
  | some .gt => y
  | some .eq => if (FloatKind.f64.decode x).neg then x else y
  | _ => x
theorem go_fneg (x : Nat) : Op.unary .neg (.float .f64 x) = pure (.float .f64 (fneg x)) := rfl
section
variable {P : Program} (w : World)
theorem fl2_eq {op : BinOp} {x y : Nat} (h : (floatBits op .f64 x y).isSome = true) : floatBits op .f64 x y = some (fl2 op x y) := by
  obtain ⟨r, hr⟩ := Option.isSome_iff_exists.1 h
  rw [fl2, hr]; rfl
theorem go_fstore (a : Addr) (b : Nat) (m : Mode) : (store a (.float .f64 b) m).run P w = stored P w a (.float .f64 b) m := run_store P w a _ m rfl
theorem go_fadd (t : TypeId) (x y : Nat) (h : (floatBits .add .f64 x y).isSome = true) : (binOp .add t (.float .f64 x) (.float .f64 y)).run P w = .ok (.float .f64 (fl2 .add x y)) w := run_float_arith w _ t _ _ _ _ (fl2_eq h)
theorem go_fsub (t : TypeId) (x y : Nat) (h : (floatBits .sub .f64 x y).isSome = true) : (binOp .sub t (.float .f64 x) (.float .f64 y)).run P w = .ok (.float .f64 (fl2 .sub x y)) w := run_float_arith w _ t _ _ _ _ (fl2_eq h)
theorem go_fmul (t : TypeId) (x y : Nat) (h : (floatBits .mul .f64 x y).isSome = true) : (binOp .mul t (.float .f64 x) (.float .f64 y)).run P w = .ok (.float .f64 (fl2 .mul x y)) w := run_float_arith w _ t _ _ _ _ (fl2_eq h)
theorem go_fquo (t : TypeId) (x y : Nat) (h : (floatBits .quo .f64 x y).isSome = true) : (binOp .quo t (.float .f64 x) (.float .f64 y)).run P w = .ok (.float .f64 (fl2 .quo x y)) w := run_float_arith w _ t _ _ _ _ (fl2_eq h)
theorem go_fconv (src dst : TypeId) (b : Nat) (hs : (P.underlying src).isSome = true) (hd : P.underlying dst = some (.float .f64)) : (convert src dst (.float .f64 b)).run P w = .ok (.float .f64 b) w :=
  run_convert_float_float w src dst .f64 .f64 b b hs hd rfl
theorem go_fmax (x y : Nat) (h : (FloatKind.f64.format.order x y).isSome = true) : (Builtin.max2 (.float .f64 x) (.float .f64 y)).run P w = .ok (.float .f64 (fmax x y)) w := by
  unfold fmax
  rcases ho : FloatKind.f64.format.order x y with _ | _ | _ | _
  · rw [ho] at h; cases h
  all_goals simp [Builtin.max2, ho]
theorem go_fmin (x y : Nat) (h : (FloatKind.f64.format.order x y).isSome = true) : (Builtin.min2 (.float .f64 x) (.float .f64 y)).run P w = .ok (.float .f64 (fmin x y)) w := by
  unfold fmin
  rcases ho : FloatKind.f64.format.order x y with _ | _ | _ | _
  · rw [ho] at h; cases h
  all_goals simp [Builtin.min2, ho]
def flw (op : BinOp) (x y : Nat) (w : World) : Nat := (floatBits op .f64 x y).getD ((Question.nanBits .f64 x y).cut (w.tape w.drawn (.nanBits .f64 x y)))
def fln (op : BinOp) (x y : Nat) : Nat := if (floatBits op .f64 x y).isSome = true then 0 else 1
theorem run_ftot (op : BinOp) (ho : op = .add ∨ op = .sub ∨ op = .mul ∨ op = .quo) (t : TypeId) (x y : Nat) : (binOp op t (.float .f64 x) (.float .f64 y)).run P w = .ok (.float .f64 (flw op x y w)) (w.drewN (fln op x y)) := by
  unfold flw fln
  rcases h : floatBits op .f64 x y with _ | r
  · have hb : binOp op t (.float .f64 x) (.float .f64 y) = Op.floatArith op .f64 x y := by rcases ho with rfl | rfl | rfl | rfl <;> simp [binOp]
    rw [hb]
    rcases ho with rfl | rfl | rfl | rfl <;> simp only [floatBits] at h <;> simp [Op.floatArith, h, Question.forced] <;> rfl
  · rw [run_float_arith w op t .f64 x y r h]; rfl
theorem go_tadd (t : TypeId) (x y : Nat) : (binOp .add t (.float .f64 x) (.float .f64 y)).run P w = .ok (.float .f64 (flw .add x y w)) (w.drewN (fln .add x y)) := run_ftot w _ (by simp) t x y
theorem go_tsub (t : TypeId) (x y : Nat) : (binOp .sub t (.float .f64 x) (.float .f64 y)).run P w = .ok (.float .f64 (flw .sub x y w)) (w.drewN (fln .sub x y)) := run_ftot w _ (by simp) t x y
theorem go_tmul (t : TypeId) (x y : Nat) : (binOp .mul t (.float .f64 x) (.float .f64 y)).run P w = .ok (.float .f64 (flw .mul x y w)) (w.drewN (fln .mul x y)) := run_ftot w _ (by simp) t x y
theorem go_tquo (t : TypeId) (x y : Nat) : (binOp .quo t (.float .f64 x) (.float .f64 y)).run P w = .ok (.float .f64 (flw .quo x y w)) (w.drewN (fln .quo x y)) := run_ftot w _ (by simp) t x y
theorem nan_cut (x y t : Nat) : (Question.nanBits .f64 x y).cut t % 9223372036854775808 > 9218868437227405312 := by
  show ((t % 2) * 9223372036854775808 + 9218868437227405312 + 1 + (t / 2) % 4503599627370495) % 9223372036854775808 > 9218868437227405312
  have h1 := Nat.mod_lt t (show 2 > 0 by omega)
  have h2 := Nat.mod_lt (t / 2) (show 4503599627370495 > 0 by omega)
  generalize t % 2 = a at *
  generalize (t / 2) % 4503599627370495 = r at *
  rcases (show a = 0 ∨ a = 1 by omega) with rfl | rfl <;> omega
end
theorem go_bits (x : Nat) (w : World) : (callFunc 55 #[.float .f64 x]).run Go.Proofs.Try.prog w = .ok (.value (.int .u64 (x : Int))) w := by
  rw [run_callFunc_extern (P := Go.Proofs.Try.prog) (f := 55) (fn := Go.Proofs.Try.f55) (e := Extern.MathFloatBits.float64bits) Go.Proofs.Try.func55 (by kernel_rfl) (by kernel_rfl) (by rfl) (by rfl)]
  rfl
theorem go_frombits (x : Int) (w : World) : (callFunc 57 #[.int .u64 x]).run Go.Proofs.Try.prog w = .ok (.value (.float .f64 x.toNat)) w := by
  rw [run_callFunc_extern (P := Go.Proofs.Try.prog) (f := 57) (fn := Go.Proofs.Try.f57) (e := Extern.MathFloatBits.float64frombits) Go.Proofs.Try.func57 (by kernel_rfl) (by kernel_rfl) (by rfl) (by rfl)]
  rfl
end Go.Proofs.YtlfejohlehkbgaaW.PrintWords
