/- What + - * / give, whatever their operands, as the program's real numbers keep it: what the word tells, and whether something was not finite. -/
import Derived.Test.YtlfejohlehkbgaaF
import Derived.Test.YtlfejohlehkbgaaFlo
import Derived.Laws.FloatBits
namespace Go.Proofs.Ytlfejohlehkbgaa.Flo
open Ieee Go.Proofs.YtlfejohlehkbgaaW.PrintWords
set_option linter.unusedVariables false
set_option linter.unusedSimpArgs false
theorem plus_lt {x : Nat} (h : x < 18446744073709551616) : plus x < 18446744073709551616 := by unfold plus; split <;> omega
theorem wr_lt (d : Datum) : F.write d < 18446744073709551616 := Format.write_lt F d
theorem map_lt {o : Option Datum} {r : Nat} (h : o.map F.write = some r) : r < 18446744073709551616 := by
  obtain ⟨d, _, rfl⟩ := Option.map_eq_some_iff.1 h
  exact wr_lt d
theorem opb_lt {op : BinOp} {x y r : Nat} (ho : op = .add ∨ op = .sub ∨ op = .mul ∨ op = .quo) (h : floatBits op .f64 x y = some r) : r < 18446744073709551616 := by
  rcases ho with rfl | rfl | rfl | rfl
  · exact map_lt (o := (F.read x).sum (F.read y)) h
  · exact map_lt (o := (F.read x).sum (F.read y).opposite) h
  · exact map_lt (o := (F.read x).product (F.read y)) h
  · exact map_lt h
theorem nan_lt (x y t : Nat) : (Question.nanBits .f64 x y).cut t < 18446744073709551616 := by
  show ((t % 2) * 9223372036854775808 + 9218868437227405312 + 1 + (t / 2) % 4503599627370495) < 18446744073709551616
  have h1 := Nat.mod_lt t (show 2 > 0 by omega)
  have h2 := Nat.mod_lt (t / 2) (show 4503599627370495 > 0 by omega)
  generalize t % 2 = a at *
  generalize (t / 2) % 4503599627370495 = r at *
  rcases (show a = 0 ∨ a = 1 by omega) with rfl | rfl <;> omega
theorem flw_res (op : BinOp) (x y : Nat) (w : World) : Res op x y (flw op x y w) := by
  unfold Res flw
  rcases h : floatBits op .f64 x y with _ | r
  · right
    refine ⟨rfl, ?_⟩
    have := nan_cut x y (w.tape w.drawn (.nanBits .f64 x y))
    show fin ((Question.nanBits .f64 x y).cut _) = false
    unfold fin rung
    rw [decide_eq_false_iff_not]
    omega
  · left; rfl
theorem flw_lt {op : BinOp} (ho : op = .add ∨ op = .sub ∨ op = .mul ∨ op = .quo) (x y : Nat) (w : World) : flw op x y w < 18446744073709551616 := by
  unfold flw
  rcases h : floatBits op .f64 x y with _ | r
  · exact nan_lt x y _
  · exact opb_lt ho h
structure Vt (op : BinOp) (x y v : Nat) : Prop where
  al : al v = opS op (al x) (al y)
  wd : v < 18446744073709551616
theorem vt_add (x y : Nat) (w : World) : Vt .add x y (flw .add x y w) := ⟨res_add (flw_res _ _ _ _), flw_lt (by simp) _ _ _⟩
theorem vt_sub (x y : Nat) (w : World) : Vt .sub x y (flw .sub x y w) := ⟨res_sub (flw_res _ _ _ _), flw_lt (by simp) _ _ _⟩
theorem vt_mul (x y : Nat) (w : World) : Vt .mul x y (flw .mul x y w) := ⟨res_mul (flw_res _ _ _ _), flw_lt (by simp) _ _ _⟩
theorem vt_quo (x y : Nat) (w : World) (fy : fin y = true) (nz : rung y ≠ 0) : Vt .quo x y (flw .quo x y w) := ⟨res_quo fy nz (flw_res _ _ _ _), flw_lt (by simp) _ _ _⟩
theorem al_isNone (x : Nat) : (al x).isNone = !fin x := by unfold al; cases fin x <;> rfl
structure Rt (X : Option Nat) (s : Bool) (r : Nat) (b : Bool) : Prop where
  al : al r = X
  pl : plus r = r
  wd : r < 18446744073709551616
  bad : b = (s || X.isNone)
theorem rt_of {op : BinOp} {x y v : Nat} (s : Bool) (h : Vt op x y v) : Rt (opS op (al x) (al y)) s (plus v) (s || !fin v) :=
  ⟨by rw [al_plus]; exact h.al, plus_plus v, plus_lt h.wd, by rw [← h.al, al_isNone]⟩
def mRe (a b c d : Option Nat) : Option Nat := opS .sub (opS .mul a c) (opS .mul b d)
def mIm (a b c d : Option Nat) : Option Nat := opS .add (opS .mul a d) (opS .mul b c)
structure Rp (X Y : Option Nat) (s : Bool) (r1 r2 : Nat) (b : Bool) : Prop where
  al1 : al r1 = X
  al2 : al r2 = Y
  pl1 : plus r1 = r1
  pl2 : plus r2 = r2
  w1 : r1 < 18446744073709551616
  w2 : r2 < 18446744073709551616
  bad : b = (s || X.isNone || Y.isNone)
structure Sp (X Y : Option Nat) (r1 r2 : Nat) : Prop where
  al1 : al r1 = X
  al2 : al r2 = Y
  w1 : r1 < 18446744073709551616
  w2 : r2 < 18446744073709551616
theorem opS_isNone (op : BinOp) (X Y : Option Nat) : (opS op X Y).isNone = (X.isNone || Y.isNone || (opS op X Y).isNone) := by
  cases X
  · rfl
  · cases Y
    · rfl
    · rfl
theorem rp_times {a b c d : Nat} {s : Bool} {p1 p2 p3 p4 p5 p6 : Nat} {b1 b2 b3 b4 b5 b6 : Bool}
    (h1 : Rt (opS .mul (al a) (al c)) s p1 b1) (h2 : Rt (opS .mul (al b) (al d)) b1 p2 b2) (h3 : Rt (opS .sub (al p1) (al p2)) b2 p3 b3)
    (h4 : Rt (opS .mul (al a) (al d)) b3 p4 b4) (h5 : Rt (opS .mul (al b) (al c)) b4 p5 b5) (h6 : Rt (opS .add (al p4) (al p5)) b5 p6 b6) :
    Rp (mRe (al a) (al b) (al c) (al d)) (mIm (al a) (al b) (al c) (al d)) s p3 p6 b6 := by
  have e3 : opS .sub (al p1) (al p2) = mRe (al a) (al b) (al c) (al d) := by rw [h1.al, h2.al]; rfl
  have e6 : opS .add (al p4) (al p5) = mIm (al a) (al b) (al c) (al d) := by rw [h4.al, h5.al]; rfl
  refine ⟨h3.al.trans e3, h6.al.trans e6, h3.pl, h6.pl, h3.wd, h6.wd, ?_⟩
  rw [h6.bad, h5.bad, h4.bad, h3.bad, h2.bad, h1.bad, ← h1.al, ← h2.al, ← h4.al, ← h5.al, ← e3, ← e6, opS_isNone .sub, opS_isNone .add]
  cases s <;> cases (al p1).isNone <;> cases (al p2).isNone <;> cases (al p4).isNone <;> cases (al p5).isNone <;> cases (opS .sub (al p1) (al p2)).isNone <;> cases (opS .add (al p4) (al p5)).isNone <;> rfl
theorem sp_mul {a b c d p1 p2 p3 p4 p5 p6 : Nat}
    (h1 : Vt .mul a c p1) (h2 : Vt .mul b d p2) (h3 : Vt .sub p1 p2 p3) (h4 : Vt .mul a d p4) (h5 : Vt .mul b c p5) (h6 : Vt .add p4 p5 p6) :
    Sp (mRe (al a) (al b) (al c) (al d)) (mIm (al a) (al b) (al c) (al d)) p3 p6 :=
  ⟨by rw [h3.al, h1.al, h2.al]; rfl, by rw [h6.al, h4.al, h5.al]; rfl, h3.wd, h6.wd⟩
def toldS : Option Nat → Option Nat → Nat × Nat × Bool
  | some x, some y => (x, y, true)
  | _, _ => (0, 0, false)
theorem al_eq_some {r x : Nat} (h : al r = some x) : fin r = true ∧ plus r = x := by
  unfold al at h
  cases e : fin r
  · rw [e] at h; cases h
  · rw [e] at h; exact ⟨rfl, Option.some.inj h⟩
theorem al_eq_none {r : Nat} (h : al r = none) : fin r = false := by
  unfold al at h
  cases e : fin r
  · rfl
  · rw [e] at h; cases h
theorem sp_told {X Y : Option Nat} {r1 r2 : Nat} (h : Sp X Y r1 r2) : toldS X Y = if fin r1 = true then (if fin r2 = true then (plus r1, plus r2, true) else (0, 0, false)) else (0, 0, false) := by
  cases X with
  | none => rw [if_neg (by rw [al_eq_none h.al1]; decide)]; rfl
  | some x =>
    rw [if_pos (al_eq_some h.al1).1]
    cases Y with
    | none => rw [if_neg (by rw [al_eq_none h.al2]; decide)]; rfl
    | some y => rw [if_pos (al_eq_some h.al2).1, (al_eq_some h.al1).2, (al_eq_some h.al2).2]; rfl
structure Rq (X Y : Option Nat) (s : Bool) (r1 r2 : Nat) (b : Bool) : Prop where
  w1 : r1 < 18446744073709551616
  w2 : r2 < 18446744073709551616
  st : s = true → b = true
  bad : s = false → b = (X.isNone || Y.isNone)
  ok : b = false → al r1 = X ∧ al r2 = Y ∧ plus r1 = r1 ∧ plus r2 = r2
theorem Rp.rq {X Y : Option Nat} {s : Bool} {r1 r2 : Nat} {b : Bool} (h : Rp X Y s r1 r2 b) : Rq X Y s r1 r2 b :=
  ⟨h.w1, h.w2, fun e => by rw [h.bad, e]; rfl, fun e => by rw [h.bad, e]; rfl, fun _ => ⟨h.al1, h.al2, h.pl1, h.pl2⟩⟩
structure Rd (x y : Nat) (s : Bool) (r : Nat) (b : Bool) : Prop where
  pl : plus r = r
  wd : r < 18446744073709551616
  st : s = true → b = true
  ok : fin y = true → rung y ≠ 0 → al r = opS .quo (al x) (al y) ∧ b = (s || (opS .quo (al x) (al y)).isNone)
theorem rd_of (s : Bool) (x y : Nat) (w : World) : Rd x y s (plus (flw .quo x y w)) (s || !fin (flw .quo x y w)) :=
  ⟨plus_plus _, plus_lt (flw_lt (by simp) _ _ _), fun e => by rw [e]; rfl, fun hf hz => by
    have h := vt_quo x y w hf hz
    exact ⟨by rw [al_plus]; exact h.al, by rw [← h.al, al_isNone]⟩⟩
def den (c d : Option Nat) : Option Nat := opS .add (opS .mul c c) (opS .mul d d)
def dvn (X D : Option Nat) : Option Nat := if D = some 0 then none else opS .quo X D
def dRe (a b c d : Option Nat) : Option Nat := dvn (opS .add (opS .mul a c) (opS .mul b d)) (den c d)
def dIm (a b c d : Option Nat) : Option Nat := dvn (opS .sub (opS .mul b c) (opS .mul a d)) (den c d)
def denBad (D : Option Nat) : Bool := match D with
  | none => true
  | some v => v == 0
theorem rung_eq {x : Nat} (h : (FloatKind.f64.format.order x (0 : Nat) == some Ordering.eq) = true) : rung x = 0 := by
  have e : (FloatKind.f64.format.order x (0 : Nat) == some Ordering.eq) = decide (rung x = 0) := order_zero x
  rw [e] at h; exact of_decide_eq_true h
theorem rung_ne {x : Nat} (h : (FloatKind.f64.format.order x (0 : Nat) == some Ordering.eq) = false) : rung x ≠ 0 := by
  have e : (FloatKind.f64.format.order x (0 : Nat) == some Ordering.eq) = decide (rung x = 0) := order_zero x
  rw [e] at h; exact of_decide_eq_false h
theorem al_rung {x : Nat} (h : rung x = 0) : al x = some 0 := by
  have hf : fin x = true := by unfold fin; rw [h]; rfl
  rw [al_some hf]; unfold plus; rw [if_pos h]
theorem al_nz {x : Nat} (hf : fin x = true) (h : rung x ≠ 0) : al x ≠ some 0 := by
  rw [al_some hf]; unfold plus; rw [if_neg h]
  intro e; injection e with e; subst e; exact h rfl
theorem rq_over0 {c d : Nat} {s : Bool} {p1 p2 t : Nat} {b1 b2 b3 : Bool}
    (h1 : Rt (opS .mul (al c) (al c)) s p1 b1) (h2 : Rt (opS .mul (al d) (al d)) b1 p2 b2) (h3 : Rt (opS .add (al p1) (al p2)) b2 t b3)
    (hc : (FloatKind.f64.format.order t (0 : Nat) == some Ordering.eq) = true) (X Y : Option Nat) : Rq (dvn X (den (al c) (al d))) (dvn Y (den (al c) (al d))) s 0 0 true := by
  have hd : den (al c) (al d) = some 0 := by
    rw [← al_rung (rung_eq hc), h3.al, h1.al, h2.al]; rfl
  have e : ∀ X, dvn X (den (al c) (al d)) = none := fun X => by unfold dvn; rw [if_pos hd]
  rw [e, e]
  exact ⟨by omega, by omega, fun _ => rfl, fun _ => rfl, fun h => by cases h⟩
theorem rq_over {a b c d : Nat} {s : Bool} {p1 p2 t p4 p5 p6 p7 p8 p9 p10 p11 : Nat} {b1 b2 b3 b4 b5 b6 b7 b8 b9 b10 b11 : Bool}
    (h1 : Rt (opS .mul (al c) (al c)) s p1 b1) (h2 : Rt (opS .mul (al d) (al d)) b1 p2 b2) (h3 : Rt (opS .add (al p1) (al p2)) b2 t b3)
    (hc : (FloatKind.f64.format.order t (0 : Nat) == some Ordering.eq) = false)
    (h4 : Rt (opS .mul (al a) (al c)) b3 p4 b4) (h5 : Rt (opS .mul (al b) (al d)) b4 p5 b5) (h6 : Rt (opS .add (al p4) (al p5)) b5 p6 b6) (h7 : Rd p6 t b6 p7 b7)
    (h8 : Rt (opS .mul (al b) (al c)) b7 p8 b8) (h9 : Rt (opS .mul (al a) (al d)) b8 p9 b9) (h10 : Rt (opS .sub (al p8) (al p9)) b9 p10 b10) (h11 : Rd p10 t b10 p11 b11) :
    Rq (dRe (al a) (al b) (al c) (al d)) (dIm (al a) (al b) (al c) (al d)) s p7 p11 b11 := by
  have hz := rung_ne hc
  have eD : den (al c) (al d) = al t := by rw [h3.al, h1.al, h2.al]; rfl
  have eN : opS .add (opS .mul (al a) (al c)) (opS .mul (al b) (al d)) = al p6 := by rw [h6.al, h4.al, h5.al]
  have eM : opS .sub (opS .mul (al b) (al c)) (opS .mul (al a) (al d)) = al p10 := by rw [h10.al, h8.al, h9.al]
  have b3e : b3 = (s || (al t).isNone) := by
    rw [h3.bad, h2.bad, h1.bad, ← h3.al, ← h1.al, ← h2.al]
    have := opS_isNone .add (al p1) (al p2)
    rw [← h3.al] at this
    rw [this]
    cases s <;> cases (al p1).isNone <;> cases (al p2).isNone <;> cases (al t).isNone <;> rfl
  have b6e : b6 = (b3 || (al p6).isNone) := by
    rw [h6.bad, h5.bad, h4.bad, ← h6.al, ← h4.al, ← h5.al]
    have := opS_isNone .add (al p4) (al p5)
    rw [← h6.al] at this
    rw [this]
    cases b3 <;> cases (al p4).isNone <;> cases (al p5).isNone <;> cases (al p6).isNone <;> rfl
  have b10e : b10 = (b7 || (al p10).isNone) := by
    rw [h10.bad, h9.bad, h8.bad, ← h10.al, ← h8.al, ← h9.al]
    have := opS_isNone .sub (al p8) (al p9)
    rw [← h10.al] at this
    rw [this]
    cases b7 <;> cases (al p8).isNone <;> cases (al p9).isNone <;> cases (al p10).isNone <;> rfl
  unfold dRe dIm
  rw [eD, eN, eM]
  cases hf : fin t
  · have hn : al t = none := al_none hf
    have e : ∀ X, dvn X (al t) = none := fun X => by unfold dvn; rw [hn, if_neg (by simp)]; exact opS_none_r _ _
    rw [hn] at b3e
    have hb3 : b3 = true := by rw [b3e]; cases s <;> rfl
    have hb7 : b7 = true := h7.st (by rw [b6e, hb3]; rfl)
    have hb11 : b11 = true := h11.st (by rw [b10e, hb7]; rfl)
    rw [e, e]
    exact ⟨h7.wd, h11.wd, fun _ => hb11, fun _ => hb11, fun h => by rw [hb11] at h; cases h⟩
  · obtain ⟨q1, q2⟩ := h7.ok hf hz
    obtain ⟨q3, q4⟩ := h11.ok hf hz
    have e : ∀ X, dvn X (al t) = opS .quo X (al t) := fun X => by unfold dvn; rw [if_neg (al_nz hf hz)]
    have ht : (al t).isNone = false := by rw [al_some hf]; rfl
    rw [e, e, ← q1, ← q3]
    rw [ht, Bool.or_false] at b3e
    have i7 := opS_isNone .quo (al p6) (al t)
    have i11 := opS_isNone .quo (al p10) (al t)
    rw [← q1] at i7 q2
    rw [← q3] at i11 q4
    have hb : b11 = (s || (al p7).isNone || (al p11).isNone) := by
      rw [q4, b10e, q2, b6e, b3e, i7, i11, ht]
      cases s <;> cases (al p6).isNone <;> cases (al p10).isNone <;> cases (al p7).isNone <;> cases (al p11).isNone <;> rfl
    exact ⟨h7.wd, h11.wd, fun h => by rw [hb, h]; rfl, fun h => by rw [hb, h]; rfl, fun _ => ⟨rfl, rfl, h7.pl, h11.pl⟩⟩
theorem den_of {c d p1 p2 p3 : Nat} (h1 : Vt .mul c c p1) (h2 : Vt .mul d d p2) (h3 : Vt .add p1 p2 p3) : den (al c) (al d) = al p3 := by rw [h3.al, h1.al, h2.al]; rfl
theorem denBad_zero {x : Nat} (h : (FloatKind.f64.format.order x (0 : Nat) == some Ordering.eq) = true) : denBad (al x) = true := by rw [al_rung (rung_eq h)]; rfl
theorem denBad_fin {x : Nat} (h : (FloatKind.f64.format.order x (0 : Nat) == some Ordering.eq) = false) : denBad (al x) = !fin x := by
  cases hf : fin x
  · rw [al_none hf]; rfl
  · have := al_nz hf (rung_ne h)
    rw [al_some hf] at this ⊢
    show (plus x == 0) = _
    rw [beq_eq_false_iff_ne.2 (fun e => this (by rw [e]))]; rfl
theorem denBad_ok {x : Nat} (h : denBad (al x) = false) : fin x = true ∧ rung x ≠ 0 ∧ al x ≠ some 0 := by
  cases hf : fin x
  · rw [al_none hf] at h; cases h
  · refine ⟨rfl, fun hz => ?_, fun hz => ?_⟩
    · rw [al_rung hz] at h; cases h
    · rw [hz] at h; cases h
theorem sp_div {a b c d p1 p2 p3 p4 p5 p6 p7 p8 p9 : Nat} {x y : Nat} {w w' : World} (hD : denBad (den (al c) (al d)) = false)
    (h1 : Vt .mul c c p1) (h2 : Vt .mul d d p2) (h3 : Vt .add p1 p2 p3) (h4 : Vt .mul a c p4) (h5 : Vt .mul b d p5) (h6 : Vt .add p4 p5 p6)
    (h7 : Vt .mul b c p7) (h8 : Vt .mul a d p8) (h9 : Vt .sub p7 p8 p9) (hx : flw .quo p6 p3 w = x) (hy : flw .quo p9 p3 w' = y) :
    Sp (dRe (al a) (al b) (al c) (al d)) (dIm (al a) (al b) (al c) (al d)) x y := by
  have eD := den_of h1 h2 h3
  rw [eD] at hD
  obtain ⟨hf, hz, hn⟩ := denBad_ok hD
  have vx := vt_quo p6 p3 w hf hz
  have vy := vt_quo p9 p3 w' hf hz
  rw [hx] at vx
  rw [hy] at vy
  unfold dRe dIm dvn
  rw [eD, if_neg hn, if_neg hn]
  exact ⟨by rw [vx.al, h6.al, h4.al, h5.al], by rw [vy.al, h9.al, h7.al, h8.al], vx.wd, vy.wd⟩
theorem vt_fl {op : BinOp} {x y : Nat} (ho : op = .add ∨ op = .sub ∨ op = .mul) (c : (floatBits op .f64 x y).isSome = true) : Vt op x y (fl2 op x y) := by
  have e := fl2_eq c
  have r : Res op x y (fl2 op x y) := .inl e
  rcases ho with rfl | rfl | rfl
  · exact ⟨res_add r, opb_lt (by simp) e⟩
  · exact ⟨res_sub r, opb_lt (by simp) e⟩
  · exact ⟨res_mul r, opb_lt (by simp) e⟩
theorem sp_sub {Z0 Z1 : Option Nat} {y0 y1 a b v1 v2 : Nat} (hS : Sp Z0 Z1 y0 y1) (h1 : Vt .sub a y0 v1) (h2 : Vt .sub b y1 v2) : Sp (opS .sub (al a) Z0) (opS .sub (al b) Z1) v1 v2 :=
  ⟨by rw [h1.al, hS.al1], by rw [h2.al, hS.al2], h1.wd, h2.wd⟩
theorem sp_via {Z0 Z1 T0 T1 c d : Option Nat} {y0 y1 r1 r2 : Nat} (hS : Sp Z0 Z1 y0 y1) (hA : some (dRe Z0 Z1 c d, dIm Z0 Z1 c d) = some (T0, T1)) (h : Sp (dRe (al y0) (al y1) c d) (dIm (al y0) (al y1) c d) r1 r2) : Sp T0 T1 r1 r2 := by
  rw [hS.al1, hS.al2] at h
  obtain ⟨rfl, rfl⟩ := Prod.mk.inj (Option.some.inj hA)
  exact h
open Go.RowKit in
def hornS : Nat → List Nat → Int → Option Nat → Option Nat → Option Nat → Option Nat → Option (Option Nat × Option Nat)
  | 0, _, _, _, _, _, _ => none
  | k + 1, l, i, A, B, W0, W1 => if i ≥ 0 then (if 0 ≤ i then (if i < (l.length : Int) then (hornS k l (wrap64 (i - 1)) A B (opS .add (mRe W0 W1 A B) (al (rdOf (0 : Nat) l i))) (mIm W0 W1 A B)) else (none)) else (none)) else (some (W0, W1))
theorem hornS_mono : ∀ k l i A B W0 W1 r, hornS k l i A B W0 W1 = some r → hornS (k + 1) l i A B W0 W1 = some r
  | 0, _, _, _, _, _, _, _ => fun h => by simp [hornS] at h
  | k + 1, l, i, A, B, W0, W1, r => fun h => by
    rw [hornS] at h ⊢
    by_cases c : i ≥ 0
    · rw [if_pos c] at h ⊢
      by_cases c1 : 0 ≤ i
      · rw [if_pos c1] at h ⊢
        by_cases c2 : i < (l.length : Int)
        · rw [if_pos c2] at h ⊢; exact hornS_mono k _ _ _ _ _ _ _ h
        · rw [if_neg c2] at h; cases h
      · rw [if_neg c1] at h; cases h
    · rw [if_neg c] at h ⊢; exact h
theorem sp_zero : Sp (some 0) (some 0) 0 0 := ⟨rfl, rfl, by omega, by omega⟩
theorem sp_step {W0 W1 : Option Nat} {y0 y1 a b t1 t2 c v : Nat} (hS : Sp W0 W1 y0 y1) (hA : Sp (mRe (al y0) (al y1) (al a) (al b)) (mIm (al y0) (al y1) (al a) (al b)) t1 t2) (hV : Vt .add t1 c v) :
    Sp (opS .add (mRe W0 W1 (al a) (al b)) (al c)) (mIm W0 W1 (al a) (al b)) v t2 := by
  rw [hS.al1, hS.al2] at hA
  exact ⟨by rw [hV.al, hA.al1], hA.al2, hV.wd, hA.w2⟩
theorem rp_zero (s : Bool) : Rp (some 0) (some 0) s 0 0 s := ⟨rfl, rfl, rfl, rfl, by omega, by omega, by cases s <;> rfl⟩
theorem mRe_isNone (a b c d : Option Nat) : (mRe a b c d).isNone = (a.isNone || b.isNone || (mRe a b c d).isNone) := by
  cases a
  · rfl
  · cases b
    · unfold mRe; rw [opS_none_l, opS_none_r]; rfl
    · rfl
theorem rp_step {W0 W1 : Option Nat} {s b b1 b2 : Bool} {y0 y1 a c x t1 t2 t3 : Nat} (hS : Rp W0 W1 s y0 y1 b)
    (hA : Rp (mRe (al y0) (al y1) (al a) (al c)) (mIm (al y0) (al y1) (al a) (al c)) b t1 t2 b1) (hV : Rt (opS .add (al t1) (al x)) b1 t3 b2) :
    Rp (opS .add (mRe W0 W1 (al a) (al c)) (al x)) (mIm W0 W1 (al a) (al c)) s t3 t2 b2 := by
  rw [hS.al1, hS.al2] at hA
  have e := hV.al
  have e2 := hV.bad
  rw [hA.al1] at e e2
  refine ⟨e, hA.al2, hV.pl, hA.pl2, hV.wd, hA.w2, ?_⟩
  rw [e2, hA.bad, hS.bad, opS_isNone .add, mRe_isNone W0 W1]
  cases s <;> cases W0.isNone <;> cases W1.isNone <;> cases (mRe W0 W1 (al a) (al c)).isNone <;> cases (mIm W0 W1 (al a) (al c)).isNone <;> cases (al x).isNone <;> cases (opS .add (mRe W0 W1 (al a) (al c)) (al x)).isNone <;> rfl
theorem rp_less {a b c d : Nat} {s : Bool} {p1 p2 : Nat} {b1 b2 : Bool} (h1 : Rt (opS .sub (al a) (al c)) s p1 b1) (h2 : Rt (opS .sub (al b) (al d)) b1 p2 b2) :
    Rp (opS .sub (al a) (al c)) (opS .sub (al b) (al d)) s p1 p2 b2 := ⟨h1.al, h2.al, h1.pl, h2.pl, h1.wd, h2.wd, by rw [h2.bad, h1.bad]⟩
theorem dvn_none_l (D : Option Nat) : dvn none D = none := by unfold dvn; split <;> rfl
theorem dvn_none_r (X : Option Nat) : dvn X none = none := by unfold dvn; rw [if_neg (by simp)]; exact opS_none_r _ _
theorem den_none_l (d : Option Nat) : den none d = none := rfl
theorem den_none_r (c : Option Nat) : den c none = none := by unfold den; rw [opS_none_l, opS_none_r]
theorem dRe_none {a b c d : Option Nat} (h : a.isNone = true ∨ b.isNone = true ∨ c.isNone = true ∨ d.isNone = true) : dRe a b c d = none ∧ dIm a b c d = none := by
  unfold dRe dIm
  rcases h with h | h | h | h
  · obtain rfl : a = none := by simpa using h
    constructor
    · rw [opS_none_l, opS_none_l]; exact dvn_none_l _
    · rw [opS_none_l .mul, opS_none_r]; exact dvn_none_l _
  · obtain rfl : b = none := by simpa using h
    constructor
    · rw [opS_none_l .mul, opS_none_r]; exact dvn_none_l _
    · rw [opS_none_l, opS_none_l]; exact dvn_none_l _
  · obtain rfl : c = none := by simpa using h
    rw [den_none_l]; exact ⟨dvn_none_r _, dvn_none_r _⟩
  · obtain rfl : d = none := by simpa using h
    rw [den_none_r]; exact ⟨dvn_none_r _, dvn_none_r _⟩
theorem rq_div {W0 W1 : Option Nat} {y0 y1 i0 i1 k0 k1 t1 t2 r1 r2 : Nat} {b b1 b2 : Bool} (hS : Rq W0 W1 false y0 y1 b)
    (hL : Rp (opS .sub (al i0) (al k0)) (opS .sub (al i1) (al k1)) b t1 t2 b1)
    (hO : Rq (dRe (al y0) (al y1) (al t1) (al t2)) (dIm (al y0) (al y1) (al t1) (al t2)) b1 r1 r2 b2) :
    Rq (dRe W0 W1 (opS .sub (al i0) (al k0)) (opS .sub (al i1) (al k1))) (dIm W0 W1 (opS .sub (al i0) (al k0)) (opS .sub (al i1) (al k1))) false r1 r2 b2 := by
  have hb := hS.bad rfl
  have hb1 := hL.bad
  cases b with
  | true =>
    have hn : W0.isNone = true ∨ W1.isNone = true := by
      cases e0 : W0.isNone
      · rw [e0, Bool.false_or] at hb; exact .inr hb.symm
      · exact .inl rfl
    have e := dRe_none (a := W0) (b := W1) (c := opS .sub (al i0) (al k0)) (d := opS .sub (al i1) (al k1)) (hn.elim .inl fun h => .inr (.inl h))
    have h1 : b1 = true := by rw [hb1]; rfl
    have h2 : b2 = true := hO.st h1
    rw [e.1, e.2]
    exact ⟨hO.w1, hO.w2, fun h => (by cases h), fun _ => h2, fun h => by rw [h2] at h; cases h⟩
  | false =>
    obtain ⟨a0, a1, _, _⟩ := hS.ok rfl
    rw [a0, a1, hL.al1, hL.al2] at hO
    rw [Bool.false_or] at hb1
    cases b1 with
    | true =>
      have hn : (opS .sub (al i0) (al k0)).isNone = true ∨ (opS .sub (al i1) (al k1)).isNone = true := by
        cases e0 : (opS .sub (al i0) (al k0)).isNone
        · rw [e0, Bool.false_or] at hb1; exact .inr hb1.symm
        · exact .inl rfl
      have e := dRe_none (a := W0) (b := W1) (c := opS .sub (al i0) (al k0)) (d := opS .sub (al i1) (al k1)) (hn.elim (fun h => .inr (.inr (.inl h))) fun h => .inr (.inr (.inr h)))
      have h2 : b2 = true := hO.st rfl
      rw [e.1, e.2]
      exact ⟨hO.w1, hO.w2, fun h => (by cases h), fun _ => h2, fun h => by rw [h2] at h; cases h⟩
    | false => exact hO
theorem rq_last {W0 W1 : Option Nat} {y0 y1 i0 i1 t1 t2 r1 r2 : Nat} {b b1 ok : Bool} (hS : Rq W0 W1 false y0 y1 b)
    (hL : Rp (opS .sub (al i0) (al y0)) (opS .sub (al i1) (al y1)) b t1 t2 b1) (hT : toldS (opS .sub (al i0) W0) (opS .sub (al i1) W1) = (r1, r2, ok)) :
    b1 = !ok ∧ (ok = true → t1 = r1 ∧ t2 = r2) := by
  have hb := hS.bad rfl
  have hb1 := hL.bad
  cases b with
  | true =>
    have hn : opS .sub (al i0) W0 = none ∨ opS .sub (al i1) W1 = none := by
      cases e0 : W0 with
      | none => left; exact opS_none_r _ _
      | some x =>
        cases e1 : W1 with
        | none => right; exact opS_none_r _ _
        | some y => rw [e0, e1] at hb; cases hb
    have h1 : b1 = true := by rw [hb1]; rfl
    have hok : ok = false := by
      rcases hn with h | h
      · rw [h] at hT; simp only [toldS, Prod.mk.injEq] at hT; exact hT.2.2.symm
      · rw [h] at hT
        cases e : opS .sub (al i0) W0 with
        | none => rw [e] at hT; simp only [toldS, Prod.mk.injEq] at hT; exact hT.2.2.symm
        | some x => rw [e] at hT; simp only [toldS, Prod.mk.injEq] at hT; exact hT.2.2.symm
    rw [h1, hok]
    exact ⟨rfl, fun h => by cases h⟩
  | false =>
    obtain ⟨a0, a1, _, _⟩ := hS.ok rfl
    rw [a0, a1] at hL hb1
    rw [Bool.false_or] at hb1
    have h1 := hL.al1
    have h2 := hL.al2
    cases e0 : opS .sub (al i0) W0 with
    | none =>
      rw [e0] at hT hb1; simp only [toldS, Prod.mk.injEq] at hT
      rw [hb1, ← hT.2.2]; exact ⟨rfl, fun h => by cases h⟩
    | some x =>
      cases e1 : opS .sub (al i1) W1 with
      | none =>
        rw [e0, e1] at hT hb1; simp only [toldS, Prod.mk.injEq] at hT
        rw [hb1, ← hT.2.2]; exact ⟨rfl, fun h => by cases h⟩
      | some y =>
        rw [e0, e1] at hT hb1; simp only [toldS, Prod.mk.injEq] at hT
        rw [e0] at h1
        rw [e1] at h2
        refine ⟨by rw [hb1, ← hT.2.2]; rfl, fun _ => ⟨?_, ?_⟩⟩
        · rw [← hT.1, ← (al_eq_some h1).2, hL.pl1]
        · rw [← hT.2.1, ← (al_eq_some h2).2, hL.pl2]
theorem rq_end {W0 W1 : Option Nat} {y0 y1 i0 i1 u1 u2 t1 t2 : Nat} {b u3 t3 : Bool} (hS : Rq W0 W1 false y0 y1 b) (hL : Rp (opS .sub (al i0) (al y0)) (opS .sub (al i1) (al y1)) b u1 u2 u3)
    (hT : some ((toldS (opS .sub (al i0) W0) (opS .sub (al i1) W1)).1, (toldS (opS .sub (al i0) W0) (opS .sub (al i1) W1)).2.1, !(toldS (opS .sub (al i0) W0) (opS .sub (al i1) W1)).2.2) = some (t1, t2, t3)) :
    u3 = t3 ∧ (t3 = false → u1 = t1 ∧ u2 = t2) := by
  obtain ⟨h1, h2⟩ := Prod.mk.inj (Option.some.inj hT)
  obtain ⟨h2, h3⟩ := Prod.mk.inj h2
  have h := rq_last hS hL (r1 := t1) (r2 := t2) (ok := !t3) (by rw [← h1, ← h2, ← h3, Bool.not_not])
  exact ⟨by rw [h.1, Bool.not_not], fun e => h.2 (by rw [e]; rfl)⟩
theorem rq_step {W0 W1 T0 T1 : Option Nat} {y0 y1 i0 i1 k0 k1 t1 t2 r1 r2 : Nat} {b b1 b2 : Bool} (hS : Rq W0 W1 false y0 y1 b)
    (hL : Rp (opS .sub (al i0) (al k0)) (opS .sub (al i1) (al k1)) b t1 t2 b1)
    (hO : Rq (dRe (al y0) (al y1) (al t1) (al t2)) (dIm (al y0) (al y1) (al t1) (al t2)) b1 r1 r2 b2)
    (hA : some (dRe W0 W1 (opS .sub (al i0) (al k0)) (opS .sub (al i1) (al k1)), dIm W0 W1 (opS .sub (al i0) (al k0)) (opS .sub (al i1) (al k1))) = some (T0, T1)) : Rq T0 T1 false r1 r2 b2 := by
  obtain ⟨rfl, rfl⟩ := Prod.mk.inj (Option.some.inj hA)
  exact rq_div hS hL hO
end Go.Proofs.Ytlfejohlehkbgaa.Flo
