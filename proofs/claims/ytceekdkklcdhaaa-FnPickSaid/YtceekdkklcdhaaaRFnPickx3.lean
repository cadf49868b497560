-- Written by a program of this session out of the loaded functions' print; helper lemmas as print.sh lays them.
import Derived.Test.YtceekdkklcdhaaaUp
import Derived.Test.YtceekdkklcdhaaaRFnPickx0
import Derived.Test.YtceekdkklcdhaaaRFnPickx2
namespace Go.Proofs.Ytceekdkklcdhaaa.PFnPick
open Go.RowKit Go.Proofs.YtceekdkklcdhaaaW.PrintWords Go.Proofs.YtceekdkklcdhaaaW.PrintLast Go.Proofs.YtceekdkklcdhaaaW.PrintMore
attribute [local go_sem] max2_int min2_int max_two min_two max_three min_three max_four min_four  -- for this text's walks alone
set_option linter.unusedVariables false
set_option linter.unusedSimpArgs false

/-! ### impl_PickCloud: function 5 -/
mutual
def impl_PickCloud.j0 : Nat → List (S44) → Int → Int → Bool → Option ((List (S44)) × Bool)
 | 0, _, _, _, _ => none
 | k + 1, x0, x1, x2, x34 => if x34 = true then (some (([] : List (S44)), false)) else ((impl_weights.f k x0).bind fun t207 => (impl_PickCloud.l0 k x0 x1 x2 t207 ([] : List (S44)) x1 0))
def impl_PickCloud.l0 : Nat → List (S44) → Int → Int → Int → List (S44) → Int → Int → Option ((List (S44)) × Bool)
 | 0, _, _, _, _, _, _, _ => none
 | k + 1, x0, x1, x2, x8, x9, x37, x38 => if x38 < x37 then (if x1 = 0 then (none) else (impl_PickCloud.l1 k x0 x1 x2 x8 x9 (wrap64 (Int.tdiv (wrap64 (x2 + (wrap64 (x38 * x8)))) x1)) x37 x38 x0 (x0.length : Int) 0)) else (some (x9, true))
def impl_PickCloud.l1 : Nat → List (S44) → Int → Int → Int → List (S44) → Int → Int → Int → List (S44) → Int → Int → Option ((List (S44)) × Bool)
 | 0, _, _, _, _, _, _, _, _, _, _, _ => none
 | k + 1, x0, x1, x2, x8, x9, x11, x37, x38, x48, x49, x50 => if x50 < x49 then (if 0 ≤ x50 then (if x50 < (x48.length : Int) then (if x11 < ((rd_T44 x48 x50).f1) then (if x9.length < 8796093022208 then (impl_PickCloud.l0 k x0 x1 x2 x8 (x9 ++ [(⟨(rd_T44 x48 x50).f0, 1⟩ : S44)]) x37 (wrap64 (x38 + 1))) else (none)) else (impl_PickCloud.l1 k x0 x1 x2 x8 x9 (wrap64 (x11 - ((rd_T44 x48 x50).f1))) x37 x38 x48 x49 (wrap64 (x50 + 1)))) else (none)) else (none)) else (impl_PickCloud.l0 k x0 x1 x2 x8 x9 x37 (wrap64 (x38 + 1)))
end
def impl_PickCloud.f (k : Nat) (l0 : List (S44)) (a1 : Int) (a2 : Int) : Option ((List (S44)) × Bool) := (impl_found.f k l0).bind fun t205 => (if t205 = true then (if a1 < 1 then (impl_PickCloud.j0 k l0 a1 a2 true) else (if a1 > 60 then (impl_PickCloud.j0 k l0 a1 a2 true) else (if a2 < 0 then (impl_PickCloud.j0 k l0 a1 a2 true) else ((impl_weights.f k l0).bind fun t206 => (impl_PickCloud.j0 k l0 a1 a2 (decide (a2 ≥ t206))))))) else (impl_PickCloud.j0 k l0 a1 a2 true))
theorem impl_PickCloud.mono_l : ∀ k, (∀ y0 y1 y2 y3, LeO (impl_PickCloud.j0 k y0 y1 y2 y3) (impl_PickCloud.j0 (k + 1) y0 y1 y2 y3)) ∧ (∀ y0 y1 y2 y3 y4 y5 y6, LeO (impl_PickCloud.l0 k y0 y1 y2 y3 y4 y5 y6) (impl_PickCloud.l0 (k + 1) y0 y1 y2 y3 y4 y5 y6)) ∧ (∀ y0 y1 y2 y3 y4 y5 y6 y7 y8 y9 y10, LeO (impl_PickCloud.l1 k y0 y1 y2 y3 y4 y5 y6 y7 y8 y9 y10) (impl_PickCloud.l1 (k + 1) y0 y1 y2 y3 y4 y5 y6 y7 y8 y9 y10))
 | 0 => ⟨fun _ _ _ _ r h => by simp [impl_PickCloud.j0] at h, fun _ _ _ _ _ _ _ r h => by simp [impl_PickCloud.l0] at h, fun _ _ _ _ _ _ _ _ _ _ _ r h => by simp [impl_PickCloud.l1] at h⟩
 | k + 1 => by
  obtain ⟨ih0, ih1, ih2⟩ := impl_PickCloud.mono_l k
  refine ⟨?_, ?_, ?_⟩
  ·intro y0 y1 y2 y3
   unfold impl_PickCloud.j0
   repeat' first
   | (with_reducible exact ih0 _ _ _ _)
   | (with_reducible exact ih1 _ _ _ _ _ _ _)
   | (with_reducible exact ih2 _ _ _ _ _ _ _ _ _ _ _)
   | (with_reducible exact impl_found.mono _ _)
   | (with_reducible exact impl_weights.mono _ _)
   | (with_reducible exact LeO.refl _)
   | (with_reducible exact LeO.none _)
   | (with_reducible refine LeO.ite ?_ ?_)
   | (with_reducible refine LeO.bind ?_ (fun _ => ?_))
   | exact ih0 _ _ _ _
   | exact ih1 _ _ _ _ _ _ _
   | exact ih2 _ _ _ _ _ _ _ _ _ _ _
   | exact impl_found.mono _ _
   | exact impl_weights.mono _ _
   | exact LeO.none _
   | refine LeO.ite ?_ ?_
   | refine LeO.bind ?_ (fun _ => ?_)
  ·intro y0 y1 y2 y3 y4 y5 y6
   unfold impl_PickCloud.l0
   repeat' first
   | (with_reducible exact ih0 _ _ _ _)
   | (with_reducible exact ih1 _ _ _ _ _ _ _)
   | (with_reducible exact ih2 _ _ _ _ _ _ _ _ _ _ _)
   | (with_reducible exact impl_found.mono _ _)
   | (with_reducible exact impl_weights.mono _ _)
   | (with_reducible exact LeO.refl _)
   | (with_reducible exact LeO.none _)
   | (with_reducible refine LeO.ite ?_ ?_)
   | (with_reducible refine LeO.bind ?_ (fun _ => ?_))
   | exact ih0 _ _ _ _
   | exact ih1 _ _ _ _ _ _ _
   | exact ih2 _ _ _ _ _ _ _ _ _ _ _
   | exact impl_found.mono _ _
   | exact impl_weights.mono _ _
   | exact LeO.none _
   | refine LeO.ite ?_ ?_
   | refine LeO.bind ?_ (fun _ => ?_)
  ·intro y0 y1 y2 y3 y4 y5 y6 y7 y8 y9 y10
   unfold impl_PickCloud.l1
   repeat' first
   | (with_reducible exact ih0 _ _ _ _)
   | (with_reducible exact ih1 _ _ _ _ _ _ _)
   | (with_reducible exact ih2 _ _ _ _ _ _ _ _ _ _ _)
   | (with_reducible exact impl_found.mono _ _)
   | (with_reducible exact impl_weights.mono _ _)
   | (with_reducible exact LeO.refl _)
   | (with_reducible exact LeO.none _)
   | (with_reducible refine LeO.ite ?_ ?_)
   | (with_reducible refine LeO.bind ?_ (fun _ => ?_))
   | exact ih0 _ _ _ _
   | exact ih1 _ _ _ _ _ _ _
   | exact ih2 _ _ _ _ _ _ _ _ _ _ _
   | exact impl_found.mono _ _
   | exact impl_weights.mono _ _
   | exact LeO.none _
   | refine LeO.ite ?_ ?_
   | refine LeO.bind ?_ (fun _ => ?_)
theorem impl_PickCloud.mono : ∀ a0 a1 a2 k, LeO (impl_PickCloud.f k a0 a1 a2) (impl_PickCloud.f (k + 1) a0 a1 a2) := by
 intro a0 a1 a2 k
 obtain ⟨ih0, ih1, ih2⟩ := impl_PickCloud.mono_l k
 unfold impl_PickCloud.f
 repeat' first
   | (with_reducible exact ih0 _ _ _ _)
   | (with_reducible exact ih1 _ _ _ _ _ _ _)
   | (with_reducible exact ih2 _ _ _ _ _ _ _ _ _ _ _)
   | (with_reducible exact impl_found.mono _ _)
   | (with_reducible exact impl_weights.mono _ _)
   | (with_reducible exact LeO.refl _)
   | (with_reducible exact LeO.none _)
   | (with_reducible refine LeO.ite ?_ ?_)
   | (with_reducible refine LeO.bind ?_ (fun _ => ?_))
   | exact ih0 _ _ _ _
   | exact ih1 _ _ _ _ _ _ _
   | exact ih2 _ _ _ _ _ _ _ _ _ _ _
   | exact impl_found.mono _ _
   | exact impl_weights.mono _ _
   | exact LeO.none _
   | refine LeO.ite ?_ ?_
   | refine LeO.bind ?_ (fun _ => ?_)
set_option maxHeartbeats 8000000 in
set_option maxRecDepth 100000 in
theorem impl_PickCloud.calls (k : Nat) (A0 : Option Addr) (c0 : Nat) (l0 : List (S44)) (a1 : Int) (a2 : Int) (r1 : List (S44)) (r2 : Bool) (w : World) (hr0 : Kd.C k44 w A0 l0.length l0) (hc0 : l0.length ≤ c0) (h : impl_PickCloud.f k l0 a1 a2 = some (r1, r2)) :
  Calls Try.prog 5 #[.slice A0 l0.length c0, .int .i64 a1, .int .i64 a2] w fun e w' => ∃ v0_ : Value, e = .returned (.tuple #[v0_, .bool r2]) ∧ Kd.R k44 44 w' w.heap.size (fun _ => True) v0_ r1 ∧ Below w.heap.size w w' := by
 have hu44 := Try.underlying44
 have HR0 := Aside0.mk hr0
 have HC0 := Aside0.mk hc0
 clear hr0 hc0
 have HB := a_ (Below.refl w.heap.size w)
 have H : ((impl_found.f k l0).bind fun t205 => (if t205 = true then (if a1 < 1 then (impl_PickCloud.j0 k l0 a1 a2 true) else (if a1 > 60 then (impl_PickCloud.j0 k l0 a1 a2 true) else (if a2 < 0 then (impl_PickCloud.j0 k l0 a1 a2 true) else ((impl_weights.f k l0).bind fun t206 => (impl_PickCloud.j0 k l0 a1 a2 (decide (a2 ≥ t206))))))) else (impl_PickCloud.j0 k l0 a1 a2 true))) = some (r1, r2) := h
 clear h
 have HC4 := Aside0.mk H
 clear H
 go_enter Try.func5, Try.ntmps5
 go_upto_region 1 with (fail)
 go_cut [34] (fun v34 wc => ∃ (kq : Nat) (x34_3 : Bool), v34 = .bool x34_3 ∧ Aside0 (impl_PickCloud.j0 kq l0 a1 a2 x34_3 = some (r1, r2)) ∧ Aside0 (kq ≤ k) ∧ Aside0 (Below w.heap.size w wc))
 case first =>
  have H := HC4.out
  clear HC4
  replace H := Option.bind_eq_some_iff.mp H
  obtain ⟨t205, A50, H⟩ := H
  replace H : (if t205 = true then (if a1 < 1 then (impl_PickCloud.j0 k l0 a1 a2 true) else (if a1 > 60 then (impl_PickCloud.j0 k l0 a1 a2 true) else (if a2 < 0 then (impl_PickCloud.j0 k l0 a1 a2 true) else ((impl_weights.f k l0).bind fun t206 => (impl_PickCloud.j0 k l0 a1 a2 (decide (a2 ≥ t206))))))) else (impl_PickCloud.j0 k l0 a1 a2 true)) = some (r1, r2) := H
  have A5 := Aside0.mk A50
  clear A50
  by_cases c6 : t205 = true
  ·subst c6
   have H1 : (if a1 < 1 then (impl_PickCloud.j0 k l0 a1 a2 true) else (if a1 > 60 then (impl_PickCloud.j0 k l0 a1 a2 true) else (if a2 < 0 then (impl_PickCloud.j0 k l0 a1 a2 true) else ((impl_weights.f k l0).bind fun t206 => (impl_PickCloud.j0 k l0 a1 a2 (decide (a2 ≥ t206))))))) = some (r1, r2) := by rw [if_pos rfl] at H; exact H
   clear H
   have H := H1
   clear H1
   by_cases c7 : a1 < 1
   ·rw [if_pos c7] at H
    have c7b0 : decide (a1 < 1) = true := decide_eq_true c7
    clear c7
    (first | rw [c7b0] | (simp only [i64_w, i32_w]; rw [c7b0]) | skip)
    have H' := Aside0.mk H
    clear H
    go_wp2_with (first | ((with_reducible refine gate_callee (f := 15) rfl ?_); refine goesL_ (some 15) rfl rfl Try.func15 (by kernel_rfl) rfl #[.slice A0 l0.length c0] rfl (by (try simp only [lA, lB, lC]); first | done | rfl | (simp only [lD, lE]; rfl)) ?_; (with_reducible refine (impl_found.calls k _ _ l0 true _ ?side1 ?side2 A5.out).mono ?_); (case side1 => exact Kd.C_below HR0.out (un HB.out)); (case side2 => exact HC0.out); rintro e w8 ⟨rfl, hb⟩; refine ⟨_, rfl, ?_⟩; replace HB := a_ (below_step (un HB.out) hb); clear hb))
    go_meet
    case rel => exact ⟨_, (true), (by first | rfl | (simp; done) | (simp [*]; done)), H', ⟨by first | omega | exact Nat.le_refl _⟩, ⟨un HB.out⟩⟩
   ·rw [if_neg c7] at H
    have c7b0 : decide (a1 < 1) = false := decide_eq_false c7
    clear c7
    (first | rw [c7b0] | (simp only [i64_w, i32_w]; rw [c7b0]) | skip)
    by_cases c9 : a1 > 60
    ·rw [if_pos c9] at H
     have c9b0 : decide (60 < a1) = true := decide_eq_true c9
     clear c9
     have H' := Aside0.mk H
     clear H
     go_wp2_with (first | ((with_reducible refine gate_callee (f := 15) rfl ?_); refine goesL_ (some 15) rfl rfl Try.func15 (by kernel_rfl) rfl #[.slice A0 l0.length c0] rfl (by (try simp only [lA, lB, lC]); first | done | rfl | (simp only [lD, lE]; rfl)) ?_; (with_reducible refine (impl_found.calls k _ _ l0 true _ ?side1 ?side2 A5.out).mono ?_); (case side1 => exact Kd.C_below HR0.out (un HB.out)); (case side2 => exact HC0.out); rintro e w10 ⟨rfl, hb⟩; refine ⟨_, rfl, ?_⟩; replace HB := a_ (below_step (un HB.out) hb); clear hb))
     go_meet
     case rel => exact ⟨_, (true), (by first | rfl | (simp; done) | (simp [*]; done)), H', ⟨by first | omega | exact Nat.le_refl _⟩, ⟨un HB.out⟩⟩
    ·rw [if_neg c9] at H
     have c9b0 : decide (60 < a1) = false := decide_eq_false c9
     clear c9
     by_cases c11 : a2 < 0
     ·rw [if_pos c11] at H
      have c11b0 : decide (a2 < 0) = true := decide_eq_true c11
      clear c11
      have H' := Aside0.mk H
      clear H
      go_wp2_with (first | ((with_reducible refine gate_callee (f := 15) rfl ?_); refine goesL_ (some 15) rfl rfl Try.func15 (by kernel_rfl) rfl #[.slice A0 l0.length c0] rfl (by (try simp only [lA, lB, lC]); first | done | rfl | (simp only [lD, lE]; rfl)) ?_; (with_reducible refine (impl_found.calls k _ _ l0 true _ ?side1 ?side2 A5.out).mono ?_); (case side1 => exact Kd.C_below HR0.out (un HB.out)); (case side2 => exact HC0.out); rintro e w12 ⟨rfl, hb⟩; refine ⟨_, rfl, ?_⟩; replace HB := a_ (below_step (un HB.out) hb); clear hb))
      go_meet
      case rel => exact ⟨_, (true), (by first | rfl | (simp; done) | (simp [*]; done)), H', ⟨by first | omega | exact Nat.le_refl _⟩, ⟨un HB.out⟩⟩
     ·rw [if_neg c11] at H
      have c11b0 : decide (a2 < 0) = false := decide_eq_false c11
      clear c11
      replace H := Option.bind_eq_some_iff.mp H
      obtain ⟨t206, A130, H⟩ := H
      replace H : (impl_PickCloud.j0 k l0 a1 a2 (decide (a2 ≥ t206))) = some (r1, r2) := H
      have A13 := Aside0.mk A130
      clear A130
      have H' := Aside0.mk H
      clear H
      go_wp2_with (first | ((with_reducible refine gate_callee (f := 15) rfl ?_); refine goesL_ (some 15) rfl rfl Try.func15 (by kernel_rfl) rfl #[.slice A0 l0.length c0] rfl (by (try simp only [lA, lB, lC]); first | done | rfl | (simp only [lD, lE]; rfl)) ?_; (with_reducible refine (impl_found.calls k _ _ l0 true _ ?side1 ?side2 A5.out).mono ?_); (case side1 => exact Kd.C_below HR0.out (un HB.out)); (case side2 => exact HC0.out); rintro e w14 ⟨rfl, hb⟩; refine ⟨_, rfl, ?_⟩; replace HB := a_ (below_step (un HB.out) hb); clear hb) | (go_at_call 16; (with_reducible refine (impl_weights.calls k _ _ l0 t206 _ ?side1 ?side2 A13.out).mono ?_); (case side1 => exact Kd.C_below HR0.out (un HB.out)); (case side2 => exact HC0.out); rintro e w15 ⟨rfl, hb⟩; replace HB := a_ (below_step (un HB.out) hb); clear hb))
      go_meet
      case rel => exact ⟨_, (decide (a2 ≥ t206)), (by first | rfl | (simp; done) | (simp [*]; done)), H', ⟨by first | omega | exact Nat.le_refl _⟩, ⟨un HB.out⟩⟩
  ·replace c6 := Bool.eq_false_iff.mpr c6
   subst c6
   have H1 : (impl_PickCloud.j0 k l0 a1 a2 true) = some (r1, r2) := by rw [if_neg (show ¬ (false = true) by decide)] at H; exact H
   clear H
   have H := H1
   clear H1
   have H' := Aside0.mk H
   clear H
   go_wp2_with (first | ((with_reducible refine gate_callee (f := 15) rfl ?_); refine goesL_ (some 15) rfl rfl Try.func15 (by kernel_rfl) rfl #[.slice A0 l0.length c0] rfl (by (try simp only [lA, lB, lC]); first | done | rfl | (simp only [lD, lE]; rfl)) ?_; (with_reducible refine (impl_found.calls k _ _ l0 false _ ?side1 ?side2 A5.out).mono ?_); (case side1 => exact Kd.C_below HR0.out (un HB.out)); (case side2 => exact HC0.out); rintro e w16 ⟨rfl, hb⟩; refine ⟨_, rfl, ?_⟩; replace HB := a_ (below_step (un HB.out) hb); clear hb))
   go_meet
   case rel => exact ⟨_, (true), (by first | rfl | (simp; done) | (simp [*]; done)), H', ⟨by first | omega | exact Nat.le_refl _⟩, ⟨un HB.out⟩⟩
 case rest =>
  clear HC4
  try clear c1
  try clear p2
  try clear c5
  try clear c6
  try clear c7
  try clear c7b0
  try clear c9
  try clear c9b0
  try clear c11
  try clear c11b0
  try clear c15
  obtain ⟨kq, x34_3, rfl, HA, HJ3, HB⟩ := hcut
  cases kq with
  | zero => exact absurd HA.out (by simp [impl_PickCloud.j0])
  | succ kj3 =>
   have H := HA.out
   clear HA
   simp only [impl_PickCloud.j0] at H
   by_cases c17 : x34_3 = true
   ·subst c17
    have H1 : (some (([] : List (S44)), false)) = some (r1, r2) := by rw [if_pos rfl] at H; exact H
    clear H
    have H := H1
    clear H1
    simp only [Option.some.injEq, Prod.mk.injEq] at H
    obtain ⟨rfl, rfl⟩ := H
    go_wp2
    go_ret2
    exact ⟨_, by first | rfl | (simp [errW_none, errW_some] <;> rfl) | (simp [*, errW_none, errW_some] <;> rfl), by first | exact Kd.R_nil _ _ _ _ _ | exact Kd.N_nil _ _ _ _ _ | exact Kd.V_nil _ _ _ _ _ | exact Kd.Q_nil _ _ _ _ _ | exact Kd.S_nil _ _ _ _ _, un HB.out⟩
   ·replace c17 := Bool.eq_false_iff.mpr c17
    subst c17
    have H1 : ((impl_weights.f kj3 l0).bind fun t207 => (impl_PickCloud.l0 kj3 l0 a1 a2 t207 ([] : List (S44)) a1 0)) = some (r1, r2) := by rw [if_neg (show ¬ (false = true) by decide)] at H; exact H
    clear H
    have H := H1
    clear H1
    replace H := Option.bind_eq_some_iff.mp H
    obtain ⟨t207, A180, H⟩ := H
    replace H : (impl_PickCloud.l0 kj3 l0 a1 a2 t207 ([] : List (S44)) a1 0) = some (r1, r2) := H
    have A18 := Aside0.mk A180
    clear A180
    have H' := Aside0.mk H
    clear H
    go_wp2_with (first | ((with_reducible refine gate_callee (f := 16) rfl ?_); refine goesL_ (some 36) rfl rfl Try.func16 (by kernel_rfl) rfl #[.slice A0 l0.length c0] rfl (by (try simp only [lA, lB, lC]); first | done | rfl | (simp only [lD, lE]; rfl)) ?_; (with_reducible refine (impl_weights.calls kj3 _ _ l0 t207 _ ?side1 ?side2 A18.out).mono ?_); (case side1 => exact Kd.C_below HR0.out (un HB.out)); (case side2 => exact HC0.out); rintro e w19 ⟨rfl, hb⟩; refine ⟨_, rfl, ?_⟩; replace HB := a_ (below_step (un HB.out) hb); clear hb))
    go_loopg [9, 38] kj3 (fun kq v9 v38 w' => ∃ (x9_2 : List (S44)) (x38_2 : Int), v38 = .int .i64 x38_2 ∧ Aside0 (impl_PickCloud.l0 kq l0 a1 a2 t207 x9_2 a1 x38_2 = some (r1, r2)) ∧ Aside0 (kq ≤ kj3) ∧ Aside0 (Kd.R k44 44 w' w.heap.size (fun _ => True) v9 x9_2) ∧ Aside0 (Below w.heap.size w w'))
    case atStart => exact ⟨(([] : List (S44))), (0), (by first | rfl | (simp; done) | (simp [*]; done)), H', ⟨Nat.le_refl _⟩, ⟨by first | exact Kd.R_nil _ _ _ _ _ | exact Kd.N_nil _ _ _ _ _ | exact Kd.V_nil _ _ _ _ _ | exact Kd.Q_nil _ _ _ _ _ | exact Kd.S_nil _ _ _ _ _⟩, ⟨un HB.out⟩⟩
    case round =>
     clear H'
     try clear c1
     try clear p2
     try clear c5
     try clear c6
     try clear c7
     try clear c7b0
     try clear c9
     try clear c9b0
     try clear c11
     try clear c11b0
     try clear c15
     try clear c16
     try clear c17
     try clear p2
     obtain ⟨x9_2, x38_2, rfl, HA, HK2, HO_9, HB⟩ := hrel
     cases gk with
     | zero => exact absurd HA.out (by simp [impl_PickCloud.l0])
     | succ k2 =>
      have H := HA.out
      clear HA
      simp only [impl_PickCloud.l0] at H
      by_cases c20 : x38_2 < a1
      ·rw [if_pos c20] at H
       have c20b0 : decide (x38_2 < a1) = true := decide_eq_true c20
       clear c20
       by_cases c21 : a1 = 0
       ·rw [if_pos c21] at H
        exact absurd H (by simp)
       ·rw [if_neg c21] at H
        have c21b0 : (a1 == 0) = false := beq_eq_false_iff_ne.mpr c21
        have c21b1 : (a1 != 0) = true := bne_iff_ne.mpr c21
        have H' := Aside0.mk H
        clear H
        go_wp2
        go_loopg [9, 11, 50] k2 (fun kq v9 v11 v50 w' => ∃ (x9_3 : List (S44)) (x11_3 : Int) (x50_3 : Int), v11 = .int .i64 x11_3 ∧ v50 = .int .i64 x50_3 ∧ Aside0 (impl_PickCloud.l1 kq l0 a1 a2 t207 x9_3 x11_3 a1 x38_2 l0 (l0.length : Int) x50_3 = some (r1, r2)) ∧ Aside0 (kq ≤ k2) ∧ Aside0 (Kd.R k44 44 w' w.heap.size (fun _ => True) v9 x9_3) ∧ Aside0 (Below w.heap.size w w'))
        case atStart => exact ⟨(x9_2), (wrap64 (Int.tdiv (wrap64 (a2 + (wrap64 (x38_2 * t207)))) a1)), (0), (by first | rfl | (simp; done) | (simp [*]; done)), (by first | rfl | (simp; done) | (simp [*]; done)), H', ⟨Nat.le_refl _⟩, ⟨by refine rk ?_; exact HO_9.out⟩, ⟨un HB.out⟩⟩
        case round =>
         clear H'
         try clear c1
         try clear c2
         try clear p2
         try clear c5
         try clear c6
         try clear p6
         try clear c7
         try clear c7b0
         try clear c9
         try clear c9b0
         try clear c11
         try clear c11b0
         try clear c15
         try clear c16
         try clear c17
         try clear c20
         try clear c20b0
         try clear c21
         try clear c21b0
         try clear c21b1
         try clear p2
         obtain ⟨x9_3, x11_3, x50_3, rfl, rfl, HA, HK3, HO_9, HB⟩ := hrel
         cases gk with
         | zero => exact absurd HA.out (by simp [impl_PickCloud.l1])
         | succ k3 =>
          have H := HA.out
          clear HA
          simp only [impl_PickCloud.l1] at H
          by_cases c22 : x50_3 < (l0.length : Int)
          ·rw [if_pos c22] at H
           have c22b0 : decide (x50_3 < (l0.length : Int)) = true := decide_eq_true c22
           clear c22
           by_cases c23 : 0 ≤ x50_3
           ·rw [if_pos c23] at H
            have c23b0 : decide (0 ≤ x50_3) = true := decide_eq_true c23
            clear c23
            by_cases c24 : x50_3 < (l0.length : Int)
            ·rw [if_pos c24] at H
             have c24b0 : decide (x50_3 < (l0.length : Int)) = true := decide_eq_true c24
             clear c24
             by_cases c25 : x11_3 < ((rd_T44 l0 x50_3).f1)
             ·rw [if_pos c25] at H
              have c25b0 : decide (x11_3 < ((rd_T44 l0 x50_3).f1)) = true := decide_eq_true c25
              clear c25
              by_cases c26 : x9_3.length < 8796093022208
              ·rw [if_pos c26] at H
               have LMc26 := Aside0.mk c26
               clear c26
               obtain ⟨y210, hy210⟩ : ∃ y_ : List (S44), y_ = (x9_3 ++ [(⟨(rd_T44 l0 x50_3).f0, 1⟩ : S44)]) := ⟨_, rfl⟩
               replace H : (impl_PickCloud.l0 k3 l0 a1 a2 t207 y210 a1 (wrap64 (x38_2 + 1))) = some (r1, r2) := by first | (rw [hy210]; with_reducible exact H) | (have H2_ := (Option.bind_some _ _).symm.trans H; rw [hy210]; with_reducible exact H2_) | (have H2_ := (Option.bind_some _ _).symm.trans H; with_reducible exact H2_) | with_reducible exact H | (rw [hy210]; exact H) | exact H
               have Ny210 := Aside0.mk hy210
               clear hy210
               have H' := Aside0.mk H
               clear H
               have p208 : 0 ≤ (x50_3 : Int) := of_decide_eq_true (by first | (with_reducible assumption) | assumption)
               have q208 : x50_3 < (l0.length : Int) := of_decide_eq_true (by first | (with_reducible assumption) | assumption)
               obtain ⟨ad208, e208, hx208_0, hx208_1⟩ := at_T44 HR0.out x50_3 p208 q208
               cases e208
               replace hx208_0 := (HB.out.cell (World.block_lt_of_cell? w _ hx208_0)).trans hx208_0
               replace hx208_1 := (HB.out.cell (World.block_lt_of_cell? w _ hx208_1)).trans hx208_1
               replace p208 := eq_true p208
               replace q208 := eq_true q208
               go_wp2_with (first | ((with_reducible refine gate_dst (N := 13) rfl ?_); refine box_event ?hg (N := 13) ?hd (cs := #[.int .i64 0, .int .i64 0]) (t := 44) ?hr ?_; (case hd => rfl); (case hg => rfl); (case hr => first | (go_simp; done) | (go_simp; rfl)); intro gb209 hg w27 hbox hb; replace HO_9 := a_ (Kd.R_below (Kd.R_elderB (rk HO_9.out) gb209 (Nat.le_of_eq hg.symm)) hb); have BK209 := a_ (hbox); have GW209 := a_ (bsg hg HB.out); have GE209 := a_ (bsg hg HB.out); replace HB := a_ (below_step (un HB.out) hb); clear hb hbox hg; have hcz28_0 : w27.cell? ⟨gb209, 0, none⟩ = some (.int .i64 0) := (blk_cell BK209.out 0).trans rfl; have hcz28_1 : w27.cell? ⟨gb209, 1, none⟩ = some (.int .i64 0) := (blk_cell BK209.out 1).trans rfl; have hfz28_0 := blk_frozen BK209.out 0; have hfz28_1 := blk_frozen BK209.out 1) | ((with_reducible refine gate_builtin (b := .append) (xs := #[.tmp 58, .tmp 62]) rfl ?_); at_builtin; refine Kd.R_append k44 (w0 := w) w.heap.size rfl (.tmp 58) (.tmp 62) 23 44 (.agg #[(.int .i64 0), (.int .i64 0)]) 16 rfl Try.underlying23 info44 rfl (by decide) (by omega) u9 x9_3 (⟨(rd_T44 l0 x50_3).f0, 1⟩ : S44) [.int .i64 ((rd_T44 l0 x50_3).f0), .int .i64 1] (fun k_ => k_ ≠ gb209) (fun _ => False) rfl (by first | (go_simp; done) | (go_simp; rfl)) ?aP (fun _ hk => hk.elim) ?aF ?aO ?aB ?aS ?aL ?_; (case aP => exact k44_mkM _ _ _ (⟨(rd_T44 l0 x50_3).f0, 1⟩ : S44)); (case aB => exact (by repeat first | exact un HB.out | refine bz ?_ (by assumption) | apply below_alloc | apply pw_below_drewN | apply below_drew1)); (case aF => exact (fun k_ hk => Kd.freshB (g := gb209) (o := .cells #[.int .i64 ((rd_T44 l0 x50_3).f0), .int .i64 ((rd_T44 l0 x50_3).f1)] 44 (0, 0)) (by refine pk ?_; refine blk_put (cs := #[.int .i64 ((rd_T44 l0 x50_3).f0), .int .i64 0]) ?_ 1 _ rfl; refine pk ?_; refine blk_put (cs := #[.int .i64 0, .int .i64 0]) ?_ 0 _ rfl; refine pk ?_; exact BK209.out) k_ hk)); (case aO => exact (rk (Kd.R_mono (Kd.R_far (p := ⟨gb209, 1, none⟩) (Kd.R_far (p := ⟨gb209, 0, none⟩) (Kd.R_mono HO_9.out (fun k_ hk => (⟨hk, hk.2⟩ : _ ∧ k_ ≠ gb209))) (fun _ hk => hk.2) (.int .i64 ((rd_T44 l0 x50_3).f0))) (fun _ hk => hk.2) (.int .i64 ((rd_T44 l0 x50_3).f1))) (fun _ hk => hk.1.2)))); (case aS => exact (bs HB.out)); (case aL => have := LMc26.out; omega); intro v211 w29 ho hb hg hat; rw [← Ny210.out] at ho; replace BK209 := a_ (blk_grown (g := gb209) (o := .cells #[.int .i64 ((rd_T44 l0 x50_3).f0), .int .i64 ((rd_T44 l0 x50_3).f1)] 44 (0, 0)) (by refine pk ?_; refine blk_put (cs := #[.int .i64 ((rd_T44 l0 x50_3).f0), .int .i64 0]) ?_ 1 _ rfl; refine pk ?_; refine blk_put (cs := #[.int .i64 0, .int .i64 0]) ?_ 0 _ rfl; refine pk ?_; exact BK209.out) hg (Kd.R_away HO_9.out (fun _ hk => hk.2))); replace HB := a_ (hb); have HO212 := a_ (ho); clear HO_9 ho hb hg hat))
               go_roundg k3
               case measure => have := HJ3.out; have := HK2.out; have := HK3.out; omega
               case rel => exact ⟨(y210), (wrap64 (x38_2 + 1)), (by first | rfl | (simp; done) | (simp [*]; done)), H', ⟨by have := HJ3.out; have := HK2.out; have := HK3.out; omega⟩, ⟨by refine rk ?_; exact Kd.R_mono HO212.out (fun _ hk => trivial)⟩, ⟨by repeat (first | (with_reducible first | exact HB.out | apply below_alloc | apply pw_below_drewN | apply below_drew1 | refine below_set ?_ GE209.out) | exact HB.out)⟩⟩
              ·rw [if_neg c26] at H
               exact absurd H (by simp)
             ·rw [if_neg c25] at H
              have c25b0 : decide (x11_3 < ((rd_T44 l0 x50_3).f1)) = false := decide_eq_false c25
              clear c25
              have H' := Aside0.mk H
              clear H
              have p208 : 0 ≤ (x50_3 : Int) := of_decide_eq_true (by first | (with_reducible assumption) | assumption)
              have q208 : x50_3 < (l0.length : Int) := of_decide_eq_true (by first | (with_reducible assumption) | assumption)
              obtain ⟨ad208, e208, hx208_0, hx208_1⟩ := at_T44 HR0.out x50_3 p208 q208
              cases e208
              replace hx208_0 := (HB.out.cell (World.block_lt_of_cell? w _ hx208_0)).trans hx208_0
              replace hx208_1 := (HB.out.cell (World.block_lt_of_cell? w _ hx208_1)).trans hx208_1
              replace p208 := eq_true p208
              replace q208 := eq_true q208
              go_wp2_with (first | ((with_reducible refine gate_dst (N := 13) rfl ?_); refine box_event ?hg (N := 13) ?hd (cs := #[.int .i64 0, .int .i64 0]) (t := 44) ?hr ?_; (case hd => rfl); (case hg => rfl); (case hr => first | (go_simp; done) | (go_simp; rfl)); intro gb209 hg w30 hbox hb; replace HO_9 := a_ (Kd.R_below (Kd.R_elderB (rk HO_9.out) gb209 (Nat.le_of_eq hg.symm)) hb); have BK209 := a_ (hbox); have GW209 := a_ (bsg hg HB.out); have GE209 := a_ (bsg hg HB.out); replace HB := a_ (below_step (un HB.out) hb); clear hb hbox hg; have hcz31_0 : w30.cell? ⟨gb209, 0, none⟩ = some (.int .i64 0) := (blk_cell BK209.out 0).trans rfl; have hcz31_1 : w30.cell? ⟨gb209, 1, none⟩ = some (.int .i64 0) := (blk_cell BK209.out 1).trans rfl; have hfz31_0 := blk_frozen BK209.out 0; have hfz31_1 := blk_frozen BK209.out 1))
              go_roundg k3
              case measure => have := HJ3.out; have := HK2.out; have := HK3.out; omega
              case rel => exact ⟨(x9_3), (wrap64 (x11_3 - ((rd_T44 l0 x50_3).f1))), (wrap64 (x50_3 + 1)), (by first | rfl | (simp; done) | (simp [*]; done)), (by first | rfl | (simp; done) | (simp [*]; done)), H', ⟨by have := HJ3.out; have := HK2.out; have := HK3.out; omega⟩, ⟨by refine rk ?_; exact Kd.R_mono (Kd.R_far (p := ⟨gb209, 1, none⟩) (Kd.R_far (p := ⟨gb209, 0, none⟩) (Kd.R_mono HO_9.out (fun k_ hk => (⟨hk, hk.2⟩ : _ ∧ k_ ≠ gb209))) (fun _ hk => hk.2) (.int .i64 ((rd_T44 l0 x50_3).f0))) (fun _ hk => hk.2) (.int .i64 ((rd_T44 l0 x50_3).f1))) (fun _ hk => trivial)⟩, ⟨by repeat (first | (with_reducible first | exact HB.out | apply below_alloc | apply pw_below_drewN | apply below_drew1 | refine below_set ?_ GE209.out) | exact HB.out)⟩⟩
            ·rw [if_neg c24] at H
             exact absurd H (by simp)
           ·rw [if_neg c23] at H
            exact absurd H (by simp)
          ·rw [if_neg c22] at H
           have c22b0 : decide (x50_3 < (l0.length : Int)) = false := decide_eq_false c22
           clear c22
           have H' := Aside0.mk H
           clear H
           go_wp2
           go_roundg k3
           case measure => have := HJ3.out; have := HK2.out; have := HK3.out; omega
           case rel => exact ⟨(x9_3), (wrap64 (x38_2 + 1)), (by first | rfl | (simp; done) | (simp [*]; done)), H', ⟨by have := HJ3.out; have := HK2.out; have := HK3.out; omega⟩, ⟨by refine rk ?_; exact HO_9.out⟩, ⟨un HB.out⟩⟩
      ·rw [if_neg c20] at H
       have c20b0 : decide (x38_2 < a1) = false := decide_eq_false c20
       clear c20
       simp only [Option.some.injEq, Prod.mk.injEq] at H
       obtain ⟨rfl, rfl⟩ := H
       go_wp2
       go_ret2
       exact ⟨_, by first | rfl | (simp [errW_none, errW_some] <;> rfl) | (simp [*, errW_none, errW_some] <;> rfl), by refine rk ?_; exact HO_9.out, un HB.out⟩

/-! ### spec_l11In: function 20 -/
def spec_l11In.f (a0 : Int) : Option (Bool) := if a0 ≥ (-1000000) then (some (decide (a0 ≤ 1000000))) else (some false)
set_option maxHeartbeats 8000000 in
set_option maxRecDepth 100000 in
theorem spec_l11In.calls (a0 : Int) (r : Bool) (w : World) (h : spec_l11In.f a0 = some r) :
  Calls Try.prog 20 #[.int .i64 a0] w fun e w' => e = .returned (.bool r) ∧ Drawn0 w w' := by
 have H : (if a0 ≥ (-1000000) then (some (decide (a0 ≤ 1000000))) else (some false)) = some r := h
 clear h
 by_cases c2 : a0 ≥ (-1000000)
 ·rw [if_pos c2] at H
  have c2b0 : decide ((-1000000) ≤ a0) = true := decide_eq_true c2
  clear c2
  obtain rfl := Option.some.inj H
  go_enter Try.func20, Try.ntmps20
  go_wp2
  go_ret
  exact ⟨by first | rfl | (simp; done) | (simp [*]; done), by repeat (first | exact Drawn0.refl _ | apply Drawn0.step)⟩
 ·rw [if_neg c2] at H
  have c2b0 : decide ((-1000000) ≤ a0) = false := decide_eq_false c2
  clear c2
  obtain rfl := Option.some.inj H
  go_enter Try.func20, Try.ntmps20
  go_wp2
  go_ret
  exact ⟨by first | rfl | (simp; done) | (simp [*]; done), by repeat (first | exact Drawn0.refl _ | apply Drawn0.step)⟩

/-! ### spec_GoodCloud: function 17 -/
def spec_GoodCloud.l0 : Nat → List (S44) → Int → Int → Option (Bool)
 | 0, _, _, _ => none
 | k + 1, x8, x9, x10 => if x10 < x9 then (if 0 ≤ x10 then (if x10 < (x8.length : Int) then ((spec_l11In.f ((rd_T44 x8 x10).f0)).bind fun t215 => (if t215 = true then (if ((rd_T44 x8 x10).f1) < 0 then (some false) else (if ((rd_T44 x8 x10).f1) > 1000000 then (some false) else (spec_GoodCloud.l0 k x8 x9 (wrap64 (x10 + 1))))) else (some false))) else (none)) else (none)) else (some true)
def spec_GoodCloud.f (k : Nat) (l0 : List (S44)) : Option (Bool) := if (l0.length : Int) > 60 then (some false) else (spec_GoodCloud.l0 k l0 (l0.length : Int) 0)
theorem spec_GoodCloud.mono_l : ∀ k, (∀ y0 y1 y2, LeO (spec_GoodCloud.l0 k y0 y1 y2) (spec_GoodCloud.l0 (k + 1) y0 y1 y2))
 | 0 => fun _ _ _ r h => by simp [spec_GoodCloud.l0] at h
 | k + 1 => by
  have ih0 := spec_GoodCloud.mono_l k
  ·intro y0 y1 y2
   unfold spec_GoodCloud.l0
   repeat' first
   | (with_reducible exact ih0 _ _ _)
   | (with_reducible exact LeO.refl _)
   | (with_reducible exact LeO.none _)
   | (with_reducible refine LeO.ite ?_ ?_)
   | (with_reducible refine LeO.bind ?_ (fun _ => ?_))
   | exact ih0 _ _ _
   | exact LeO.none _
   | refine LeO.ite ?_ ?_
   | refine LeO.bind ?_ (fun _ => ?_)
theorem spec_GoodCloud.mono : ∀ a0 k, LeO (spec_GoodCloud.f k a0) (spec_GoodCloud.f (k + 1) a0) := by
 intro a0 k
 have ih0 := spec_GoodCloud.mono_l k
 unfold spec_GoodCloud.f
 repeat' first
   | (with_reducible exact ih0 _ _ _)
   | (with_reducible exact LeO.refl _)
   | (with_reducible exact LeO.none _)
   | (with_reducible refine LeO.ite ?_ ?_)
   | (with_reducible refine LeO.bind ?_ (fun _ => ?_))
   | exact ih0 _ _ _
   | exact LeO.none _
   | refine LeO.ite ?_ ?_
   | refine LeO.bind ?_ (fun _ => ?_)
set_option maxHeartbeats 8000000 in
set_option maxRecDepth 100000 in
theorem spec_GoodCloud.calls (k : Nat) (A0 : Option Addr) (c0 : Nat) (l0 : List (S44)) (r : Bool) (w : World) (hr0 : Kd.C k44 w A0 l0.length l0) (hc0 : l0.length ≤ c0) (h : spec_GoodCloud.f k l0 = some r) :
  Calls Try.prog 17 #[.slice A0 l0.length c0] w fun e w' => e = .returned (.bool r) ∧ Below w.heap.size w w' := by
 have hu44 := Try.underlying44
 have HR0 := Aside0.mk hr0
 have HC0 := Aside0.mk hc0
 clear hr0 hc0
 have HB := a_ (Below.refl w.heap.size w)
 have H : (if (l0.length : Int) > 60 then (some false) else (spec_GoodCloud.l0 k l0 (l0.length : Int) 0)) = some r := h
 clear h
 by_cases c2 : (l0.length : Int) > 60
 ·rw [if_pos c2] at H
  have c2b0 : decide (60 < (l0.length : Int)) = true := decide_eq_true c2
  have c2b1 : decide (60 < l0.length) = true := decide_eq_true (by omega)
  clear c2
  obtain rfl := Option.some.inj H
  go_enter Try.func17, Try.ntmps17
  go_wp2
  go_ret
  exact ⟨by first | rfl | (simp [errW_none, errW_some] <;> rfl) | (simp [*, errW_none, errW_some] <;> rfl), un HB.out⟩
 ·rw [if_neg c2] at H
  have c2b0 : decide (60 < (l0.length : Int)) = false := decide_eq_false c2
  have c2b1 : decide (60 < l0.length) = false := decide_eq_false (by omega)
  clear c2
  have H' := Aside0.mk H
  clear H
  go_enter Try.func17, Try.ntmps17
  go_wp2
  go_loopg [10] k (fun kq v10 w' => ∃ (x10_1 : Int), v10 = .int .i64 x10_1 ∧ Aside0 (spec_GoodCloud.l0 kq l0 (l0.length : Int) x10_1 = some r) ∧ Aside0 (kq ≤ k) ∧ Aside0 (Below w.heap.size w w'))
  case atStart => exact ⟨(0), (by first | rfl | (simp; done) | (simp [*]; done)), H', ⟨Nat.le_refl _⟩, ⟨un HB.out⟩⟩
  case round =>
   clear H'
   try clear c1
   try clear c2
   try clear c2b0
   try clear c2b1
   try clear p2
   obtain ⟨x10_1, rfl, HA, HK1, HB⟩ := hrel
   cases gk with
   | zero => exact absurd HA.out (by simp [spec_GoodCloud.l0])
   | succ k1 =>
    have H := HA.out
    clear HA
    simp only [spec_GoodCloud.l0] at H
    by_cases c3 : x10_1 < (l0.length : Int)
    ·rw [if_pos c3] at H
     have c3b0 : decide (x10_1 < (l0.length : Int)) = true := decide_eq_true c3
     clear c3
     by_cases c4 : 0 ≤ x10_1
     ·rw [if_pos c4] at H
      have c4b0 : decide (0 ≤ x10_1) = true := decide_eq_true c4
      clear c4
      by_cases c5 : x10_1 < (l0.length : Int)
      ·rw [if_pos c5] at H
       have c5b0 : decide (x10_1 < (l0.length : Int)) = true := decide_eq_true c5
       clear c5
       replace H := Option.bind_eq_some_iff.mp H
       obtain ⟨t215, A60, H⟩ := H
       replace H : (if t215 = true then (if ((rd_T44 l0 x10_1).f1) < 0 then (some false) else (if ((rd_T44 l0 x10_1).f1) > 1000000 then (some false) else (spec_GoodCloud.l0 k1 l0 (l0.length : Int) (wrap64 (x10_1 + 1))))) else (some false)) = some r := H
       have A6 := Aside0.mk A60
       clear A60
       by_cases c7 : t215 = true
       ·subst c7
        have H1 : (if ((rd_T44 l0 x10_1).f1) < 0 then (some false) else (if ((rd_T44 l0 x10_1).f1) > 1000000 then (some false) else (spec_GoodCloud.l0 k1 l0 (l0.length : Int) (wrap64 (x10_1 + 1))))) = some r := by rw [if_pos rfl] at H; exact H
        clear H
        have H := H1
        clear H1
        by_cases c8 : ((rd_T44 l0 x10_1).f1) < 0
        ·rw [if_pos c8] at H
         have c8b0 : decide (((rd_T44 l0 x10_1).f1) < 0) = true := decide_eq_true c8
         clear c8
         obtain rfl := Option.some.inj H
         have p213 : 0 ≤ (x10_1 : Int) := of_decide_eq_true (by first | (with_reducible assumption) | assumption)
         have q213 : x10_1 < (l0.length : Int) := of_decide_eq_true (by first | (with_reducible assumption) | assumption)
         obtain ⟨ad213, e213, hx213_0, hx213_1⟩ := at_T44 HR0.out x10_1 p213 q213
         cases e213
         replace hx213_0 := (HB.out.cell (World.block_lt_of_cell? w _ hx213_0)).trans hx213_0
         replace hx213_1 := (HB.out.cell (World.block_lt_of_cell? w _ hx213_1)).trans hx213_1
         replace p213 := eq_true p213
         replace q213 := eq_true q213
         go_wp2_with (first | ((with_reducible refine gate_dst (N := 4) rfl ?_); refine box_event ?hg (N := 4) ?hd (cs := #[.int .i64 0, .int .i64 0]) (t := 44) ?hr ?_; (case hd => rfl); (case hg => rfl); (case hr => first | (go_simp; done) | (go_simp; rfl)); intro gb214 hg w9 hbox hb; have BK214 := a_ (hbox); have GW214 := a_ (bsg hg HB.out); have GE214 := a_ (bsg hg HB.out); replace HB := a_ (below_step (un HB.out) hb); clear hb hbox hg; have hcz10_0 : w9.cell? ⟨gb214, 0, none⟩ = some (.int .i64 0) := (blk_cell BK214.out 0).trans rfl; have hcz10_1 : w9.cell? ⟨gb214, 1, none⟩ = some (.int .i64 0) := (blk_cell BK214.out 1).trans rfl; have hfz10_0 := blk_frozen BK214.out 0; have hfz10_1 := blk_frozen BK214.out 1) | ((with_reducible refine gate_callee (f := 20) rfl ?_); refine goesL_ (some 16) rfl rfl Try.func20 (by kernel_rfl) rfl #[.int .i64 ((rd_T44 l0 x10_1).f0)] rfl (by (try simp only [lA, lB, lC]); first | done | rfl | (simp only [lD, lE]; rfl)) ?_; (with_reducible refine (spec_l11In.calls ((rd_T44 l0 x10_1).f0) true _ A6.out).mono ?_); rintro e w' ⟨rfl, ⟨nd, rfl⟩⟩; refine ⟨_, rfl, ?_⟩))
         go_ret
         exact ⟨by first | rfl | (simp [errW_none, errW_some] <;> rfl) | (simp [*, errW_none, errW_some] <;> rfl), by repeat (first | (with_reducible first | exact HB.out | apply below_alloc | apply pw_below_drewN | apply below_drew1 | refine below_set ?_ GE214.out) | exact HB.out)⟩
        ·rw [if_neg c8] at H
         have c8b0 : decide (((rd_T44 l0 x10_1).f1) < 0) = false := decide_eq_false c8
         clear c8
         by_cases c11 : ((rd_T44 l0 x10_1).f1) > 1000000
         ·rw [if_pos c11] at H
          have c11b0 : decide (1000000 < ((rd_T44 l0 x10_1).f1)) = true := decide_eq_true c11
          clear c11
          obtain rfl := Option.some.inj H
          have p213 : 0 ≤ (x10_1 : Int) := of_decide_eq_true (by first | (with_reducible assumption) | assumption)
          have q213 : x10_1 < (l0.length : Int) := of_decide_eq_true (by first | (with_reducible assumption) | assumption)
          obtain ⟨ad213, e213, hx213_0, hx213_1⟩ := at_T44 HR0.out x10_1 p213 q213
          cases e213
          replace hx213_0 := (HB.out.cell (World.block_lt_of_cell? w _ hx213_0)).trans hx213_0
          replace hx213_1 := (HB.out.cell (World.block_lt_of_cell? w _ hx213_1)).trans hx213_1
          replace p213 := eq_true p213
          replace q213 := eq_true q213
          go_wp2_with (first | ((with_reducible refine gate_dst (N := 4) rfl ?_); refine box_event ?hg (N := 4) ?hd (cs := #[.int .i64 0, .int .i64 0]) (t := 44) ?hr ?_; (case hd => rfl); (case hg => rfl); (case hr => first | (go_simp; done) | (go_simp; rfl)); intro gb214 hg w12 hbox hb; have BK214 := a_ (hbox); have GW214 := a_ (bsg hg HB.out); have GE214 := a_ (bsg hg HB.out); replace HB := a_ (below_step (un HB.out) hb); clear hb hbox hg; have hcz13_0 : w12.cell? ⟨gb214, 0, none⟩ = some (.int .i64 0) := (blk_cell BK214.out 0).trans rfl; have hcz13_1 : w12.cell? ⟨gb214, 1, none⟩ = some (.int .i64 0) := (blk_cell BK214.out 1).trans rfl; have hfz13_0 := blk_frozen BK214.out 0; have hfz13_1 := blk_frozen BK214.out 1) | ((with_reducible refine gate_callee (f := 20) rfl ?_); refine goesL_ (some 16) rfl rfl Try.func20 (by kernel_rfl) rfl #[.int .i64 ((rd_T44 l0 x10_1).f0)] rfl (by (try simp only [lA, lB, lC]); first | done | rfl | (simp only [lD, lE]; rfl)) ?_; (with_reducible refine (spec_l11In.calls ((rd_T44 l0 x10_1).f0) true _ A6.out).mono ?_); rintro e w' ⟨rfl, ⟨nd, rfl⟩⟩; refine ⟨_, rfl, ?_⟩))
          go_ret
          exact ⟨by first | rfl | (simp [errW_none, errW_some] <;> rfl) | (simp [*, errW_none, errW_some] <;> rfl), by repeat (first | (with_reducible first | exact HB.out | apply below_alloc | apply pw_below_drewN | apply below_drew1 | refine below_set ?_ GE214.out) | exact HB.out)⟩
         ·rw [if_neg c11] at H
          have c11b0 : decide (1000000 < ((rd_T44 l0 x10_1).f1)) = false := decide_eq_false c11
          clear c11
          have H' := Aside0.mk H
          clear H
          have p213 : 0 ≤ (x10_1 : Int) := of_decide_eq_true (by first | (with_reducible assumption) | assumption)
          have q213 : x10_1 < (l0.length : Int) := of_decide_eq_true (by first | (with_reducible assumption) | assumption)
          obtain ⟨ad213, e213, hx213_0, hx213_1⟩ := at_T44 HR0.out x10_1 p213 q213
          cases e213
          replace hx213_0 := (HB.out.cell (World.block_lt_of_cell? w _ hx213_0)).trans hx213_0
          replace hx213_1 := (HB.out.cell (World.block_lt_of_cell? w _ hx213_1)).trans hx213_1
          replace p213 := eq_true p213
          replace q213 := eq_true q213
          go_wp2_with (first | ((with_reducible refine gate_dst (N := 4) rfl ?_); refine box_event ?hg (N := 4) ?hd (cs := #[.int .i64 0, .int .i64 0]) (t := 44) ?hr ?_; (case hd => rfl); (case hg => rfl); (case hr => first | (go_simp; done) | (go_simp; rfl)); intro gb214 hg w14 hbox hb; have BK214 := a_ (hbox); have GW214 := a_ (bsg hg HB.out); have GE214 := a_ (bsg hg HB.out); replace HB := a_ (below_step (un HB.out) hb); clear hb hbox hg; have hcz15_0 : w14.cell? ⟨gb214, 0, none⟩ = some (.int .i64 0) := (blk_cell BK214.out 0).trans rfl; have hcz15_1 : w14.cell? ⟨gb214, 1, none⟩ = some (.int .i64 0) := (blk_cell BK214.out 1).trans rfl; have hfz15_0 := blk_frozen BK214.out 0; have hfz15_1 := blk_frozen BK214.out 1) | ((with_reducible refine gate_callee (f := 20) rfl ?_); refine goesL_ (some 16) rfl rfl Try.func20 (by kernel_rfl) rfl #[.int .i64 ((rd_T44 l0 x10_1).f0)] rfl (by (try simp only [lA, lB, lC]); first | done | rfl | (simp only [lD, lE]; rfl)) ?_; (with_reducible refine (spec_l11In.calls ((rd_T44 l0 x10_1).f0) true _ A6.out).mono ?_); rintro e w' ⟨rfl, ⟨nd, rfl⟩⟩; refine ⟨_, rfl, ?_⟩))
          go_roundg k1
          case measure => have := HK1.out; omega
          case rel => exact ⟨(wrap64 (x10_1 + 1)), (by first | rfl | (simp; done) | (simp [*]; done)), H', ⟨by have := HK1.out; omega⟩, ⟨by repeat (first | (with_reducible first | exact HB.out | apply below_alloc | apply pw_below_drewN | apply below_drew1 | refine below_set ?_ GE214.out) | exact HB.out)⟩⟩
       ·replace c7 := Bool.eq_false_iff.mpr c7
        subst c7
        have H1 : (some false) = some r := by rw [if_neg (show ¬ (false = true) by decide)] at H; exact H
        clear H
        have H := H1
        clear H1
        obtain rfl := Option.some.inj H
        have p213 : 0 ≤ (x10_1 : Int) := of_decide_eq_true (by first | (with_reducible assumption) | assumption)
        have q213 : x10_1 < (l0.length : Int) := of_decide_eq_true (by first | (with_reducible assumption) | assumption)
        obtain ⟨ad213, e213, hx213_0, hx213_1⟩ := at_T44 HR0.out x10_1 p213 q213
        cases e213
        replace hx213_0 := (HB.out.cell (World.block_lt_of_cell? w _ hx213_0)).trans hx213_0
        replace hx213_1 := (HB.out.cell (World.block_lt_of_cell? w _ hx213_1)).trans hx213_1
        replace p213 := eq_true p213
        replace q213 := eq_true q213
        go_wp2_with (first | ((with_reducible refine gate_dst (N := 4) rfl ?_); refine box_event ?hg (N := 4) ?hd (cs := #[.int .i64 0, .int .i64 0]) (t := 44) ?hr ?_; (case hd => rfl); (case hg => rfl); (case hr => first | (go_simp; done) | (go_simp; rfl)); intro gb214 hg w16 hbox hb; have BK214 := a_ (hbox); have GW214 := a_ (bsg hg HB.out); have GE214 := a_ (bsg hg HB.out); replace HB := a_ (below_step (un HB.out) hb); clear hb hbox hg; have hcz17_0 : w16.cell? ⟨gb214, 0, none⟩ = some (.int .i64 0) := (blk_cell BK214.out 0).trans rfl; have hcz17_1 : w16.cell? ⟨gb214, 1, none⟩ = some (.int .i64 0) := (blk_cell BK214.out 1).trans rfl; have hfz17_0 := blk_frozen BK214.out 0; have hfz17_1 := blk_frozen BK214.out 1) | ((with_reducible refine gate_callee (f := 20) rfl ?_); refine goesL_ (some 16) rfl rfl Try.func20 (by kernel_rfl) rfl #[.int .i64 ((rd_T44 l0 x10_1).f0)] rfl (by (try simp only [lA, lB, lC]); first | done | rfl | (simp only [lD, lE]; rfl)) ?_; (with_reducible refine (spec_l11In.calls ((rd_T44 l0 x10_1).f0) false _ A6.out).mono ?_); rintro e w' ⟨rfl, ⟨nd, rfl⟩⟩; refine ⟨_, rfl, ?_⟩))
        go_ret
        exact ⟨by first | rfl | (simp [errW_none, errW_some] <;> rfl) | (simp [*, errW_none, errW_some] <;> rfl), by repeat (first | (with_reducible first | exact HB.out | apply below_alloc | apply pw_below_drewN | apply below_drew1 | refine below_set ?_ GE214.out) | exact HB.out)⟩
      ·rw [if_neg c5] at H
       exact absurd H (by simp)
     ·rw [if_neg c4] at H
      exact absurd H (by simp)
    ·rw [if_neg c3] at H
     have c3b0 : decide (x10_1 < (l0.length : Int)) = false := decide_eq_false c3
     clear c3
     obtain rfl := Option.some.inj H
     go_wp2
     go_ret
     exact ⟨by first | rfl | (simp [errW_none, errW_some] <;> rfl) | (simp [*, errW_none, errW_some] <;> rfl), un HB.out⟩

end Go.Proofs.Ytceekdkklcdhaaa.PFnPick
