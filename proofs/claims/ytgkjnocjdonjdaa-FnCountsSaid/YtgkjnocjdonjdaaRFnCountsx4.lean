-- Written by a program of this session out of the loaded functions' print; helper lemmas as print.sh lays them.
import Derived.Test.YtgkjnocjdonjdaaUp2
import Derived.Test.YtgkjnocjdonjdaaUp
import Derived.Test.YtgkjnocjdonjdaaRFnCountsx0
namespace Go.Proofs.Ytgkjnocjdonjdaa.PFnCounts
open Go.RowKit Go.Proofs.YtgkjnocjdonjdaaW.PrintWords Go.Proofs.YtgkjnocjdonjdaaW.PrintLast Go.Proofs.YtgkjnocjdonjdaaW.PrintMore
attribute [local go_sem] max2_int min2_int max_two min_two max_three min_three max_four min_four  -- for this text's walks alone
set_option linter.unusedVariables false
set_option linter.unusedSimpArgs false

/-! ### impl_within: function 23 -/
def impl_within.f (a0 : Int) (a1 : Int) : Option (Bool) := if a0 ≥ (wrap64 (-a1)) then (some (decide (a0 ≤ a1))) else (some false)
set_option maxHeartbeats 8000000 in
set_option maxRecDepth 100000 in
theorem impl_within.calls (a0 : Int) (a1 : Int) (r : Bool) (w : World) (h : impl_within.f a0 a1 = some r) :
  Calls Try.prog 23 #[.int .i64 a0, .int .i64 a1] w fun e w' => e = .returned (.bool r) ∧ Drawn0 w w' := by
 have H : (if a0 ≥ (wrap64 (-a1)) then (some (decide (a0 ≤ a1))) else (some false)) = some r := h
 clear h
 by_cases c3 : a0 ≥ (wrap64 (-a1))
 ·rw [if_pos c3] at H
  have c3b0 : decide ((wrap64 (-a1)) ≤ a0) = true := decide_eq_true c3
  clear c3
  obtain rfl := Option.some.inj H
  go_enter Try.func23, Try.ntmps23
  go_wp2
  go_ret
  exact ⟨by first | rfl | (simp; done) | (simp [*]; done), by repeat (first | exact Drawn0.refl _ | apply Drawn0.step)⟩
 ·rw [if_neg c3] at H
  have c3b0 : decide ((wrap64 (-a1)) ≤ a0) = false := decide_eq_false c3
  clear c3
  obtain rfl := Option.some.inj H
  go_enter Try.func23, Try.ntmps23
  go_wp2
  go_ret
  exact ⟨by first | rfl | (simp; done) | (simp [*]; done), by repeat (first | exact Drawn0.refl _ | apply Drawn0.step)⟩

/-! ### impl_LineCells_1: function 24 -/
def impl_LineCells_1.f (a0 : Int) : Option (Int × Int) := if a0 < 0 then (some (wrap64 (-a0), (-1))) else (some (a0, 1))
set_option maxHeartbeats 8000000 in
set_option maxRecDepth 100000 in
theorem impl_LineCells_1.calls (a0 : Int) (r1 : Int) (r2 : Int) (w : World) (h : impl_LineCells_1.f a0 = some (r1, r2)) :
  Calls Try.prog 24 #[.int .i64 a0] w fun e w' => e = .returned (.tuple #[.int .i64 r1, .int .i64 r2]) ∧ Drawn0 w w' := by
 have H : (if a0 < 0 then (some (wrap64 (-a0), (-1))) else (some (a0, 1))) = some (r1, r2) := h
 clear h
 by_cases c2 : a0 < 0
 ·rw [if_pos c2] at H
  have c2b0 : decide (a0 < 0) = true := decide_eq_true c2
  clear c2
  simp only [Option.some.injEq, Prod.mk.injEq] at H
  obtain ⟨rfl, rfl⟩ := H
  go_enter Try.func24, Try.ntmps24
  go_wp2
  go_ret2
  exact ⟨by first | rfl | (simp; done) | (simp [*]; done), by repeat (first | exact Drawn0.refl _ | apply Drawn0.step)⟩
 ·rw [if_neg c2] at H
  have c2b0 : decide (a0 < 0) = false := decide_eq_false c2
  clear c2
  simp only [Option.some.injEq, Prod.mk.injEq] at H
  obtain ⟨rfl, rfl⟩ := H
  go_enter Try.func24, Try.ntmps24
  go_wp2
  go_ret2
  exact ⟨by first | rfl | (simp; done) | (simp [*]; done), by repeat (first | exact Drawn0.refl _ | apply Drawn0.step)⟩

/-! ### impl_LineCells: function 7 -/
mutual
def impl_LineCells.l0 : Nat → Int → Int → Int → Int → List Int → Int → Int → Option ((List (List Int)))
 | 0, _, _, _, _, _, _, _ => none
 | k + 1, x0, x1, x2, x3, x25, x26, x27 => if x27 < x26 then (if 0 ≤ x27 then (if x27 < (x25.length : Int) then ((impl_within.f (rd x25 x27) 1000).bind fun t154 => (if t154 = true then (impl_LineCells.l0 k x0 x1 x2 x3 x25 x26 (wrap64 (x27 + 1))) else (some ([] : List (List Int))))) else (none)) else (none)) else ((impl_LineCells_1.f (wrap64 (x2 - x0))).bind fun bt155 => ((impl_LineCells_1.f (wrap64 (x3 - x1))).bind fun bt157 => (impl_LineCells.l1 k x2 x3 bt155.1 bt155.2 bt157.1 bt157.2 (wrap64 (bt155.1 - bt157.1)) ([] : List (List Int)) x0 x1)))
def impl_LineCells.l1 : Nat → Int → Int → Int → Int → Int → Int → Int → List (List Int) → Int → Int → Option ((List (List Int)))
 | 0, _, _, _, _, _, _, _, _, _, _ => none
 | k + 1, x2, x3, x12, x13, x14, x15, x16, x17, x18, x19 => if x17.length < 5864062014805 then ((some (x17 ++ [(([x18, x19] : List Int))] : List (List Int))).bind fun y162 => (if x18 = x2 then (impl_LineCells.j2 k x2 x3 x12 x13 x14 x15 x16 y162 x18 x19 (x19 == x3)) else (impl_LineCells.j2 k x2 x3 x12 x13 x14 x15 x16 y162 x18 x19 false))) else (none)
def impl_LineCells.j2 : Nat → Int → Int → Int → Int → Int → Int → Int → List (List Int) → Int → Int → Bool → Option ((List (List Int)))
 | 0, _, _, _, _, _, _, _, _, _, _, _ => none
 | k + 1, x2, x3, x12, x13, x14, x15, x16, x17, x18, x19, x69 => if x69 = true then (some x17) else (if (wrap64 (2 * x16)) > (wrap64 (-x14)) then (if (wrap64 (2 * x16)) < x12 then (impl_LineCells.l1 k x2 x3 x12 x13 x14 x15 (wrap64 ((wrap64 (x16 - x14)) + x12)) x17 (wrap64 (x18 + x13)) (wrap64 (x19 + x15))) else (impl_LineCells.l1 k x2 x3 x12 x13 x14 x15 (wrap64 (x16 - x14)) x17 (wrap64 (x18 + x13)) x19)) else (if (wrap64 (2 * x16)) < x12 then (impl_LineCells.l1 k x2 x3 x12 x13 x14 x15 (wrap64 (x16 + x12)) x17 x18 (wrap64 (x19 + x15))) else (impl_LineCells.l1 k x2 x3 x12 x13 x14 x15 x16 x17 x18 x19)))
end
def impl_LineCells.f (k : Nat) (a0 : Int) (a1 : Int) (a2 : Int) (a3 : Int) : Option ((List (List Int))) := (some (([a0, a1, a2, a3] : List Int) : List Int)).bind fun y150 => (impl_LineCells.l0 k a0 a1 a2 a3 y150 (y150.length : Int) 0)
theorem impl_LineCells.mono_l : ∀ k, (∀ y0 y1 y2 y3 y4 y5 y6, LeO (impl_LineCells.l0 k y0 y1 y2 y3 y4 y5 y6) (impl_LineCells.l0 (k + 1) y0 y1 y2 y3 y4 y5 y6)) ∧ (∀ y0 y1 y2 y3 y4 y5 y6 y7 y8 y9, LeO (impl_LineCells.l1 k y0 y1 y2 y3 y4 y5 y6 y7 y8 y9) (impl_LineCells.l1 (k + 1) y0 y1 y2 y3 y4 y5 y6 y7 y8 y9)) ∧ (∀ y0 y1 y2 y3 y4 y5 y6 y7 y8 y9 y10, LeO (impl_LineCells.j2 k y0 y1 y2 y3 y4 y5 y6 y7 y8 y9 y10) (impl_LineCells.j2 (k + 1) y0 y1 y2 y3 y4 y5 y6 y7 y8 y9 y10))
 | 0 => ⟨fun _ _ _ _ _ _ _ r h => by simp [impl_LineCells.l0] at h, fun _ _ _ _ _ _ _ _ _ _ r h => by simp [impl_LineCells.l1] at h, fun _ _ _ _ _ _ _ _ _ _ _ r h => by simp [impl_LineCells.j2] at h⟩
 | k + 1 => by
  obtain ⟨ih0, ih1, ih2⟩ := impl_LineCells.mono_l k
  refine ⟨?_, ?_, ?_⟩
  ·intro y0 y1 y2 y3 y4 y5 y6
   unfold impl_LineCells.l0
   repeat' first
   | (with_reducible exact ih0 _ _ _ _ _ _ _)
   | (with_reducible exact ih1 _ _ _ _ _ _ _ _ _ _)
   | (with_reducible exact ih2 _ _ _ _ _ _ _ _ _ _ _)
   | (with_reducible exact LeO.refl _)
   | (with_reducible exact LeO.none _)
   | (with_reducible refine LeO.ite ?_ ?_)
   | (with_reducible refine LeO.bind ?_ (fun _ => ?_))
   | exact ih0 _ _ _ _ _ _ _
   | exact ih1 _ _ _ _ _ _ _ _ _ _
   | exact ih2 _ _ _ _ _ _ _ _ _ _ _
   | exact LeO.none _
   | refine LeO.ite ?_ ?_
   | refine LeO.bind ?_ (fun _ => ?_)
  ·intro y0 y1 y2 y3 y4 y5 y6 y7 y8 y9
   unfold impl_LineCells.l1
   repeat' first
   | (with_reducible exact ih0 _ _ _ _ _ _ _)
   | (with_reducible exact ih1 _ _ _ _ _ _ _ _ _ _)
   | (with_reducible exact ih2 _ _ _ _ _ _ _ _ _ _ _)
   | (with_reducible exact LeO.refl _)
   | (with_reducible exact LeO.none _)
   | (with_reducible refine LeO.ite ?_ ?_)
   | (with_reducible refine LeO.bind ?_ (fun _ => ?_))
   | exact ih0 _ _ _ _ _ _ _
   | exact ih1 _ _ _ _ _ _ _ _ _ _
   | exact ih2 _ _ _ _ _ _ _ _ _ _ _
   | exact LeO.none _
   | refine LeO.ite ?_ ?_
   | refine LeO.bind ?_ (fun _ => ?_)
  ·intro y0 y1 y2 y3 y4 y5 y6 y7 y8 y9 y10
   unfold impl_LineCells.j2
   repeat' first
   | (with_reducible exact ih0 _ _ _ _ _ _ _)
   | (with_reducible exact ih1 _ _ _ _ _ _ _ _ _ _)
   | (with_reducible exact ih2 _ _ _ _ _ _ _ _ _ _ _)
   | (with_reducible exact LeO.refl _)
   | (with_reducible exact LeO.none _)
   | (with_reducible refine LeO.ite ?_ ?_)
   | (with_reducible refine LeO.bind ?_ (fun _ => ?_))
   | exact ih0 _ _ _ _ _ _ _
   | exact ih1 _ _ _ _ _ _ _ _ _ _
   | exact ih2 _ _ _ _ _ _ _ _ _ _ _
   | exact LeO.none _
   | refine LeO.ite ?_ ?_
   | refine LeO.bind ?_ (fun _ => ?_)
theorem impl_LineCells.mono : ∀ a0 a1 a2 a3 k, LeO (impl_LineCells.f k a0 a1 a2 a3) (impl_LineCells.f (k + 1) a0 a1 a2 a3) := by
 intro a0 a1 a2 a3 k
 obtain ⟨ih0, ih1, ih2⟩ := impl_LineCells.mono_l k
 unfold impl_LineCells.f
 repeat' first
   | (with_reducible exact ih0 _ _ _ _ _ _ _)
   | (with_reducible exact ih1 _ _ _ _ _ _ _ _ _ _)
   | (with_reducible exact ih2 _ _ _ _ _ _ _ _ _ _ _)
   | (with_reducible exact LeO.refl _)
   | (with_reducible exact LeO.none _)
   | (with_reducible refine LeO.ite ?_ ?_)
   | (with_reducible refine LeO.bind ?_ (fun _ => ?_))
   | exact ih0 _ _ _ _ _ _ _
   | exact ih1 _ _ _ _ _ _ _ _ _ _
   | exact ih2 _ _ _ _ _ _ _ _ _ _ _
   | exact LeO.none _
   | refine LeO.ite ?_ ?_
   | refine LeO.bind ?_ (fun _ => ?_)
set_option maxHeartbeats 8000000 in
set_option maxRecDepth 100000 in
theorem impl_LineCells.calls (k : Nat) (a0 : Int) (a1 : Int) (a2 : Int) (a3 : Int) (r : List (List Int)) (w : World) (h : impl_LineCells.f k a0 a1 a2 a3 = some r) :
  Calls Try.prog 7 #[.int .i64 a0, .int .i64 a1, .int .i64 a2, .int .i64 a3] w fun e w' => ∃ v0_ : Value, e = .returned (v0_) ∧ Kd.S (Kd.slice 3 (Kd.int .i64)) 27 w' w.heap.size (fun _ => True) v0_ r ∧ Below w.heap.size w w' := by
 have HB := a_ (Below.refl w.heap.size w)
 have H : ((some (([a0, a1, a2, a3] : List Int) : List Int)).bind fun y150 => (impl_LineCells.l0 k a0 a1 a2 a3 y150 (y150.length : Int) 0)) = some r := h
 clear h
 obtain ⟨y150, hy150⟩ : ∃ y_ : List Int, y_ = ([a0, a1, a2, a3] : List Int) := ⟨_, rfl⟩
 replace H : (impl_LineCells.l0 k a0 a1 a2 a3 y150 (y150.length : Int) 0) = some r := by first | (rw [hy150]; with_reducible exact H) | (have H2_ := (Option.bind_some _ _).symm.trans H; rw [hy150]; with_reducible exact H2_) | (have H2_ := (Option.bind_some _ _).symm.trans H; with_reducible exact H2_) | with_reducible exact H | (rw [hy150]; exact H) | exact H
 have Ny150 := Aside0.mk hy150
 clear hy150
 have H' := Aside0.mk H
 clear H
 go_enter Try.func7, Try.ntmps7
 go_wp2_with (first | ((with_reducible refine gate_dst (N := 25) rfl ?_); refine Kd.R_lit (Kd.int .i64) _ 3 ?hg (N := 25) ?hd (xs := ([a0, a1, a2, a3] : List Int)) (inner := [.int .i64 a0, .int .i64 a1, .int .i64 a2, .int .i64 a3]) (ok := fun _ => True) (okp := fun _ => True) ?hr ?hp (fun _ hk => hk) trivial (Below.refl _ _) (Nat.le_refl _) (by simp) ?_; (case hd => rfl); (case hg => rfl); (case hr => first | (go_simp; done) | (go_simp; rfl)); (case hp => exact (Reps.one (show Kd.M (Kd.int .i64) _ _ _ a0 [.int .i64 a0] from rfl) (Reps.one (show Kd.M (Kd.int .i64) _ _ _ a1 [.int .i64 a1] from rfl) (Reps.one (show Kd.M (Kd.int .i64) _ _ _ a2 [.int .i64 a2] from rfl) (Reps.one (show Kd.M (Kd.int .i64) _ _ _ a3 [.int .i64 a3] from rfl) (Reps.none _ _)))))); intro v151 w5 ho6 hb hg_ hnew_; clear hg_ hnew_; (first | rw [← Ny150.out] at ho6 | (simp only [Int.reduceToNat] at ho6; rw [← Ny150.out] at ho6)); have HO152 := a_ (Kd.R_lower ho6 (bs HB.out)); replace HB := a_ (below_step (un HB.out) hb); clear hb ho6; obtain ⟨Ao7, co7, eo7⟩ := Kd.R_slice HO152.out; subst eo7))
 go_loopg [27] k (fun kq v27 w' => ∃ (x27_1 : Int), v27 = .int .i64 x27_1 ∧ Aside0 (impl_LineCells.l0 kq a0 a1 a2 a3 y150 (y150.length : Int) x27_1 = some r) ∧ Aside0 (kq ≤ k) ∧ Aside0 (Kd.R (Kd.int .i64) 3 w' w.heap.size (fun _ => True) (.slice Ao7 y150.length co7) y150) ∧ Aside0 (Below w.heap.size w w'))
 case atStart => exact ⟨(0), (by first | rfl | (simp; done) | (simp [*]; done)), H', ⟨Nat.le_refl _⟩, ⟨rk (HO152.out)⟩, ⟨un HB.out⟩⟩
 case round =>
  clear H'
  try clear p2; try clear c7
  obtain ⟨x27_1, rfl, HA, HK1, HO_25, HB⟩ := hrel
  cases gk with
  | zero => exact absurd HA.out (by simp [impl_LineCells.l0])
  | succ k1 =>
   have H := HA.out
   clear HA
   simp only [impl_LineCells.l0] at H
   by_cases c8 : x27_1 < (y150.length : Int)
   ·rw [if_pos c8] at H
    have c8b0 : decide (x27_1 < (y150.length : Int)) = true := decide_eq_true c8
    clear c8
    by_cases c9 : 0 ≤ x27_1
    ·rw [if_pos c9] at H
     have c9b0 : decide (0 ≤ x27_1) = true := decide_eq_true c9
     clear c9
     by_cases c10 : x27_1 < (y150.length : Int)
     ·rw [if_pos c10] at H
      have c10b0 : decide (x27_1 < (y150.length : Int)) = true := decide_eq_true c10
      clear c10
      replace H := Option.bind_eq_some_iff.mp H
      obtain ⟨t154, A110, H⟩ := H
      have A11 := Aside0.mk A110
      clear A110
      by_cases c12 : t154 = true
      ·subst c12
       have H1 : (impl_LineCells.l0 k1 a0 a1 a2 a3 y150 (y150.length : Int) (wrap64 (x27_1 + 1))) = some r := by rw [if_pos rfl] at H; exact H
       clear H
       have H := H1
       clear H1
       have H' := Aside0.mk H
       clear H
       (first | (obtain ⟨Ao153, co153, eo153⟩ := Kd.R_slice HO_25.out; subst eo153) | skip)
       have p153 : 0 ≤ (x27_1 : Int) := of_decide_eq_true (by first | (with_reducible assumption) | assumption)
       have q153 : x27_1 < (y150.length : Int) := of_decide_eq_true (by first | (with_reducible assumption) | assumption)
       obtain ⟨ad153, e153, hx153_0⟩ := Kd.at_int (Kd.R_reads' HO_25.out).2.2 x27_1 p153 q153
       cases e153
       replace p153 := eq_true p153
       replace q153 := eq_true q153
       go_wp2_with (first | ((with_reducible refine gate_callee (f := 23) rfl ?_); refine goesL_ (some 32) rfl rfl Try.func23 (by kernel_rfl) rfl #[.int .i64 (rd y150 x27_1), .int .i64 1000] rfl (by (try simp only [lA, lB, lC]); first | done | rfl | (simp only [lD, lE]; rfl)) ?_; (with_reducible refine (impl_within.calls (rd y150 x27_1) 1000 true _ A11.out).mono ?_); rintro e w' ⟨rfl, ⟨nd, rfl⟩⟩; refine ⟨_, rfl, ?_⟩))
       go_roundg k1
       case measure => have := HK1.out; omega
       case rel => exact ⟨(wrap64 (x27_1 + 1)), (by first | rfl | (simp; done) | (simp [*]; done)), H', ⟨by have := HK1.out; omega⟩, ⟨rk (HO_25.out)⟩, ⟨un HB.out⟩⟩
      ·replace c12 := Bool.eq_false_iff.mpr c12
       subst c12
       have H1 : (some ([] : List (List Int))) = some r := by rw [if_neg (show ¬ (false = true) by decide)] at H; exact H
       clear H
       have H := H1
       clear H1
       obtain rfl := Option.some.inj H
       (first | (obtain ⟨Ao153, co153, eo153⟩ := Kd.R_slice HO_25.out; subst eo153) | skip)
       have p153 : 0 ≤ (x27_1 : Int) := of_decide_eq_true (by first | (with_reducible assumption) | assumption)
       have q153 : x27_1 < (y150.length : Int) := of_decide_eq_true (by first | (with_reducible assumption) | assumption)
       obtain ⟨ad153, e153, hx153_0⟩ := Kd.at_int (Kd.R_reads' HO_25.out).2.2 x27_1 p153 q153
       cases e153
       replace p153 := eq_true p153
       replace q153 := eq_true q153
       go_wp2_with (first | ((with_reducible refine gate_callee (f := 23) rfl ?_); refine goesL_ (some 32) rfl rfl Try.func23 (by kernel_rfl) rfl #[.int .i64 (rd y150 x27_1), .int .i64 1000] rfl (by (try simp only [lA, lB, lC]); first | done | rfl | (simp only [lD, lE]; rfl)) ?_; (with_reducible refine (impl_within.calls (rd y150 x27_1) 1000 false _ A11.out).mono ?_); rintro e w' ⟨rfl, ⟨nd, rfl⟩⟩; refine ⟨_, rfl, ?_⟩))
       go_ret
       exact ⟨_, by first | rfl | (simp [errW_none, errW_some] <;> rfl) | (simp [*, errW_none, errW_some] <;> rfl), by first | exact Kd.S_nil _ _ _ _ _ | exact Kd.N_nil _ _ _ _ _ | exact Kd.V_nil _ _ _ _ _ | exact Kd.Q_nil _ _ _ _ _ | exact Kd.R_nil _ _ _ _ _, un HB.out⟩
     ·rw [if_neg c10] at H
      exact absurd H (by simp)
    ·rw [if_neg c9] at H
     exact absurd H (by simp)
   ·rw [if_neg c8] at H
    have c8b0 : decide (x27_1 < (y150.length : Int)) = false := decide_eq_false c8
    clear c8
    replace H := Option.bind_eq_some_iff.mp H
    obtain ⟨⟨t155, t156⟩, A130, H⟩ := H
    replace H : ((impl_LineCells_1.f (wrap64 (a3 - a1))).bind fun bt157 => (impl_LineCells.l1 k1 a2 a3 t155 t156 bt157.1 bt157.2 (wrap64 (t155 - bt157.1)) ([] : List (List Int)) a0 a1)) = some r := H
    have A13 := Aside0.mk A130
    clear A130
    replace H := Option.bind_eq_some_iff.mp H
    obtain ⟨⟨t157, t158⟩, A140, H⟩ := H
    replace H : (impl_LineCells.l1 k1 a2 a3 t155 t156 t157 t158 (wrap64 (t155 - t157)) ([] : List (List Int)) a0 a1) = some r := H
    have A14 := Aside0.mk A140
    clear A140
    have H' := Aside0.mk H
    clear H
    go_wp2_with (first | (go_at_call 24; (with_reducible refine (impl_LineCells_1.calls (wrap64 (a2 - a0)) t155 t156 _ A13.out).mono ?_); rintro e w' ⟨rfl, ⟨nd, rfl⟩⟩) | (go_at_call 24; (with_reducible refine (impl_LineCells_1.calls (wrap64 (a3 - a1)) t157 t158 _ A14.out).mono ?_); rintro e w' ⟨rfl, ⟨nd, rfl⟩⟩))
    go_loopg [16, 17, 18, 19] k1 (fun kq v16 v17 v18 v19 w' => ∃ (x16_2 : Int) (x17_2 : List (List Int)) (x18_2 : Int) (x19_2 : Int), v16 = .int .i64 x16_2 ∧ v18 = .int .i64 x18_2 ∧ v19 = .int .i64 x19_2 ∧ Aside0 (impl_LineCells.l1 kq a2 a3 t155 t156 t157 t158 x16_2 x17_2 x18_2 x19_2 = some r) ∧ Aside0 (kq ≤ k1) ∧ Aside0 (Kd.S (Kd.slice 3 (Kd.int .i64)) 27 w' w.heap.size (fun _ => True) v17 x17_2) ∧ Aside0 (Below w.heap.size w w'))
    case atStart => exact ⟨(wrap64 (t155 - t157)), (([] : List (List Int))), (a0), (a1), (by first | rfl | (simp; done) | (simp [*]; done)), (by first | rfl | (simp; done) | (simp [*]; done)), (by first | rfl | (simp; done) | (simp [*]; done)), H', ⟨Nat.le_refl _⟩, ⟨by first | exact Kd.S_nil _ _ _ _ _ | exact Kd.N_nil _ _ _ _ _ | exact Kd.V_nil _ _ _ _ _ | exact Kd.Q_nil _ _ _ _ _ | exact Kd.R_nil _ _ _ _ _⟩, ⟨un HB.out⟩⟩
    case round =>
     clear H'
     try clear c1; try clear p1; try clear q1; try clear hx1; try clear c2; try clear p2; try clear p6; try clear c7; try clear c8; try clear c8b0; try clear c9; try clear c9b0; try clear c10; try clear c10b0; try clear c12; try clear hx153_0; try clear p153; try clear p2; try clear q153
     obtain ⟨x16_2, x17_2, x18_2, x19_2, rfl, rfl, rfl, HA, HK2, HO_17, HB⟩ := hrel
     cases gk with
     | zero => exact absurd HA.out (by simp [impl_LineCells.l1])
     | succ k2 =>
      have H := HA.out
      clear HA
      simp only [impl_LineCells.l1] at H
      obtain ⟨y159, hy159⟩ : ∃ y_ : List Int, y_ = ([x18_2, x19_2] : List Int) := ⟨_, rfl⟩
      replace H : (if x17_2.length < 5864062014805 then ((some (x17_2 ++ [y159] : List (List Int))).bind fun y162 => (if x18_2 = a2 then (impl_LineCells.j2 k2 a2 a3 t155 t156 t157 t158 x16_2 y162 x18_2 x19_2 (x19_2 == a3)) else (impl_LineCells.j2 k2 a2 a3 t155 t156 t157 t158 x16_2 y162 x18_2 x19_2 false))) else (none)) = some r := by first | (rw [hy159]; with_reducible exact H) | (have H2_ := (Option.bind_some _ _).symm.trans H; rw [hy159]; with_reducible exact H2_) | (have H2_ := (Option.bind_some _ _).symm.trans H; with_reducible exact H2_) | with_reducible exact H | (rw [hy159]; exact H) | exact H
      have Ny159 := Aside0.mk hy159
      clear hy159
      by_cases c15 : x17_2.length < 5864062014805
      ·rw [if_pos c15] at H
       have LMc15 := Aside0.mk c15
       clear c15
       obtain ⟨y162, hy162⟩ : ∃ y_ : List (List Int), y_ = (x17_2 ++ [y159]) := ⟨_, rfl⟩
       replace H : (if x18_2 = a2 then (impl_LineCells.j2 k2 a2 a3 t155 t156 t157 t158 x16_2 y162 x18_2 x19_2 (x19_2 == a3)) else (impl_LineCells.j2 k2 a2 a3 t155 t156 t157 t158 x16_2 y162 x18_2 x19_2 false)) = some r := by first | (rw [hy162]; with_reducible exact H) | (have H2_ := (Option.bind_some _ _).symm.trans H; rw [hy162]; with_reducible exact H2_) | (have H2_ := (Option.bind_some _ _).symm.trans H; with_reducible exact H2_) | with_reducible exact H | (rw [hy162]; exact H) | exact H
       have Ny162 := Aside0.mk hy162
       clear hy162
       have HC16 := Aside0.mk H
       clear H
       go_upto_region 14 with (first | ((with_reducible refine gate_dst (N := 59) rfl ?_); refine Kd.R_lit (Kd.int .i64) _ 3 ?hg (N := 59) ?hd (xs := ([x18_2, x19_2] : List Int)) (inner := [.int .i64 x18_2, .int .i64 x19_2]) (ok := fun _ => True) (okp := fun _ => True) ?hr ?hp (fun _ hk => hk) trivial (Below.refl _ _) (Nat.le_refl _) (by simp) ?_; (case hd => rfl); (case hg => rfl); (case hr => first | (go_simp; done) | (go_simp; rfl)); (case hp => exact (Reps.one (show Kd.M (Kd.int .i64) _ _ _ x18_2 [.int .i64 x18_2] from rfl) (Reps.one (show Kd.M (Kd.int .i64) _ _ _ x19_2 [.int .i64 x19_2] from rfl) (Reps.none _ _)))); intro v160 w17 ho18 hb hg_ hnew_; clear hg_ hnew_; (first | rw [← Ny159.out] at ho18 | (simp only [Int.reduceToNat] at ho18; rw [← Ny159.out] at ho18)); replace HO_17 := a_ (Kd.S_elder' (by (with_reducible repeat (first | apply Kd.S_alloc | apply Kd.S_drewN | apply Kd.S_drew)); exact HO_17.out) (Kd.R_base ho18) hb); have HO161 := a_ (Kd.R_lower ho18 (bs HB.out)); replace HB := a_ (below_step (un HB.out) hb); clear hb ho18; obtain ⟨Ao20, co20, eo20⟩ := Kd.R_slice HO161.out; subst eo20) | ((with_reducible refine gate_builtin (b := .append) (xs := #[.tmp 56, .tmp 60]) rfl ?_); at_builtin; refine Kd.S_append (Kd.slice 3 (Kd.int .i64)) (w0 := w) w.heap.size rfl (.tmp 56) (.tmp 60) 22 27 (.slice none 0 0) 24 rfl Try.underlying22 info27 rfl (by decide) (by omega) u17 x17_2 y159 [.slice Ao20 y159.length co20] (fun _ => True) (fun k_ => some k_ = (.slice Ao20 y159.length co20 : Value).ownBlock) rfl rfl ?aP (fun k_ hk_ => (Kd.R_mono (ok' := fun k_ => (fun _ => True) k_ ∧ some k_ ≠ (u17 : Value).ownBlock) (Kd.R_apart' (HO161.out) (Kd.S_typed HO_17.out) (by decide)) (fun k_ hk => ⟨trivial, hk.2⟩)).1 k_ hk_.symm) ?aF ?aO ?aB ?aS ?aL ?_; (case aP => exact Kd.M_row (Kd.R_mono (Kd.R_tight rfl (Kd.R_mono (ok' := fun k_ => (fun _ => True) k_ ∧ some k_ ≠ (u17 : Value).ownBlock) (Kd.R_apart' (HO161.out) (Kd.S_typed HO_17.out) (by decide)) (fun k_ hk => ⟨trivial, hk.2⟩))) (fun _ h_ => h_))); (case aB => exact (un HB.out)); (case aF => exact (fun _ _ => trivial)); (case aO => exact (by (with_reducible repeat (first | apply Kd.S_alloc | apply Kd.S_drewN | apply Kd.S_drew)); exact Kd.S_mono HO_17.out (fun k_ hk => ⟨trivial, fun e_ => hk.2 e_⟩))); (case aS => exact (bs HB.out)); (case aL => have := LMc15.out; omega); intro v163 w19 ho hb hg hat; rw [← Ny162.out] at ho; replace HB := a_ (hb); have HO164 := a_ (ho); clear HO_17 HO161 ho hb hg hat))
       (try simp only [Act.put, sB, sC, sD])
       go_cut [69] (fun v69 wc => ∃ (kq : Nat) (x69_15 : Bool), v69 = .bool x69_15 ∧ Aside0 (impl_LineCells.j2 kq a2 a3 t155 t156 t157 t158 x16_2 y162 x18_2 x19_2 x69_15 = some r) ∧ Aside0 (kq ≤ k2) ∧ Aside0 (Kd.S (Kd.slice 3 (Kd.int .i64)) 27 wc w.heap.size (fun _ => True) v163 y162) ∧ Aside0 (Below w.heap.size w wc))
       case first =>
        have H := HC16.out
        clear HC16
        by_cases c21 : x18_2 = a2
        ·rw [if_pos c21] at H
         have c21b0 : (x18_2 == a2) = true := beq_iff_eq.mpr c21
         have c21b1 : (x18_2 != a2) = false := bne_eq_false_iff_eq.mpr c21
         clear c21
         (first | rw [c21b0] | (simp only [i64_w, i32_w]; rw [c21b0]) | skip)
         have H' := Aside0.mk H
         clear H
         go_wp2
         go_meet
         case rel => exact ⟨_, ((x19_2 == a3)), (by first | rfl | (simp; done) | (simp [*]; done)), H', ⟨by have := HK1.out; have := HK2.out; first | omega | exact Nat.le_refl _⟩, ⟨by (with_reducible repeat (first | apply Kd.S_alloc | apply Kd.S_drewN | apply Kd.S_drew)); exact HO164.out⟩, ⟨un HB.out⟩⟩
        ·rw [if_neg c21] at H
         have c21b0 : (x18_2 == a2) = false := beq_eq_false_iff_ne.mpr c21
         have c21b1 : (x18_2 != a2) = true := bne_iff_ne.mpr c21
         (first | rw [c21b0] | (simp only [i64_w, i32_w]; rw [c21b0]) | skip)
         have H' := Aside0.mk H
         clear H
         go_wp2
         go_meet
         case rel => exact ⟨_, (false), (by first | rfl | (simp; done) | (simp [*]; done)), H', ⟨by have := HK1.out; have := HK2.out; first | omega | exact Nat.le_refl _⟩, ⟨by (with_reducible repeat (first | apply Kd.S_alloc | apply Kd.S_drewN | apply Kd.S_drew)); exact HO164.out⟩, ⟨un HB.out⟩⟩
       case rest =>
        clear HC16
        try clear c1; try clear p1; try clear q1; try clear hx1; try clear c2; try clear p2; try clear p6; try clear c7; try clear c8; try clear c8b0; try clear c9; try clear c9b0; try clear c10; try clear c10b0; try clear c12; try clear c15; try clear p15; try clear q15; try clear hx15; try clear c21; try clear c21b0; try clear c21b1; try clear hx153_0; try clear p1; try clear p153; try clear p2; try clear p6; try clear q1; try clear q153
        obtain ⟨kq, x69_15, rfl, HA, HJ15, HO_17, HB⟩ := hcut
        cases kq with
        | zero => exact absurd HA.out (by simp [impl_LineCells.j2])
        | succ kj15 =>
         have H := HA.out
         clear HA
         simp only [impl_LineCells.j2] at H
         by_cases c22 : x69_15 = true
         ·subst c22
          have H1 : (some y162) = some r := by rw [if_pos rfl] at H; exact H
          clear H
          have H := H1
          clear H1
          obtain rfl := Option.some.inj H
          go_wp2
          go_ret
          exact ⟨_, by first | rfl | (simp [errW_none, errW_some] <;> rfl) | (simp [*, errW_none, errW_some] <;> rfl), by (with_reducible repeat (first | apply Kd.S_alloc | apply Kd.S_drewN | apply Kd.S_drew)); exact HO_17.out, un HB.out⟩
         ·replace c22 := Bool.eq_false_iff.mpr c22
          subst c22
          have H1 : (if (wrap64 (2 * x16_2)) > (wrap64 (-t157)) then (if (wrap64 (2 * x16_2)) < t155 then (impl_LineCells.l1 kj15 a2 a3 t155 t156 t157 t158 (wrap64 ((wrap64 (x16_2 - t157)) + t155)) y162 (wrap64 (x18_2 + t156)) (wrap64 (x19_2 + t158))) else (impl_LineCells.l1 kj15 a2 a3 t155 t156 t157 t158 (wrap64 (x16_2 - t157)) y162 (wrap64 (x18_2 + t156)) x19_2)) else (if (wrap64 (2 * x16_2)) < t155 then (impl_LineCells.l1 kj15 a2 a3 t155 t156 t157 t158 (wrap64 (x16_2 + t155)) y162 x18_2 (wrap64 (x19_2 + t158))) else (impl_LineCells.l1 kj15 a2 a3 t155 t156 t157 t158 x16_2 y162 x18_2 x19_2))) = some r := by rw [if_neg (show ¬ (false = true) by decide)] at H; exact H
          clear H
          have H := H1
          clear H1
          by_cases c23 : (wrap64 (2 * x16_2)) > (wrap64 (-t157))
          ·rw [if_pos c23] at H
           have c23b0 : decide ((wrap64 (-t157)) < (wrap64 (2 * x16_2))) = true := decide_eq_true c23
           clear c23
           by_cases c24 : (wrap64 (2 * x16_2)) < t155
           ·rw [if_pos c24] at H
            have c24b0 : decide ((wrap64 (2 * x16_2)) < t155) = true := decide_eq_true c24
            clear c24
            have H' := Aside0.mk H
            clear H
            go_wp2
            go_roundg kj15
            case measure => have := HK1.out; have := HK2.out; have := HJ15.out; omega
            case rel => exact ⟨(wrap64 ((wrap64 (x16_2 - t157)) + t155)), (y162), (wrap64 (x18_2 + t156)), (wrap64 (x19_2 + t158)), (by first | rfl | (simp; done) | (simp [*]; done)), (by first | rfl | (simp; done) | (simp [*]; done)), (by first | rfl | (simp; done) | (simp [*]; done)), H', ⟨by have := HK1.out; have := HK2.out; have := HJ15.out; omega⟩, ⟨by (with_reducible repeat (first | apply Kd.S_alloc | apply Kd.S_drewN | apply Kd.S_drew)); exact HO_17.out⟩, ⟨un HB.out⟩⟩
           ·rw [if_neg c24] at H
            have c24b0 : decide ((wrap64 (2 * x16_2)) < t155) = false := decide_eq_false c24
            clear c24
            have H' := Aside0.mk H
            clear H
            go_wp2
            go_roundg kj15
            case measure => have := HK1.out; have := HK2.out; have := HJ15.out; omega
            case rel => exact ⟨(wrap64 (x16_2 - t157)), (y162), (wrap64 (x18_2 + t156)), (x19_2), (by first | rfl | (simp; done) | (simp [*]; done)), (by first | rfl | (simp; done) | (simp [*]; done)), (by first | rfl | (simp; done) | (simp [*]; done)), H', ⟨by have := HK1.out; have := HK2.out; have := HJ15.out; omega⟩, ⟨by (with_reducible repeat (first | apply Kd.S_alloc | apply Kd.S_drewN | apply Kd.S_drew)); exact HO_17.out⟩, ⟨un HB.out⟩⟩
          ·rw [if_neg c23] at H
           have c23b0 : decide ((wrap64 (-t157)) < (wrap64 (2 * x16_2))) = false := decide_eq_false c23
           clear c23
           by_cases c25 : (wrap64 (2 * x16_2)) < t155
           ·rw [if_pos c25] at H
            have c25b0 : decide ((wrap64 (2 * x16_2)) < t155) = true := decide_eq_true c25
            clear c25
            have H' := Aside0.mk H
            clear H
            go_wp2
            go_roundg kj15
            case measure => have := HK1.out; have := HK2.out; have := HJ15.out; omega
            case rel => exact ⟨(wrap64 (x16_2 + t155)), (y162), (x18_2), (wrap64 (x19_2 + t158)), (by first | rfl | (simp; done) | (simp [*]; done)), (by first | rfl | (simp; done) | (simp [*]; done)), (by first | rfl | (simp; done) | (simp [*]; done)), H', ⟨by have := HK1.out; have := HK2.out; have := HJ15.out; omega⟩, ⟨by (with_reducible repeat (first | apply Kd.S_alloc | apply Kd.S_drewN | apply Kd.S_drew)); exact HO_17.out⟩, ⟨un HB.out⟩⟩
           ·rw [if_neg c25] at H
            have c25b0 : decide ((wrap64 (2 * x16_2)) < t155) = false := decide_eq_false c25
            clear c25
            have H' := Aside0.mk H
            clear H
            go_wp2
            go_roundg kj15
            case measure => have := HK1.out; have := HK2.out; have := HJ15.out; omega
            case rel => exact ⟨(x16_2), (y162), (x18_2), (x19_2), (by first | rfl | (simp; done) | (simp [*]; done)), (by first | rfl | (simp; done) | (simp [*]; done)), (by first | rfl | (simp; done) | (simp [*]; done)), H', ⟨by have := HK1.out; have := HK2.out; have := HJ15.out; omega⟩, ⟨by (with_reducible repeat (first | apply Kd.S_alloc | apply Kd.S_drewN | apply Kd.S_drew)); exact HO_17.out⟩, ⟨un HB.out⟩⟩
      ·rw [if_neg c15] at H
       exact absurd H (by simp)

/-! ### impl_squared: function 38 -/
def impl_squared.f (a0 : Int) (a1 : Int) : Option (Bool) := if a0 ≥ 1 then (if a0 ≤ 16 then (if a0 = 0 then (none) else (if (Int.tmod a1 a0) = 0 then (if (wrap64 (Int.tdiv a1 a0)) ≥ 1 then (some (decide ((wrap64 (Int.tdiv a1 a0)) ≤ 16))) else (some false)) else (some false))) else (some false)) else (some false)
set_option maxHeartbeats 8000000 in
set_option maxRecDepth 100000 in
theorem impl_squared.calls (a0 : Int) (a1 : Int) (r : Bool) (w : World) (h : impl_squared.f a0 a1 = some r) :
  Calls Try.prog 38 #[.int .i64 a0, .int .i64 a1] w fun e w' => e = .returned (.bool r) ∧ Drawn0 w w' := by
 have H : (if a0 ≥ 1 then (if a0 ≤ 16 then (if a0 = 0 then (none) else (if (Int.tmod a1 a0) = 0 then (if (wrap64 (Int.tdiv a1 a0)) ≥ 1 then (some (decide ((wrap64 (Int.tdiv a1 a0)) ≤ 16))) else (some false)) else (some false))) else (some false)) else (some false)) = some r := h
 clear h
 by_cases c3 : a0 ≥ 1
 ·rw [if_pos c3] at H
  have c3b0 : decide (1 ≤ a0) = true := decide_eq_true c3
  clear c3
  by_cases c4 : a0 ≤ 16
  ·rw [if_pos c4] at H
   have c4b0 : decide (a0 ≤ 16) = true := decide_eq_true c4
   clear c4
   by_cases c5 : a0 = 0
   ·rw [if_pos c5] at H
    exact absurd H (by simp)
   ·rw [if_neg c5] at H
    have c5b0 : (a0 == 0) = false := beq_eq_false_iff_ne.mpr c5
    have c5b1 : (a0 != 0) = true := bne_iff_ne.mpr c5
    by_cases c6 : (Int.tmod a1 a0) = 0
    ·rw [if_pos c6] at H
     have c6b0 : ((Int.tmod a1 a0) == 0) = true := beq_iff_eq.mpr c6
     have c6b1 : ((Int.tmod a1 a0) != 0) = false := bne_eq_false_iff_eq.mpr c6
     clear c6
     by_cases c7 : (wrap64 (Int.tdiv a1 a0)) ≥ 1
     ·rw [if_pos c7] at H
      have c7b0 : decide (1 ≤ (wrap64 (Int.tdiv a1 a0))) = true := decide_eq_true c7
      clear c7
      obtain rfl := Option.some.inj H
      go_enter Try.func38, Try.ntmps38
      go_wp2
      go_ret
      exact ⟨by first | rfl | (simp; done) | (simp [*]; done), by repeat (first | exact Drawn0.refl _ | apply Drawn0.step)⟩
     ·rw [if_neg c7] at H
      have c7b0 : decide (1 ≤ (wrap64 (Int.tdiv a1 a0))) = false := decide_eq_false c7
      clear c7
      obtain rfl := Option.some.inj H
      go_enter Try.func38, Try.ntmps38
      go_wp2
      go_ret
      exact ⟨by first | rfl | (simp; done) | (simp [*]; done), by repeat (first | exact Drawn0.refl _ | apply Drawn0.step)⟩
    ·rw [if_neg c6] at H
     have c6b0 : ((Int.tmod a1 a0) == 0) = false := beq_eq_false_iff_ne.mpr c6
     have c6b1 : ((Int.tmod a1 a0) != 0) = true := bne_iff_ne.mpr c6
     obtain rfl := Option.some.inj H
     go_enter Try.func38, Try.ntmps38
     go_wp2
     go_ret
     exact ⟨by first | rfl | (simp; done) | (simp [*]; done), by repeat (first | exact Drawn0.refl _ | apply Drawn0.step)⟩
  ·rw [if_neg c4] at H
   have c4b0 : decide (a0 ≤ 16) = false := decide_eq_false c4
   clear c4
   obtain rfl := Option.some.inj H
   go_enter Try.func38, Try.ntmps38
   go_wp2
   go_ret
   exact ⟨by first | rfl | (simp; done) | (simp [*]; done), by repeat (first | exact Drawn0.refl _ | apply Drawn0.step)⟩
 ·rw [if_neg c3] at H
  have c3b0 : decide (1 ≤ a0) = false := decide_eq_false c3
  clear c3
  obtain rfl := Option.some.inj H
  go_enter Try.func38, Try.ntmps38
  go_wp2
  go_ret
  exact ⟨by first | rfl | (simp; done) | (simp [*]; done), by repeat (first | exact Drawn0.refl _ | apply Drawn0.step)⟩

/-! ### impl_GoodCounts: function 32 -/
mutual
def impl_GoodCounts.j0 : Nat → Bool → Int → List Int → List Int → Option (Bool)
 | 0, _, _, _, _ => none
 | k + 1, x22, x166000, x166001, x166002 => if x22 = true then (some false) else ((some (([x166001, x166002] : List (List Int)) : List (List Int))).bind fun y167 => (impl_GoodCounts.l0 k y167 (y167.length : Int) 0))
def impl_GoodCounts.l0 : Nat → List (List Int) → Int → Int → Option (Bool)
 | 0, _, _, _ => none
 | k + 1, x27, x28, x29 => if x29 < x28 then (if 0 ≤ x29 then (if x29 < (x27.length : Int) then (impl_GoodCounts.l1 k x27 x28 x29 (rd_L1 x27 x29) ((rd_L1 x27 x29).length : Int) 0) else (none)) else (none)) else (some true)
def impl_GoodCounts.l1 : Nat → List (List Int) → Int → Int → List Int → Int → Int → Option (Bool)
 | 0, _, _, _, _, _, _ => none
 | k + 1, x27, x28, x29, x33, x34, x35 => if x35 < x34 then (if 0 ≤ x35 then (if x35 < (x33.length : Int) then (if (rd x33 x35) < 0 then (some false) else (if (rd x33 x35) > 1000000 then (some false) else (impl_GoodCounts.l1 k x27 x28 x29 x33 x34 (wrap64 (x35 + 1))))) else (none)) else (none)) else (impl_GoodCounts.l0 k x27 x28 (wrap64 (x29 + 1)))
end
def impl_GoodCounts.f (k : Nat) (a0_0 : Int) (l0_1 : List Int) (l0_2 : List Int) : Option (Bool) := (impl_squared.f a0_0 (l0_1.length : Int)).bind fun t166 => (if t166 = true then (impl_GoodCounts.j0 k ((l0_2.length : Int) != (l0_1.length : Int)) a0_0 l0_1 l0_2) else (impl_GoodCounts.j0 k true a0_0 l0_1 l0_2))
theorem impl_GoodCounts.mono_l : ∀ k, (∀ y0 y1 y2 y3, LeO (impl_GoodCounts.j0 k y0 y1 y2 y3) (impl_GoodCounts.j0 (k + 1) y0 y1 y2 y3)) ∧ (∀ y0 y1 y2, LeO (impl_GoodCounts.l0 k y0 y1 y2) (impl_GoodCounts.l0 (k + 1) y0 y1 y2)) ∧ (∀ y0 y1 y2 y3 y4 y5, LeO (impl_GoodCounts.l1 k y0 y1 y2 y3 y4 y5) (impl_GoodCounts.l1 (k + 1) y0 y1 y2 y3 y4 y5))
 | 0 => ⟨fun _ _ _ _ r h => by simp [impl_GoodCounts.j0] at h, fun _ _ _ r h => by simp [impl_GoodCounts.l0] at h, fun _ _ _ _ _ _ r h => by simp [impl_GoodCounts.l1] at h⟩
 | k + 1 => by
  obtain ⟨ih0, ih1, ih2⟩ := impl_GoodCounts.mono_l k
  refine ⟨?_, ?_, ?_⟩
  ·intro y0 y1 y2 y3
   unfold impl_GoodCounts.j0
   repeat' first
   | (with_reducible exact ih0 _ _ _ _)
   | (with_reducible exact ih1 _ _ _)
   | (with_reducible exact ih2 _ _ _ _ _ _)
   | (with_reducible exact LeO.refl _)
   | (with_reducible exact LeO.none _)
   | (with_reducible refine LeO.ite ?_ ?_)
   | (with_reducible refine LeO.bind ?_ (fun _ => ?_))
   | exact ih0 _ _ _ _
   | exact ih1 _ _ _
   | exact ih2 _ _ _ _ _ _
   | exact LeO.none _
   | refine LeO.ite ?_ ?_
   | refine LeO.bind ?_ (fun _ => ?_)
  ·intro y0 y1 y2
   unfold impl_GoodCounts.l0
   repeat' first
   | (with_reducible exact ih0 _ _ _ _)
   | (with_reducible exact ih1 _ _ _)
   | (with_reducible exact ih2 _ _ _ _ _ _)
   | (with_reducible exact LeO.refl _)
   | (with_reducible exact LeO.none _)
   | (with_reducible refine LeO.ite ?_ ?_)
   | (with_reducible refine LeO.bind ?_ (fun _ => ?_))
   | exact ih0 _ _ _ _
   | exact ih1 _ _ _
   | exact ih2 _ _ _ _ _ _
   | exact LeO.none _
   | refine LeO.ite ?_ ?_
   | refine LeO.bind ?_ (fun _ => ?_)
  ·intro y0 y1 y2 y3 y4 y5
   unfold impl_GoodCounts.l1
   repeat' first
   | (with_reducible exact ih0 _ _ _ _)
   | (with_reducible exact ih1 _ _ _)
   | (with_reducible exact ih2 _ _ _ _ _ _)
   | (with_reducible exact LeO.refl _)
   | (with_reducible exact LeO.none _)
   | (with_reducible refine LeO.ite ?_ ?_)
   | (with_reducible refine LeO.bind ?_ (fun _ => ?_))
   | exact ih0 _ _ _ _
   | exact ih1 _ _ _
   | exact ih2 _ _ _ _ _ _
   | exact LeO.none _
   | refine LeO.ite ?_ ?_
   | refine LeO.bind ?_ (fun _ => ?_)
theorem impl_GoodCounts.mono : ∀ a0 a1 a2 k, LeO (impl_GoodCounts.f k a0 a1 a2) (impl_GoodCounts.f (k + 1) a0 a1 a2) := by
 intro a0 a1 a2 k
 obtain ⟨ih0, ih1, ih2⟩ := impl_GoodCounts.mono_l k
 unfold impl_GoodCounts.f
 repeat' first
   | (with_reducible exact ih0 _ _ _ _)
   | (with_reducible exact ih1 _ _ _)
   | (with_reducible exact ih2 _ _ _ _ _ _)
   | (with_reducible exact LeO.refl _)
   | (with_reducible exact LeO.none _)
   | (with_reducible refine LeO.ite ?_ ?_)
   | (with_reducible refine LeO.bind ?_ (fun _ => ?_))
   | exact ih0 _ _ _ _
   | exact ih1 _ _ _
   | exact ih2 _ _ _ _ _ _
   | exact LeO.none _
   | refine LeO.ite ?_ ?_
   | refine LeO.bind ?_ (fun _ => ?_)
set_option maxHeartbeats 8000000 in
set_option maxRecDepth 100000 in
theorem impl_GoodCounts.calls (k : Nat) (a0_0 : Int) (P0_1_ : Nat → Prop) (A0_1 : Option Addr) (c0_1 : Nat) (l0_1 : List Int) (P0_2_ : Nat → Prop) (A0_2 : Option Addr) (c0_2 : Nat) (l0_2 : List Int) (r : Bool) (w : World) (hs0_1 : Kd.V (Kd.int .i64) 3 w w.heap.size (fun k_ => P0_1_ k_) (.slice A0_1 l0_1.length c0_1) l0_1) (hs0_2 : Kd.V (Kd.int .i64) 3 w w.heap.size (fun k_ => P0_2_ k_) (.slice A0_2 l0_2.length c0_2) l0_2) (h : impl_GoodCounts.f k a0_0 l0_1 l0_2 = some r) :
  Calls Try.prog 32 #[.agg #[.int .i64 a0_0, .slice A0_1 l0_1.length c0_1, .slice A0_2 l0_2.length c0_2]] w fun e w' => e = .returned (.bool r) ∧ Below w.heap.size w w' := by
 have hu31 := Try.underlying31
 have HO0_1 := a_ (show Kd.V (Kd.int .i64) 3 w w.heap.size (fun k_ => ((P0_1_ k_ ∨ P0_2_ k_) ∨ w.heap.size ≤ k_)) (.slice A0_1 l0_1.length c0_1) l0_1 from Kd.V_mono hs0_1 (fun k_ hk => .inl (.inl hk)))
 have HO0_2 := a_ (show Kd.V (Kd.int .i64) 3 w w.heap.size (fun k_ => ((P0_1_ k_ ∨ P0_2_ k_) ∨ w.heap.size ≤ k_)) (.slice A0_2 l0_2.length c0_2) l0_2 from Kd.V_mono hs0_2 (fun k_ hk => .inl (.inr hk)))
 have HB := a_ (Below.refl w.heap.size w)
 have H : ((impl_squared.f a0_0 (l0_1.length : Int)).bind fun t166 => (if t166 = true then (impl_GoodCounts.j0 k ((l0_2.length : Int) != (l0_1.length : Int)) a0_0 l0_1 l0_2) else (impl_GoodCounts.j0 k true a0_0 l0_1 l0_2))) = some r := h
 clear h
 have HC2 := Aside0.mk H
 clear H
 go_enter Try.func32, Try.ntmps32
 go_upto_region 1 with (first | ((with_reducible refine gate_dst (N := 1) rfl ?_); (try (refine gate_guard (by rfl) ?_; dsimp only)); refine box_event ?hg (N := 1) ?hd (cs := #[.int .i64 a0_0, .slice A0_1 l0_1.length c0_1, .slice A0_2 l0_2.length c0_2]) (t := 31) ?hr ?_; (case hd => rfl); (case hg => rfl); (case hr => first | (go_simp; done) | (go_simp; rfl)); intro gb165 hg w3 hbox hb; replace HO0_1 := a_ (Kd.V_below (Kd.V_elderB (by (with_reducible repeat (first | apply Kd.V_alloc | apply Kd.V_drewN | apply Kd.V_drew)); exact HO0_1.out) gb165 (Nat.le_of_eq hg.symm)) hb); replace HO0_2 := a_ (Kd.V_below (Kd.V_elderB (by (with_reducible repeat (first | apply Kd.V_alloc | apply Kd.V_drewN | apply Kd.V_drew)); exact HO0_2.out) gb165 (Nat.le_of_eq hg.symm)) hb); have BK165 := a_ (hbox); have GW165 := a_ (bsg hg HB.out); have GE165 := a_ (bsg hg HB.out); replace HB := a_ (below_step (un HB.out) hb); clear hb hbox hg))
 (try simp only [Act.put, sB, sC, sD])
 go_cut [22] (fun v22 wc => ∃ (kq : Nat) (x22_1 : Bool), v22 = .bool x22_1 ∧ Aside0 (impl_GoodCounts.j0 kq x22_1 a0_0 l0_1 l0_2 = some r) ∧ Aside0 (kq ≤ k) ∧ Aside0 (Kd.V (Kd.int .i64) 3 wc w.heap.size (fun k_ => ((P0_1_ k_ ∨ P0_2_ k_) ∨ w.heap.size ≤ k_) ∧ k_ ≠ gb165) (.slice A0_1 l0_1.length c0_1) l0_1) ∧ Aside0 (Kd.V (Kd.int .i64) 3 wc w.heap.size (fun k_ => ((P0_1_ k_ ∨ P0_2_ k_) ∨ w.heap.size ≤ k_) ∧ k_ ≠ gb165) (.slice A0_2 l0_2.length c0_2) l0_2) ∧ Aside0 (wc.heap[gb165]? = some (.cells #[.int .i64 a0_0, (.slice A0_1 l0_1.length c0_1), (.slice A0_2 l0_2.length c0_2)] 31 (0, 0))) ∧ Aside0 (Below w.heap.size w wc))
 case first =>
  have H := HC2.out
  clear HC2
  replace H := Option.bind_eq_some_iff.mp H
  obtain ⟨t166, A40, H⟩ := H
  have A4 := Aside0.mk A40
  clear A40
  by_cases c5 : t166 = true
  ·subst c5
   have H1 : (impl_GoodCounts.j0 k ((l0_2.length : Int) != (l0_1.length : Int)) a0_0 l0_1 l0_2) = some r := by rw [if_pos rfl] at H; exact H
   clear H
   have H := H1
   clear H1
   have H' := Aside0.mk H
   clear H
   have hcz6_0 : _ = some (Value.int .i64 a0_0) := (blk_cell BK165.out 0).trans rfl
   have hcz6_1 : _ = some (Value.slice A0_1 l0_1.length c0_1) := (blk_cell BK165.out 1).trans rfl
   have hcz6_2 : _ = some (Value.slice A0_2 l0_2.length c0_2) := (blk_cell BK165.out 2).trans rfl
   have hfz6_0 := blk_frozen BK165.out 0
   have hfz6_1 := blk_frozen BK165.out 1
   have hfz6_2 := blk_frozen BK165.out 2
   go_wp2_with (first | ((with_reducible refine gate_callee (f := 38) rfl ?_); refine goesL_ (some 12) rfl rfl Try.func38 (by kernel_rfl) rfl #[.int .i64 a0_0, .int .i64 (l0_1.length : Int)] rfl (by (try simp only [lA, lB, lC]); first | done | rfl | (simp only [lD, lE]; rfl)) ?_; (with_reducible refine (impl_squared.calls a0_0 (l0_1.length : Int) true _ A4.out).mono ?_); rintro e w' ⟨rfl, ⟨nd, rfl⟩⟩; refine ⟨_, rfl, ?_⟩))
   go_meet
   case rel => exact ⟨_, (((l0_2.length : Int) != (l0_1.length : Int))), (by first | rfl | (simp; done) | (simp [*]; done)), H', ⟨by first | omega | exact Nat.le_refl _⟩, ⟨by (with_reducible repeat (first | apply Kd.V_alloc | apply Kd.V_drewN | apply Kd.V_drew)); exact HO0_1.out⟩, ⟨by (with_reducible repeat (first | apply Kd.V_alloc | apply Kd.V_drewN | apply Kd.V_drew)); exact HO0_2.out⟩, ⟨pk BK165.out⟩, ⟨by repeat (with_reducible first | exact HB.out | refine bz ?_ (by assumption) | apply bA | apply bN | apply bD)⟩⟩
  ·replace c5 := Bool.eq_false_iff.mpr c5
   subst c5
   have H1 : (impl_GoodCounts.j0 k true a0_0 l0_1 l0_2) = some r := by rw [if_neg (show ¬ (false = true) by decide)] at H; exact H
   clear H
   have H := H1
   clear H1
   have H' := Aside0.mk H
   clear H
   have hcz7_0 : _ = some (Value.int .i64 a0_0) := (blk_cell BK165.out 0).trans rfl
   have hcz7_1 : _ = some (Value.slice A0_1 l0_1.length c0_1) := (blk_cell BK165.out 1).trans rfl
   have hcz7_2 : _ = some (Value.slice A0_2 l0_2.length c0_2) := (blk_cell BK165.out 2).trans rfl
   have hfz7_0 := blk_frozen BK165.out 0
   have hfz7_1 := blk_frozen BK165.out 1
   have hfz7_2 := blk_frozen BK165.out 2
   go_wp2_with (first | ((with_reducible refine gate_callee (f := 38) rfl ?_); refine goesL_ (some 12) rfl rfl Try.func38 (by kernel_rfl) rfl #[.int .i64 a0_0, .int .i64 (l0_1.length : Int)] rfl (by (try simp only [lA, lB, lC]); first | done | rfl | (simp only [lD, lE]; rfl)) ?_; (with_reducible refine (impl_squared.calls a0_0 (l0_1.length : Int) false _ A4.out).mono ?_); rintro e w' ⟨rfl, ⟨nd, rfl⟩⟩; refine ⟨_, rfl, ?_⟩))
   go_meet
   case rel => exact ⟨_, (true), (by first | rfl | (simp; done) | (simp [*]; done)), H', ⟨by first | omega | exact Nat.le_refl _⟩, ⟨by (with_reducible repeat (first | apply Kd.V_alloc | apply Kd.V_drewN | apply Kd.V_drew)); exact HO0_1.out⟩, ⟨by (with_reducible repeat (first | apply Kd.V_alloc | apply Kd.V_drewN | apply Kd.V_drew)); exact HO0_2.out⟩, ⟨pk BK165.out⟩, ⟨by repeat (with_reducible first | exact HB.out | refine bz ?_ (by assumption) | apply bA | apply bN | apply bD)⟩⟩
 case rest =>
  clear HC2
  try clear p2; try clear c3; try clear c5; try clear hcz6_0; try clear hcz6_1; try clear hcz6_2; try clear hcz7_0; try clear hcz7_1; try clear hcz7_2; try clear hfz6_0; try clear hfz6_1; try clear hfz6_2; try clear hfz7_0; try clear hfz7_1; try clear hfz7_2
  obtain ⟨kq, x22_1, rfl, HA, HJ1, HO_166001, HO_166002, BK165, HB⟩ := hcut
  cases kq with
  | zero => exact absurd HA.out (by simp [impl_GoodCounts.j0])
  | succ kj1 =>
   have H := HA.out
   clear HA
   simp only [impl_GoodCounts.j0] at H
   by_cases c8 : x22_1 = true
   ·subst c8
    have H1 : (some false) = some r := by rw [if_pos rfl] at H; exact H
    clear H
    have H := H1
    clear H1
    obtain rfl := Option.some.inj H
    go_wp2
    go_ret
    exact ⟨by first | rfl | (simp [errW_none, errW_some] <;> rfl) | (simp [*, errW_none, errW_some] <;> rfl), by repeat (with_reducible first | exact HB.out | refine bz ?_ (by assumption) | apply bA | apply bN | apply bD)⟩
   ·replace c8 := Bool.eq_false_iff.mpr c8
    subst c8
    have H1 : ((some (([l0_1, l0_2] : List (List Int)) : List (List Int))).bind fun y167 => (impl_GoodCounts.l0 kj1 y167 (y167.length : Int) 0)) = some r := by rw [if_neg (show ¬ (false = true) by decide)] at H; exact H
    clear H
    have H := H1
    clear H1
    obtain ⟨y167, hy167⟩ : ∃ y_ : List (List Int), y_ = ([l0_1, l0_2] : List (List Int)) := ⟨_, rfl⟩
    replace H : (impl_GoodCounts.l0 kj1 y167 (y167.length : Int) 0) = some r := by first | (rw [hy167]; with_reducible exact H) | (have H2_ := (Option.bind_some _ _).symm.trans H; rw [hy167]; with_reducible exact H2_) | (have H2_ := (Option.bind_some _ _).symm.trans H; with_reducible exact H2_) | with_reducible exact H | (rw [hy167]; exact H) | exact H
    have Ny167 := Aside0.mk hy167
    clear hy167
    have H' := Aside0.mk H
    clear H
    have hcz9_0 : wc.cell? ⟨gb165, 0, none⟩ = some (.int .i64 a0_0) := (blk_cell BK165.out 0).trans rfl
    have hcz9_1 : wc.cell? ⟨gb165, 1, none⟩ = some (.slice A0_1 l0_1.length c0_1) := (blk_cell BK165.out 1).trans rfl
    have hcz9_2 : wc.cell? ⟨gb165, 2, none⟩ = some (.slice A0_2 l0_2.length c0_2) := (blk_cell BK165.out 2).trans rfl
    have hfz9_0 := blk_frozen BK165.out 0
    have hfz9_1 := blk_frozen BK165.out 1
    have hfz9_2 := blk_frozen BK165.out 2
    go_wp2_with (first | ((with_reducible refine gate_dst (N := 27) rfl ?_); (try (refine gate_guard (by rfl) ?_; dsimp only)); refine Kd.N_lit (Kd.slice 3 (Kd.int .i64)) _ 27 ?hg (N' := 27) ?hd (xs := ([l0_1, l0_2] : List (List Int))) (inner := [.slice A0_1 l0_1.length c0_1, .slice A0_2 l0_2.length c0_2]) (ok := (fun k_ => ((P0_1_ k_ ∨ P0_2_ k_) ∨ w.heap.size ≤ k_) ∧ k_ ≠ gb165)) (okp := (fun k_ => ((P0_1_ k_ ∨ P0_2_ k_) ∨ w.heap.size ≤ k_) ∧ k_ ≠ gb165)) ?hr ?hp (fun _ hk => hk) ((show ∀ k_, wc.heap.size ≤ k_ → (fun k_ => ((P0_1_ k_ ∨ P0_2_ k_) ∨ w.heap.size ≤ k_) ∧ k_ ≠ gb165) k_ from fun k_ hk => ⟨(.inr (Nat.le_trans (below_size (by repeat (with_reducible first | exact HB.out | refine bz ?_ (by assumption) | apply bA | apply bN | apply bD))) hk)), Kd.freshB (g := gb165) (o := .cells #[.int .i64 a0_0, .slice A0_1 l0_1.length c0_1, .slice A0_2 l0_2.length c0_2] 31 (0, 0)) (pk BK165.out) k_ hk⟩) _ (Nat.le_refl _)) (Below.refl _ _) (Nat.le_refl _) (by simp) ?_; (case hd => rfl); (case hg => rfl); (case hr => first | (go_simp; done) | (go_simp; rfl)); (case hp => exact (Reps.one (show Kd.FK (Kd.slice 3 (Kd.int .i64)) _ _ l0_1 [.slice A0_1 l0_1.length c0_1] from (Kd.FK_slice_mk (Kd.V_reads' (Kd.V_mono (ok' := (fun k_ => ((P0_1_ k_ ∨ P0_2_ k_) ∨ w.heap.size ≤ k_) ∧ k_ ≠ gb165)) (HO_166001.out) (fun _ hk => hk))).2.1 (Kd.V_F (Kd.V_mono (ok' := (fun k_ => ((P0_1_ k_ ∨ P0_2_ k_) ∨ w.heap.size ≤ k_) ∧ k_ ≠ gb165)) (HO_166001.out) (fun _ hk => hk))))) (Reps.one (show Kd.FK (Kd.slice 3 (Kd.int .i64)) _ _ l0_2 [.slice A0_2 l0_2.length c0_2] from (Kd.FK_slice_mk (Kd.V_reads' (Kd.V_mono (ok' := (fun k_ => ((P0_1_ k_ ∨ P0_2_ k_) ∨ w.heap.size ≤ k_) ∧ k_ ≠ gb165)) (HO_166002.out) (fun _ hk => hk))).2.1 (Kd.V_F (Kd.V_mono (ok' := (fun k_ => ((P0_1_ k_ ∨ P0_2_ k_) ∨ w.heap.size ≤ k_) ∧ k_ ≠ gb165)) (HO_166002.out) (fun _ hk => hk))))) (Reps.none _ _)))); intro v168 w10 ho11 hb hg_ hnew_; clear hg_ hnew_; (first | rw [← Ny167.out] at ho11 | (simp only [Int.reduceToNat] at ho11; rw [← Ny167.out] at ho11)); replace HO_166001 := a_ (Kd.V_elder' (by (with_reducible repeat (first | apply Kd.V_alloc | apply Kd.V_drewN | apply Kd.V_drew)); exact HO_166001.out) (Kd.N_base ho11) hb); replace HO_166002 := a_ (Kd.V_elder' (by (with_reducible repeat (first | apply Kd.V_alloc | apply Kd.V_drewN | apply Kd.V_drew)); exact HO_166002.out) (Kd.N_base ho11) hb); have HO169 := a_ (Kd.N_lower ho11 (bs HB.out)); replace BK165 := a_ (blk_below (pk BK165.out) hb); replace HB := a_ (below_step (by repeat (with_reducible first | exact HB.out | refine bz ?_ (by assumption) | apply bA | apply bN | apply bD)) hb); clear hb ho11; obtain ⟨Ao12, co12, eo12⟩ := Kd.N_slice HO169.out; subst eo12))
    go_loopg [29] kj1 (fun kq v29 w' => ∃ (x29_2 : Int), v29 = .int .i64 x29_2 ∧ Aside0 (impl_GoodCounts.l0 kq y167 (y167.length : Int) x29_2 = some r) ∧ Aside0 (kq ≤ kj1) ∧ Aside0 (Kd.N (Kd.slice 3 (Kd.int .i64)) 27 w' w.heap.size (fun k_ => ((P0_1_ k_ ∨ P0_2_ k_) ∨ w.heap.size ≤ k_) ∧ k_ ≠ gb165) (.slice Ao12 y167.length co12) y167) ∧ Aside0 (Kd.V (Kd.int .i64) 3 w' w.heap.size (fun k_ => ((P0_1_ k_ ∨ P0_2_ k_) ∨ w.heap.size ≤ k_) ∧ some k_ ≠ ((.slice Ao12 y167.length co12) : Value).ownBlock ∧ k_ ≠ gb165) (.slice A0_1 l0_1.length c0_1) l0_1) ∧ Aside0 (Kd.V (Kd.int .i64) 3 w' w.heap.size (fun k_ => ((P0_1_ k_ ∨ P0_2_ k_) ∨ w.heap.size ≤ k_) ∧ some k_ ≠ ((.slice Ao12 y167.length co12) : Value).ownBlock ∧ k_ ≠ gb165) (.slice A0_2 l0_2.length c0_2) l0_2) ∧ Aside0 (w'.heap[gb165]? = some (.cells #[.int .i64 a0_0, (.slice A0_1 l0_1.length c0_1), (.slice A0_2 l0_2.length c0_2)] 31 (0, 0))) ∧ Aside0 (Below w.heap.size w w'))
    case atStart => exact ⟨(0), (by first | rfl | (simp; done) | (simp [*]; done)), H', ⟨Nat.le_refl _⟩, ⟨by (with_reducible repeat (first | apply Kd.N_alloc | apply Kd.N_drewN | apply Kd.N_drew)); exact HO169.out⟩, ⟨by (with_reducible repeat (first | apply Kd.V_alloc | apply Kd.V_drewN | apply Kd.V_drew)); exact Kd.V_mono HO_166001.out (fun _ hk => ⟨hk.1.1, hk.2, hk.1.2⟩)⟩, ⟨by (with_reducible repeat (first | apply Kd.V_alloc | apply Kd.V_drewN | apply Kd.V_drew)); exact Kd.V_mono HO_166002.out (fun _ hk => ⟨hk.1.1, hk.2, hk.1.2⟩)⟩, ⟨pk BK165.out⟩, ⟨by repeat (with_reducible first | exact HB.out | refine bz ?_ (by assumption) | apply bA | apply bN | apply bD)⟩⟩
    case round =>
     clear H'
     try clear p2; try clear c3; try clear c5; try clear c8; try clear hcz6_0; try clear hcz6_1; try clear hcz6_2; try clear hcz7_0; try clear hcz7_1; try clear hcz7_2; try clear hcz9_0; try clear hcz9_1; try clear hcz9_2; try clear hfz6_0; try clear hfz6_1; try clear hfz6_2; try clear hfz7_0; try clear hfz7_1; try clear hfz7_2; try clear hfz9_0; try clear hfz9_1; try clear hfz9_2; try clear p2
     obtain ⟨x29_2, rfl, HA, HK2, HO_27, HO_166001, HO_166002, BK165, HB⟩ := hrel
     cases gk with
     | zero => exact absurd HA.out (by simp [impl_GoodCounts.l0])
     | succ k2 =>
      have H := HA.out
      clear HA
      simp only [impl_GoodCounts.l0] at H
      by_cases c13 : x29_2 < (y167.length : Int)
      ·rw [if_pos c13] at H
       have c13b0 : decide (x29_2 < (y167.length : Int)) = true := decide_eq_true c13
       clear c13
       by_cases c14 : 0 ≤ x29_2
       ·rw [if_pos c14] at H
        have c14b0 : decide (0 ≤ x29_2) = true := decide_eq_true c14
        clear c14
        by_cases c15 : x29_2 < (y167.length : Int)
        ·rw [if_pos c15] at H
         have c15b0 : decide (x29_2 < (y167.length : Int)) = true := decide_eq_true c15
         clear c15
         have H' := Aside0.mk H
         clear H
         have p170 : 0 ≤ (x29_2 : Int) := of_decide_eq_true (by first | (with_reducible assumption) | assumption)
         have q170 : x29_2 < (y167.length : Int) := of_decide_eq_true (by first | (with_reducible assumption) | assumption)
         obtain ⟨ad170, A170_0, c170_0, e170, hx170_0, hl170_0, hi170_0⟩ := at_L1 (Kd.N_reads' HO_27.out).2.2 x29_2 p170 q170
         cases e170
         obtain ⟨ce170, hce170, hMe170, hcc170⟩ := Kd.N_get HO_27.out [] x29_2 p170 (by first | exact q170 | exact of_decide_eq_true (by first | (with_reducible assumption) | assumption) | (have e_ := (Kd.N_reads' HO_27.out).1; omega))
         obtain ⟨ua170_0, uc170_0, rfl, ul170_0, ge170_0⟩ := Kd.FK_slice_open hMe170
         have hv170_0 := hcc170 0 _ rfl
         rw [Nat.add_zero, show ((Kd.slice 3 (Kd.int .i64))).sz = 1 from rfl, Nat.mul_one] at hv170_0
         replace hv170_0 := Option.some.inj (hv170_0.symm.trans hx170_0)
         injection hv170_0 with hva_ hvn_ hvc_
         rw [hva_] at ge170_0
         rw [hvc_] at ul170_0
         have HL170_0 := a_ (show Kd.V (Kd.int .i64) 3 _ w.heap.size _ _ (rd_L1 y167 x29_2) from Kd.V_mk ul170_0 ge170_0)
         clear hva_ hvn_ hvc_ ge170_0 ul170_0
         clear hcc170 hce170
         have HR170_0 := Aside0.mk hi170_0
         have HC170_0 := Aside0.mk hl170_0
         clear hi170_0 hl170_0
         replace p170 := eq_true p170
         replace q170 := eq_true q170
         go_wp2
         go_loopg [35] k2 (fun kq v35 w' => ∃ (x35_3 : Int), v35 = .int .i64 x35_3 ∧ Aside0 (impl_GoodCounts.l1 kq y167 (y167.length : Int) x29_2 (rd_L1 y167 x29_2) ((rd_L1 y167 x29_2).length : Int) x35_3 = some r) ∧ Aside0 (kq ≤ k2) ∧ Aside0 (Kd.N (Kd.slice 3 (Kd.int .i64)) 27 w' w.heap.size (fun k_ => ((P0_1_ k_ ∨ P0_2_ k_) ∨ w.heap.size ≤ k_) ∧ k_ ≠ gb165) (.slice (some ad170) y167.length co12) y167) ∧ Aside0 (Kd.V (Kd.int .i64) 3 w' w.heap.size (fun k_ => ((P0_1_ k_ ∨ P0_2_ k_) ∨ w.heap.size ≤ k_) ∧ some k_ ≠ ((.slice (some ad170) y167.length co12) : Value).ownBlock ∧ k_ ≠ gb165) (.slice A0_1 l0_1.length c0_1) l0_1) ∧ Aside0 (Kd.V (Kd.int .i64) 3 w' w.heap.size (fun k_ => ((P0_1_ k_ ∨ P0_2_ k_) ∨ w.heap.size ≤ k_) ∧ some k_ ≠ ((.slice (some ad170) y167.length co12) : Value).ownBlock ∧ k_ ≠ gb165) (.slice A0_2 l0_2.length c0_2) l0_2) ∧ Aside0 (w'.heap[gb165]? = some (.cells #[.int .i64 a0_0, (.slice A0_1 l0_1.length c0_1), (.slice A0_2 l0_2.length c0_2)] 31 (0, 0))) ∧ Aside0 (Kd.C (Kd.int .i64) w' A170_0 (rd_L1 y167 x29_2).length (rd_L1 y167 x29_2)) ∧ Aside0 (Below w.heap.size w w'))
         case atStart => exact ⟨(0), (by first | rfl | (simp; done) | (simp [*]; done)), H', ⟨Nat.le_refl _⟩, ⟨by (with_reducible repeat (first | apply Kd.N_alloc | apply Kd.N_drewN | apply Kd.N_drew)); exact HO_27.out⟩, ⟨by (with_reducible repeat (first | apply Kd.V_alloc | apply Kd.V_drewN | apply Kd.V_drew)); exact HO_166001.out⟩, ⟨by (with_reducible repeat (first | apply Kd.V_alloc | apply Kd.V_drewN | apply Kd.V_drew)); exact HO_166002.out⟩, ⟨pk BK165.out⟩, ⟨by repeat (first | (with_reducible exact HR170_0.out) | (with_reducible refine Kd.C_alloc ?_ _) | (with_reducible refine Kd.C_drewN ?_ _) | (with_reducible refine Kd.C_drew ?_) | exact HR170_0.out)⟩, ⟨by repeat (with_reducible first | exact HB.out | refine bz ?_ (by assumption) | apply bA | apply bN | apply bD)⟩⟩
         case round =>
          clear H'
          try clear c1; try clear p1; try clear q1; try clear hx1; try clear p2; try clear c3; try clear c5; try clear c8; try clear c13; try clear c13b0; try clear c14; try clear c14b0; try clear c15; try clear c15b0; try clear hcz6_0; try clear hcz6_1; try clear hcz6_2; try clear hcz7_0; try clear hcz7_1; try clear hcz7_2; try clear hcz9_0; try clear hcz9_1; try clear hcz9_2; try clear hfz6_0; try clear hfz6_1; try clear hfz6_2; try clear hfz7_0; try clear hfz7_1; try clear hfz7_2; try clear hfz9_0; try clear hfz9_1; try clear hfz9_2; try clear hx170_0; try clear p170; try clear p2; try clear q170
          obtain ⟨x35_3, rfl, HA, HK3, HO_27, HO_166001, HO_166002, BK165, HR170_0, HB⟩ := hrel
          cases gk with
          | zero => exact absurd HA.out (by simp [impl_GoodCounts.l1])
          | succ k3 =>
           have H := HA.out
           clear HA
           simp only [impl_GoodCounts.l1] at H
           by_cases c16 : x35_3 < ((rd_L1 y167 x29_2).length : Int)
           ·rw [if_pos c16] at H
            have c16b0 : decide (x35_3 < ((rd_L1 y167 x29_2).length : Int)) = true := decide_eq_true c16
            clear c16
            by_cases c17 : 0 ≤ x35_3
            ·rw [if_pos c17] at H
             have c17b0 : decide (0 ≤ x35_3) = true := decide_eq_true c17
             clear c17
             by_cases c18 : x35_3 < ((rd_L1 y167 x29_2).length : Int)
             ·rw [if_pos c18] at H
              have c18b0 : decide (x35_3 < ((rd_L1 y167 x29_2).length : Int)) = true := decide_eq_true c18
              clear c18
              by_cases c19 : (rd (rd_L1 y167 x29_2) x35_3) < 0
              ·rw [if_pos c19] at H
               have c19b0 : decide ((rd (rd_L1 y167 x29_2) x35_3) < 0) = true := decide_eq_true c19
               clear c19
               obtain rfl := Option.some.inj H
               have p171 : 0 ≤ (x35_3 : Int) := of_decide_eq_true (by first | (with_reducible assumption) | assumption)
               have q171 : x35_3 < ((rd_L1 y167 x29_2).length : Int) := of_decide_eq_true (by first | (with_reducible assumption) | assumption)
               obtain ⟨ad171, e171, hx171_0⟩ := Kd.at_int HR170_0.out x35_3 p171 q171
               cases e171
               replace p171 := eq_true p171
               replace q171 := eq_true q171
               go_wp2
               go_ret
               exact ⟨by first | rfl | (simp [errW_none, errW_some] <;> rfl) | (simp [*, errW_none, errW_some] <;> rfl), by repeat (with_reducible first | exact HB.out | refine bz ?_ (by assumption) | apply bA | apply bN | apply bD)⟩
              ·rw [if_neg c19] at H
               have c19b0 : decide ((rd (rd_L1 y167 x29_2) x35_3) < 0) = false := decide_eq_false c19
               clear c19
               by_cases c20 : (rd (rd_L1 y167 x29_2) x35_3) > 1000000
               ·rw [if_pos c20] at H
                have c20b0 : decide (1000000 < (rd (rd_L1 y167 x29_2) x35_3)) = true := decide_eq_true c20
                clear c20
                obtain rfl := Option.some.inj H
                have p171 : 0 ≤ (x35_3 : Int) := of_decide_eq_true (by first | (with_reducible assumption) | assumption)
                have q171 : x35_3 < ((rd_L1 y167 x29_2).length : Int) := of_decide_eq_true (by first | (with_reducible assumption) | assumption)
                obtain ⟨ad171, e171, hx171_0⟩ := Kd.at_int HR170_0.out x35_3 p171 q171
                cases e171
                replace p171 := eq_true p171
                replace q171 := eq_true q171
                go_wp2
                go_ret
                exact ⟨by first | rfl | (simp [errW_none, errW_some] <;> rfl) | (simp [*, errW_none, errW_some] <;> rfl), by repeat (with_reducible first | exact HB.out | refine bz ?_ (by assumption) | apply bA | apply bN | apply bD)⟩
               ·rw [if_neg c20] at H
                have c20b0 : decide (1000000 < (rd (rd_L1 y167 x29_2) x35_3)) = false := decide_eq_false c20
                clear c20
                have H' := Aside0.mk H
                clear H
                have p171 : 0 ≤ (x35_3 : Int) := of_decide_eq_true (by first | (with_reducible assumption) | assumption)
                have q171 : x35_3 < ((rd_L1 y167 x29_2).length : Int) := of_decide_eq_true (by first | (with_reducible assumption) | assumption)
                obtain ⟨ad171, e171, hx171_0⟩ := Kd.at_int HR170_0.out x35_3 p171 q171
                cases e171
                replace p171 := eq_true p171
                replace q171 := eq_true q171
                go_wp2
                go_roundg k3
                case measure => have := HJ1.out; have := HK2.out; have := HK3.out; omega
                case rel => exact ⟨(wrap64 (x35_3 + 1)), (by first | rfl | (simp; done) | (simp [*]; done)), H', ⟨by have := HJ1.out; have := HK2.out; have := HK3.out; omega⟩, ⟨by (with_reducible repeat (first | apply Kd.N_alloc | apply Kd.N_drewN | apply Kd.N_drew)); exact HO_27.out⟩, ⟨by (with_reducible repeat (first | apply Kd.V_alloc | apply Kd.V_drewN | apply Kd.V_drew)); exact HO_166001.out⟩, ⟨by (with_reducible repeat (first | apply Kd.V_alloc | apply Kd.V_drewN | apply Kd.V_drew)); exact HO_166002.out⟩, ⟨pk BK165.out⟩, ⟨by repeat (first | (with_reducible exact HR170_0.out) | (with_reducible refine Kd.C_alloc ?_ _) | (with_reducible refine Kd.C_drewN ?_ _) | (with_reducible refine Kd.C_drew ?_) | exact HR170_0.out)⟩, ⟨by repeat (with_reducible first | exact HB.out | refine bz ?_ (by assumption) | apply bA | apply bN | apply bD)⟩⟩
             ·rw [if_neg c18] at H
              exact absurd H (by simp)
            ·rw [if_neg c17] at H
             exact absurd H (by simp)
           ·rw [if_neg c16] at H
            have c16b0 : decide (x35_3 < ((rd_L1 y167 x29_2).length : Int)) = false := decide_eq_false c16
            clear c16
            have H' := Aside0.mk H
            clear H
            go_wp2
            go_roundg k3
            case measure => have := HJ1.out; have := HK2.out; have := HK3.out; omega
            case rel => exact ⟨(wrap64 (x29_2 + 1)), (by first | rfl | (simp; done) | (simp [*]; done)), H', ⟨by have := HJ1.out; have := HK2.out; have := HK3.out; omega⟩, ⟨by (with_reducible repeat (first | apply Kd.N_alloc | apply Kd.N_drewN | apply Kd.N_drew)); exact HO_27.out⟩, ⟨by (with_reducible repeat (first | apply Kd.V_alloc | apply Kd.V_drewN | apply Kd.V_drew)); exact HO_166001.out⟩, ⟨by (with_reducible repeat (first | apply Kd.V_alloc | apply Kd.V_drewN | apply Kd.V_drew)); exact HO_166002.out⟩, ⟨pk BK165.out⟩, ⟨by repeat (with_reducible first | exact HB.out | refine bz ?_ (by assumption) | apply bA | apply bN | apply bD)⟩⟩
        ·rw [if_neg c15] at H
         exact absurd H (by simp)
       ·rw [if_neg c14] at H
        exact absurd H (by simp)
      ·rw [if_neg c13] at H
       have c13b0 : decide (x29_2 < (y167.length : Int)) = false := decide_eq_false c13
       clear c13
       obtain rfl := Option.some.inj H
       go_wp2
       go_ret
       exact ⟨by first | rfl | (simp [errW_none, errW_some] <;> rfl) | (simp [*, errW_none, errW_some] <;> rfl), by repeat (with_reducible first | exact HB.out | refine bz ?_ (by assumption) | apply bA | apply bN | apply bD)⟩

end Go.Proofs.Ytgkjnocjdonjdaa.PFnCounts
