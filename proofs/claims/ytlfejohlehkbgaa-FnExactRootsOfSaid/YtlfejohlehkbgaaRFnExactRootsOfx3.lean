-- Written by a program of this session out of the loaded functions' print; helper lemmas as print.sh lays them.
import Derived.Test.YtlfejohlehkbgaaUp2
import Derived.Test.YtlfejohlehkbgaaUp
import Derived.Test.YtlfejohlehkbgaaRel
import Derived.Test.YtlfejohlehkbgaaRFnExactRootsOfx0
import Derived.Test.YtlfejohlehkbgaaRFnExactRootsOfx2
namespace Go.Proofs.Ytlfejohlehkbgaa.PFnExactRootsOf
open Go.RowKit Go.Proofs.YtlfejohlehkbgaaW.PrintWords Go.Proofs.YtlfejohlehkbgaaW.PrintLast Go.Proofs.YtlfejohlehkbgaaW.PrintMore
attribute [local go_sem] max2_int min2_int max_two min_two max_three min_three max_four min_four go_fstore go_fneg go_fadd go_fsub go_fmul go_fquo go_fmax go_fmin go_fconv go_bits go_frombits  -- for this text's walks alone
set_option linter.unusedVariables false
set_option linter.unusedSimpArgs false

/-! ### spec_l3GoodReals: function 30 -/
def spec_l3GoodReals.f (k : Nat) (l0 : List Nat) : Option (Bool) := if (l0.length : Int) ≥ 1 then (if (l0.length : Int) ≤ 11 then ((spec_l2Goods.f k l0).bind fun t127 => (some t127)) else (some false)) else (some false)
theorem spec_l3GoodReals.mono : ∀ a0 k, LeO (spec_l3GoodReals.f k a0) (spec_l3GoodReals.f (k + 1) a0) := by
 intro a0 k
 unfold spec_l3GoodReals.f
 repeat' first
   | (with_reducible exact spec_l2Goods.mono _ _)
   | (with_reducible exact LeO.refl _)
   | (with_reducible exact LeO.none _)
   | (with_reducible refine LeO.ite ?_ ?_)
   | (with_reducible refine LeO.bind ?_ (fun _ => ?_))
   | exact spec_l2Goods.mono _ _
   | exact LeO.none _
   | refine LeO.ite ?_ ?_
   | refine LeO.bind ?_ (fun _ => ?_)
set_option maxHeartbeats 8000000 in
set_option maxRecDepth 100000 in
theorem spec_l3GoodReals.calls (k : Nat) (A0 : Option Addr) (c0 : Nat) (l0 : List Nat) (r : Bool) (w : World) (hr0 : Kd.C Kd.flt w A0 l0.length l0) (hc0 : l0.length ≤ c0) (h : spec_l3GoodReals.f k l0 = some r) :
  Calls Try.prog 30 #[.slice A0 l0.length c0] w fun e w' => e = .returned (.bool r) ∧ Drawn0 w w' := by
 have HR0 := Aside0.mk hr0
 have HC0 := Aside0.mk hc0
 clear hr0 hc0
 have H : (if (l0.length : Int) ≥ 1 then (if (l0.length : Int) ≤ 11 then ((spec_l2Goods.f k l0).bind fun t127 => (some t127)) else (some false)) else (some false)) = some r := h
 clear h
 by_cases c2 : (l0.length : Int) ≥ 1
 ·rw [if_pos c2] at H
  have c2b0 : decide (1 ≤ (l0.length : Int)) = true := decide_eq_true c2
  have c2b1 : decide (1 ≤ l0.length) = true := decide_eq_true (by omega)
  clear c2
  by_cases c3 : (l0.length : Int) ≤ 11
  ·rw [if_pos c3] at H
   have c3b0 : decide ((l0.length : Int) ≤ 11) = true := decide_eq_true c3
   have c3b1 : decide (l0.length ≤ 11) = true := decide_eq_true (by omega)
   clear c3
   replace H := Option.bind_eq_some_iff.mp H
   obtain ⟨t127, A40, H⟩ := H
   have A4 := Aside0.mk A40
   clear A40
   obtain rfl := Option.some.inj H
   go_enter Try.func30, Try.ntmps30
   go_wp2_with (first | (go_at_call 45; (with_reducible refine (spec_l2Goods.calls k _ _ l0 t127 _ ?side1 ?side2 A4.out).mono ?_); (case side1 => repeat (first | exact HR0.out | (with_reducible refine Kd.C_alloc ?_ _) | (with_reducible refine Kd.C_drewN ?_ _) | (with_reducible refine Kd.C_drew ?_))); (case side2 => exact HC0.out); rintro e w' ⟨rfl, ⟨nd, rfl⟩⟩))
   go_ret
   exact ⟨by first | rfl | (simp; done) | (simp [*]; done), by repeat (first | exact Drawn0.refl _ | apply Drawn0.step)⟩
  ·rw [if_neg c3] at H
   have c3b0 : decide ((l0.length : Int) ≤ 11) = false := decide_eq_false c3
   have c3b1 : decide (l0.length ≤ 11) = false := decide_eq_false (by omega)
   clear c3
   obtain rfl := Option.some.inj H
   go_enter Try.func30, Try.ntmps30
   go_wp2
   go_ret
   exact ⟨by first | rfl | (simp; done) | (simp [*]; done), by repeat (first | exact Drawn0.refl _ | apply Drawn0.step)⟩
 ·rw [if_neg c2] at H
  have c2b0 : decide (1 ≤ (l0.length : Int)) = false := decide_eq_false c2
  have c2b1 : decide (1 ≤ l0.length) = false := decide_eq_false (by omega)
  clear c2
  obtain rfl := Option.some.inj H
  go_enter Try.func30, Try.ntmps30
  go_wp2
  go_ret
  exact ⟨by first | rfl | (simp; done) | (simp [*]; done), by repeat (first | exact Drawn0.refl _ | apply Drawn0.step)⟩

/-! ### spec_l3Monic: function 17 -/
def spec_l3Monic.f (k : Nat) (l0 : List Nat) : Option (Bool) := (spec_l3GoodReals.f k l0).bind fun t128 => (if t128 = true then (if (l0.length : Int) ≥ 2 then (if 0 ≤ (wrap64 ((l0.length : Int) - 1)) then (if (wrap64 ((l0.length : Int) - 1)) < (l0.length : Int) then (some (FloatKind.f64.format.order (rdOf (0 : Nat) l0 (wrap64 ((l0.length : Int) - 1))) (4607182418800017408 : Nat) == some Ordering.eq)) else (none)) else (none)) else (some false)) else (some false))
theorem spec_l3Monic.mono : ∀ a0 k, LeO (spec_l3Monic.f k a0) (spec_l3Monic.f (k + 1) a0) := by
 intro a0 k
 unfold spec_l3Monic.f
 repeat' first
   | (with_reducible exact spec_l3GoodReals.mono _ _)
   | (with_reducible exact LeO.refl _)
   | (with_reducible exact LeO.none _)
   | (with_reducible refine LeO.ite ?_ ?_)
   | (with_reducible refine LeO.bind ?_ (fun _ => ?_))
   | exact spec_l3GoodReals.mono _ _
   | exact LeO.none _
   | refine LeO.ite ?_ ?_
   | refine LeO.bind ?_ (fun _ => ?_)
set_option maxHeartbeats 8000000 in
set_option maxRecDepth 100000 in
theorem spec_l3Monic.calls (k : Nat) (A0 : Option Addr) (c0 : Nat) (l0 : List Nat) (r : Bool) (w : World) (hr0 : Kd.C Kd.flt w A0 l0.length l0) (hc0 : l0.length ≤ c0) (h : spec_l3Monic.f k l0 = some r) :
  Calls Try.prog 17 #[.slice A0 l0.length c0] w fun e w' => e = .returned (.bool r) ∧ Drawn0 w w' := by
 have HR0 := Aside0.mk hr0
 have HC0 := Aside0.mk hc0
 clear hr0 hc0
 have H : ((spec_l3GoodReals.f k l0).bind fun t128 => (if t128 = true then (if (l0.length : Int) ≥ 2 then (if 0 ≤ (wrap64 ((l0.length : Int) - 1)) then (if (wrap64 ((l0.length : Int) - 1)) < (l0.length : Int) then (some (FloatKind.f64.format.order (rdOf (0 : Nat) l0 (wrap64 ((l0.length : Int) - 1))) (4607182418800017408 : Nat) == some Ordering.eq)) else (none)) else (none)) else (some false)) else (some false))) = some r := h
 clear h
 replace H := Option.bind_eq_some_iff.mp H
 obtain ⟨t128, A20, H⟩ := H
 have A2 := Aside0.mk A20
 clear A20
 by_cases c3 : t128 = true
 ·subst c3
  have H1 : (if (l0.length : Int) ≥ 2 then (if 0 ≤ (wrap64 ((l0.length : Int) - 1)) then (if (wrap64 ((l0.length : Int) - 1)) < (l0.length : Int) then (some (FloatKind.f64.format.order (rdOf (0 : Nat) l0 (wrap64 ((l0.length : Int) - 1))) (4607182418800017408 : Nat) == some Ordering.eq)) else (none)) else (none)) else (some false)) = some r := by rw [if_pos rfl] at H; exact H
  clear H
  have H := H1
  clear H1
  by_cases c4 : (l0.length : Int) ≥ 2
  ·rw [if_pos c4] at H
   have c4b0 : decide (2 ≤ (l0.length : Int)) = true := decide_eq_true c4
   have c4b1 : decide (2 ≤ l0.length) = true := decide_eq_true (by omega)
   clear c4
   obtain ⟨ji5, hji5⟩ : ∃ j_ : Int, (wrap64 ((l0.length : Int) - 1)) = j_ := ⟨_, rfl⟩
   replace H : (if 0 ≤ (ji5) then (if (ji5) < (l0.length : Int) then (some (FloatKind.f64.format.order (rdOf (0 : Nat) l0 (ji5)) (4607182418800017408 : Nat) == some Ordering.eq)) else (none)) else (none)) = some r := by first | (rw [hji5] at H; exact H) | (simp only [hji5] at H ⊢; exact H)
   (try rw [hji5] at A2)
   have hji5w : (IntKind.i64.wrap ((l0.length : Int) - 1)) = ji5 := (i64_w _).trans hji5
   by_cases c6 : 0 ≤ (ji5)
   ·rw [if_pos c6] at H
    have c6b0 : decide (0 ≤ (ji5)) = true := decide_eq_true c6
    clear c6
    by_cases c7 : (ji5) < (l0.length : Int)
    ·rw [if_pos c7] at H
     have c7b0 : decide ((ji5) < (l0.length : Int)) = true := decide_eq_true c7
     clear c7
     obtain rfl := Option.some.inj H
     go_enter Try.func17, Try.ntmps17
     go_wp2_with (first | ((with_reducible refine gate_callee (f := 30) rfl ?_); refine goesL_ (some 4) rfl rfl Try.func30 (by kernel_rfl) rfl #[.slice A0 l0.length c0] rfl (by (try simp only [lA, lB, lC]); first | done | rfl | (simp only [lD, lE]; rfl)) ?_; (with_reducible refine (spec_l3GoodReals.calls k _ _ l0 true _ ?side1 ?side2 A2.out).mono ?_); (case side1 => repeat (first | exact HR0.out | (with_reducible refine Kd.C_alloc ?_ _) | (with_reducible refine Kd.C_drewN ?_ _) | (with_reducible refine Kd.C_drew ?_))); (case side2 => exact HC0.out); rintro e w' ⟨rfl, ⟨nd, rfl⟩⟩; refine ⟨_, rfl, ?_⟩; have p129 : 0 ≤ ((ji5) : Int) := of_decide_eq_true (by first | (with_reducible assumption) | assumption); have q129 : (ji5) < (l0.length : Int) := of_decide_eq_true (by first | (with_reducible assumption) | assumption); obtain ⟨ad129, e129, hx129_0⟩ := Kd.at_flt HR0.out (ji5) p129 q129; cases e129; replace p129 := eq_true p129; replace q129 := eq_true q129))
     go_ret
     exact ⟨by first | rfl | (simp; done) | (simp only [← hji5] <;> (first | rfl | simp)) | (simp [*]; done), by repeat (first | exact Drawn0.refl _ | apply Drawn0.step)⟩
    ·rw [if_neg c7] at H
     exact absurd H (by simp)
   ·rw [if_neg c6] at H
    exact absurd H (by simp)
  ·rw [if_neg c4] at H
   have c4b0 : decide (2 ≤ (l0.length : Int)) = false := decide_eq_false c4
   have c4b1 : decide (2 ≤ l0.length) = false := decide_eq_false (by omega)
   clear c4
   obtain rfl := Option.some.inj H
   go_enter Try.func17, Try.ntmps17
   go_wp2_with (first | ((with_reducible refine gate_callee (f := 30) rfl ?_); refine goesL_ (some 4) rfl rfl Try.func30 (by kernel_rfl) rfl #[.slice A0 l0.length c0] rfl (by (try simp only [lA, lB, lC]); first | done | rfl | (simp only [lD, lE]; rfl)) ?_; (with_reducible refine (spec_l3GoodReals.calls k _ _ l0 true _ ?side1 ?side2 A2.out).mono ?_); (case side1 => repeat (first | exact HR0.out | (with_reducible refine Kd.C_alloc ?_ _) | (with_reducible refine Kd.C_drewN ?_ _) | (with_reducible refine Kd.C_drew ?_))); (case side2 => exact HC0.out); rintro e w' ⟨rfl, ⟨nd, rfl⟩⟩; refine ⟨_, rfl, ?_⟩))
   go_ret
   exact ⟨by first | rfl | (simp; done) | (simp [*]; done), by repeat (first | exact Drawn0.refl _ | apply Drawn0.step)⟩
 ·replace c3 := Bool.eq_false_iff.mpr c3
  subst c3
  have H1 : (some false) = some r := by rw [if_neg (show ¬ (false = true) by decide)] at H; exact H
  clear H
  have H := H1
  clear H1
  obtain rfl := Option.some.inj H
  go_enter Try.func17, Try.ntmps17
  go_wp2_with (first | ((with_reducible refine gate_callee (f := 30) rfl ?_); refine goesL_ (some 4) rfl rfl Try.func30 (by kernel_rfl) rfl #[.slice A0 l0.length c0] rfl (by (try simp only [lA, lB, lC]); first | done | rfl | (simp only [lD, lE]; rfl)) ?_; (with_reducible refine (spec_l3GoodReals.calls k _ _ l0 false _ ?side1 ?side2 A2.out).mono ?_); (case side1 => repeat (first | exact HR0.out | (with_reducible refine Kd.C_alloc ?_ _) | (with_reducible refine Kd.C_drewN ?_ _) | (with_reducible refine Kd.C_drew ?_))); (case side2 => exact HC0.out); rintro e w' ⟨rfl, ⟨nd, rfl⟩⟩; refine ⟨_, rfl, ?_⟩))
  go_ret
  exact ⟨by first | rfl | (simp; done) | (simp [*]; done), by repeat (first | exact Drawn0.refl _ | apply Drawn0.step)⟩

/-! ### spec_l3Mul: function 44 -/
def spec_l3Mul.f (a0_0 : Nat) (a0_1 : Nat) (a1_0 : Nat) (a1_1 : Nat) : Option (Nat × Nat) := if (floatBits .mul .f64 a0_0 a1_0).isSome = true then (if (floatBits .mul .f64 a0_1 a1_1).isSome = true then (if (floatBits .sub .f64 (fl2 .mul a0_0 a1_0) (fl2 .mul a0_1 a1_1)).isSome = true then (if (floatBits .mul .f64 a0_0 a1_1).isSome = true then (if (floatBits .mul .f64 a0_1 a1_0).isSome = true then (if (floatBits .add .f64 (fl2 .mul a0_0 a1_1) (fl2 .mul a0_1 a1_0)).isSome = true then (some (fl2 .sub (fl2 .mul a0_0 a1_0) (fl2 .mul a0_1 a1_1), fl2 .add (fl2 .mul a0_0 a1_1) (fl2 .mul a0_1 a1_0))) else (none)) else (none)) else (none)) else (none)) else (none)) else (none)
set_option maxHeartbeats 8000000 in
set_option maxRecDepth 100000 in
theorem spec_l3Mul.calls (a0_0 : Nat) (a0_1 : Nat) (a1_0 : Nat) (a1_1 : Nat) (r1 : Nat) (r2 : Nat) (w : World) (h : spec_l3Mul.f a0_0 a0_1 a1_0 a1_1 = some (r1, r2)) :
  Calls Try.prog 44 #[.agg #[.float .f64 a0_0, .float .f64 a0_1], .agg #[.float .f64 a1_0, .float .f64 a1_1]] w fun e w' => e = .returned (.agg #[.float .f64 r1, .float .f64 r2]) ∧ Below w.heap.size w w' := by
 have hu42 := Try.underlying42
 have HB := a_ (Below.refl w.heap.size w)
 have H : (if (floatBits .mul .f64 a0_0 a1_0).isSome = true then (if (floatBits .mul .f64 a0_1 a1_1).isSome = true then (if (floatBits .sub .f64 (fl2 .mul a0_0 a1_0) (fl2 .mul a0_1 a1_1)).isSome = true then (if (floatBits .mul .f64 a0_0 a1_1).isSome = true then (if (floatBits .mul .f64 a0_1 a1_0).isSome = true then (if (floatBits .add .f64 (fl2 .mul a0_0 a1_1) (fl2 .mul a0_1 a1_0)).isSome = true then (some (fl2 .sub (fl2 .mul a0_0 a1_0) (fl2 .mul a0_1 a1_1), fl2 .add (fl2 .mul a0_0 a1_1) (fl2 .mul a0_1 a1_0))) else (none)) else (none)) else (none)) else (none)) else (none)) else (none)) = some (r1, r2) := h
 clear h
 by_cases c3 : (floatBits .mul .f64 a0_0 a1_0).isSome = true
 ·rw [if_pos c3] at H
  have c3b0 : (floatBits .mul .f64 a0_0 a1_0).isSome = true := c3
  clear c3
  by_cases c4 : (floatBits .mul .f64 a0_1 a1_1).isSome = true
  ·rw [if_pos c4] at H
   have c4b0 : (floatBits .mul .f64 a0_1 a1_1).isSome = true := c4
   clear c4
   by_cases c5 : (floatBits .sub .f64 (fl2 .mul a0_0 a1_0) (fl2 .mul a0_1 a1_1)).isSome = true
   ·rw [if_pos c5] at H
    have c5b0 : (floatBits .sub .f64 (fl2 .mul a0_0 a1_0) (fl2 .mul a0_1 a1_1)).isSome = true := c5
    clear c5
    by_cases c6 : (floatBits .mul .f64 a0_0 a1_1).isSome = true
    ·rw [if_pos c6] at H
     have c6b0 : (floatBits .mul .f64 a0_0 a1_1).isSome = true := c6
     clear c6
     by_cases c7 : (floatBits .mul .f64 a0_1 a1_0).isSome = true
     ·rw [if_pos c7] at H
      have c7b0 : (floatBits .mul .f64 a0_1 a1_0).isSome = true := c7
      clear c7
      by_cases c8 : (floatBits .add .f64 (fl2 .mul a0_0 a1_1) (fl2 .mul a0_1 a1_0)).isSome = true
      ·rw [if_pos c8] at H
       have c8b0 : (floatBits .add .f64 (fl2 .mul a0_0 a1_1) (fl2 .mul a0_1 a1_0)).isSome = true := c8
       clear c8
       simp only [Option.some.injEq, Prod.mk.injEq] at H
       obtain ⟨rfl, rfl⟩ := H
       go_enter Try.func44, Try.ntmps44
       go_wp2_with (first | ((with_reducible refine gate_dst (N := 2) rfl ?_); refine box_event ?hg (N := 2) ?hd (cs := #[.float .f64 a0_0, .float .f64 a0_1]) (t := 42) ?hr ?_; (case hd => rfl); (case hg => rfl); (case hr => first | (go_simp; done) | (go_simp; rfl)); intro gb130 hg w9 hbox hb; have BK130 := a_ (hbox); have GW130 := a_ (bsg hg HB.out); have GE130 := a_ (bsg hg HB.out); replace HB := a_ (below_step (un HB.out) hb); clear hb hbox hg) | ((with_reducible refine gate_dst (N := 3) rfl ?_); refine box_event ?hg (N := 3) ?hd (cs := #[.float .f64 a1_0, .float .f64 a1_1]) (t := 42) ?hr ?_; (case hd => rfl); (case hg => rfl); (case hr => first | (go_simp; done) | (go_simp; rfl)); intro gb131 hg w10 hbox hb; have BK131 := a_ (hbox); have GW131 := a_ (bsg hg HB.out); have GE131 := a_ (bsg hg HB.out); replace HB := a_ (below_step (by repeat (with_reducible first | exact HB.out | refine bz ?_ (by assumption) | apply bA | apply bN | apply bD)) hb); have NB130_131 := a_ (nel hg BK130.out); have NB131_130 := a_ (nle hg BK130.out); replace BK130 := a_ (blk_below (pk BK130.out) hb); clear hb hbox hg) | ((with_reducible refine gate_dst (N := 4) rfl ?_); refine box_event ?hg (N := 4) ?hd (cs := #[.float .f64 (0 : Nat), .float .f64 (0 : Nat)]) (t := 42) ?hr ?_; (case hd => rfl); (case hg => rfl); (case hr => first | (go_simp; done) | (go_simp; rfl)); intro gb132 hg w11 hbox hb; have BK132 := a_ (hbox); have GW132 := a_ (bsg hg HB.out); have GE132 := a_ (bsg hg HB.out); replace HB := a_ (below_step (by repeat (with_reducible first | exact HB.out | refine bz ?_ (by assumption) | apply bA | apply bN | apply bD)) hb); have NB130_132 := a_ (nel hg BK130.out); have NB132_130 := a_ (nle hg BK130.out); replace BK130 := a_ (blk_below (pk BK130.out) hb); have NB131_132 := a_ (nel hg BK131.out); have NB132_131 := a_ (nle hg BK131.out); replace BK131 := a_ (blk_below (pk BK131.out) hb); clear hb hbox hg; have hnb12 := NB130_131.out; have hnc12 := NB131_130.out; have hnb13 := NB130_132.out; have hnc13 := NB132_130.out; have hcz14_0 : _ = some (Value.float .f64 a0_0) := (blk_cell BK130.out 0).trans rfl; have hcz14_1 : _ = some (Value.float .f64 a0_1) := (blk_cell BK130.out 1).trans rfl; have hfz14_0 := blk_frozen BK130.out 0; have hfz14_1 := blk_frozen BK130.out 1; have hnb15 := NB131_132.out; have hnc15 := NB132_131.out; have hcz16_0 : _ = some (Value.float .f64 a1_0) := (blk_cell BK131.out 0).trans rfl; have hcz16_1 : _ = some (Value.float .f64 a1_1) := (blk_cell BK131.out 1).trans rfl; have hfz16_0 := blk_frozen BK131.out 0; have hfz16_1 := blk_frozen BK131.out 1; have hcz17_0 : _ = some (Value.float .f64 (0 : Nat)) := (blk_cell BK132.out 0).trans rfl; have hcz17_1 : _ = some (Value.float .f64 (0 : Nat)) := (blk_cell BK132.out 1).trans rfl; have hfz17_0 := blk_frozen BK132.out 0; have hfz17_1 := blk_frozen BK132.out 1))
       refine bodyPost_ret (results_cell_row rfl _ _ gb132 42 #[.float .f64 (fl2 .sub (fl2 .mul a0_0 a1_0) (fl2 .mul a0_1 a1_1)), .float .f64 (fl2 .add (fl2 .mul a0_0 a1_1) (fl2 .mul a0_1 a1_0))] (0, 0) _ rfl (by refine pk ?_; refine blk_put (cs := #[.float .f64 (fl2 .sub (fl2 .mul a0_0 a1_0) (fl2 .mul a0_1 a1_1)), .float .f64 (0 : Nat)]) ?_ 1 _ rfl; refine pk ?_; refine blk_put (cs := #[.float .f64 (0 : Nat), .float .f64 (0 : Nat)]) ?_ 0 _ rfl; refine pk ?_; exact BK132.out) Try.underlying42 rfl (by kernel_rfl)) rfl ?_
       exact ⟨by first | rfl | (simp [errW_none, errW_some] <;> rfl) | (simp [*, errW_none, errW_some] <;> rfl), by repeat (with_reducible first | exact HB.out | refine bz ?_ (by assumption) | apply bA | apply bN | apply bD)⟩
      ·rw [if_neg c8] at H
       exact absurd H (by simp)
     ·rw [if_neg c7] at H
      exact absurd H (by simp)
    ·rw [if_neg c6] at H
     exact absurd H (by simp)
   ·rw [if_neg c5] at H
    exact absurd H (by simp)
  ·rw [if_neg c4] at H
   exact absurd H (by simp)
 ·rw [if_neg c3] at H
  exact absurd H (by simp)

/-! ### spec_l3Mul.rel: function 44 -/
section
open Go.Proofs.Ytlfejohlehkbgaa.Flo (Rt Rp Rq Rd Sp Vt mRe mIm dRe dIm den denBad al toldS)
attribute [local go_sem] go_tadd go_tsub go_tmul go_tquo
set_option maxHeartbeats 8000000 in
set_option maxRecDepth 100000 in
theorem spec_l3Mul.rel (a0_0 : Nat) (a0_1 : Nat) (a1_0 : Nat) (a1_1 : Nat) (w : World) :
  Calls Try.prog 44 #[.agg #[.float .f64 a0_0, .float .f64 a0_1], .agg #[.float .f64 a1_0, .float .f64 a1_1]] w fun e w' => ∃ r1 r2, Sp (mRe (al a0_0) (al a0_1) (al a1_0) (al a1_1)) (mIm (al a0_0) (al a0_1) (al a1_0) (al a1_1)) r1 r2 ∧ e = .returned (.agg #[.float .f64 r1, .float .f64 r2]) ∧ Below w.heap.size w w' := by
 have hu42 := Try.underlying42
 have HB := a_ (Below.refl w.heap.size w)
 go_enter Try.func44, Try.ntmps44
 go_wp2_with (first | ((with_reducible refine gate_dst (N := 2) rfl ?_); refine box_event ?hg (N := 2) ?hd (cs := #[.float .f64 a0_0, .float .f64 a0_1]) (t := 42) ?hr ?_; (case hd => rfl); (case hg => rfl); (case hr => first | (go_simp; done) | (go_simp; rfl)); intro gb130 hg w9 hbox hb; have BK130 := a_ (hbox); have GW130 := a_ (bsg hg HB.out); have GE130 := a_ (bsg hg HB.out); replace HB := a_ (below_step (un HB.out) hb); clear hb hbox hg) | ((with_reducible refine gate_dst (N := 3) rfl ?_); refine box_event ?hg (N := 3) ?hd (cs := #[.float .f64 a1_0, .float .f64 a1_1]) (t := 42) ?hr ?_; (case hd => rfl); (case hg => rfl); (case hr => first | (go_simp; done) | (go_simp; rfl)); intro gb131 hg w10 hbox hb; have BK131 := a_ (hbox); have GW131 := a_ (bsg hg HB.out); have GE131 := a_ (bsg hg HB.out); replace HB := a_ (below_step (by repeat (with_reducible first | exact HB.out | refine bz ?_ (by assumption) | apply bA | apply bN | apply bD)) hb); have NB130_131 := a_ (nel hg BK130.out); have NB131_130 := a_ (nle hg BK130.out); replace BK130 := a_ (blk_below (pk BK130.out) hb); clear hb hbox hg) | ((with_reducible refine gate_dst (N := 4) rfl ?_); refine box_event ?hg (N := 4) ?hd (cs := #[.float .f64 (0 : Nat), .float .f64 (0 : Nat)]) (t := 42) ?hr ?_; (case hd => rfl); (case hg => rfl); (case hr => first | (go_simp; done) | (go_simp; rfl)); intro gb132 hg w11 hbox hb; have BK132 := a_ (hbox); have GW132 := a_ (bsg hg HB.out); have GE132 := a_ (bsg hg HB.out); replace HB := a_ (below_step (by repeat (with_reducible first | exact HB.out | refine bz ?_ (by assumption) | apply bA | apply bN | apply bD)) hb); have NB130_132 := a_ (nel hg BK130.out); have NB132_130 := a_ (nle hg BK130.out); replace BK130 := a_ (blk_below (pk BK130.out) hb); have NB131_132 := a_ (nel hg BK131.out); have NB132_131 := a_ (nle hg BK131.out); replace BK131 := a_ (blk_below (pk BK131.out) hb); clear hb hbox hg; have hnb12 := NB130_131.out; have hnc12 := NB131_130.out; have hnb13 := NB130_132.out; have hnc13 := NB132_130.out; have hcz14_0 : _ = some (Value.float .f64 a0_0) := (blk_cell BK130.out 0).trans rfl; have hcz14_1 : _ = some (Value.float .f64 a0_1) := (blk_cell BK130.out 1).trans rfl; have hfz14_0 := blk_frozen BK130.out 0; have hfz14_1 := blk_frozen BK130.out 1; have hnb15 := NB131_132.out; have hnc15 := NB132_131.out; have hcz16_0 : _ = some (Value.float .f64 a1_0) := (blk_cell BK131.out 0).trans rfl; have hcz16_1 : _ = some (Value.float .f64 a1_1) := (blk_cell BK131.out 1).trans rfl; have hfz16_0 := blk_frozen BK131.out 0; have hfz16_1 := blk_frozen BK131.out 1; have hcz17_0 : _ = some (Value.float .f64 (0 : Nat)) := (blk_cell BK132.out 0).trans rfl; have hcz17_1 : _ = some (Value.float .f64 (0 : Nat)) := (blk_cell BK132.out 1).trans rfl; have hfz17_0 := blk_frozen BK132.out 0; have hfz17_1 := blk_frozen BK132.out 1))
 have V1 := Flo.vt_mul a0_0 a1_0 w11
 generalize flw .mul a0_0 a1_0 w11 = v1 at V1 ⊢
 have V2 := Flo.vt_mul a0_1 a1_1 (w11.drewN (fln .mul a0_0 a1_0))
 generalize flw .mul a0_1 a1_1 (w11.drewN (fln .mul a0_0 a1_0)) = v2 at V2 ⊢
 have V3 := Flo.vt_sub v1 v2 (w11.drewN (fln .mul a0_0 a1_0 + fln .mul a0_1 a1_1))
 generalize flw .sub v1 v2 (w11.drewN (fln .mul a0_0 a1_0 + fln .mul a0_1 a1_1)) = v3 at V3 ⊢
 have V4 := Flo.vt_mul a0_0 a1_1 (w11.drewN (fln .mul a0_0 a1_0 + fln .mul a0_1 a1_1 + fln .sub v1 v2))
 generalize flw .mul a0_0 a1_1 (w11.drewN (fln .mul a0_0 a1_0 + fln .mul a0_1 a1_1 + fln .sub v1 v2)) = v4 at V4 ⊢
 have V5 := Flo.vt_mul a0_1 a1_0 (w11.drewN (fln .mul a0_0 a1_0 + fln .mul a0_1 a1_1 + fln .sub v1 v2 + fln .mul a0_0 a1_1))
 generalize flw .mul a0_1 a1_0 (w11.drewN (fln .mul a0_0 a1_0 + fln .mul a0_1 a1_1 + fln .sub v1 v2 + fln .mul a0_0 a1_1)) = v5 at V5 ⊢
 have V6 := Flo.vt_add v4 v5 (w11.drewN (fln .mul a0_0 a1_0 + fln .mul a0_1 a1_1 + fln .sub v1 v2 + fln .mul a0_0 a1_1 + fln .mul a0_1 a1_0))
 generalize flw .add v4 v5 (w11.drewN (fln .mul a0_0 a1_0 + fln .mul a0_1 a1_1 + fln .sub v1 v2 + fln .mul a0_0 a1_1 + fln .mul a0_1 a1_0)) = v6 at V6 ⊢
 refine bodyPost_ret (results_cell_row rfl _ _ gb132 42 #[.float .f64 v3, .float .f64 v6] (0, 0) _ rfl (by refine pk ?_; refine blk_put (cs := #[.float .f64 v3, .float .f64 (0 : Nat)]) ?_ 1 _ rfl; refine pk ?_; refine blk_put (cs := #[.float .f64 (0 : Nat), .float .f64 (0 : Nat)]) ?_ 0 _ rfl; refine pk ?_; exact BK132.out) Try.underlying42 rfl (by kernel_rfl)) rfl ?_
 exact ⟨_, _, Flo.sp_mul V1 V2 V3 V4 V5 V6, by first | rfl | (simp [errW_none, errW_some] <;> rfl) | (simp [*, errW_none, errW_some] <;> rfl), by repeat (with_reducible first | exact HB.out | refine bz ?_ (by assumption) | apply bA | apply bN | apply bD)⟩
end

/-! ### spec_l3At: function 32 -/
def spec_l3At.T6 : Bool × List (List Nat × List Nat) := (true, [([], []), ([0], [0]), ([], []), ([], []), ([2, 3], [2, 3]), ([4], [4]), ([1, 5], [1, 5]), ([0, 1, 2, 3, 4, 5, 6], []), ([7, 6, 0, 1, 2, 3, 4, 5, 6], [6, 7])])
def spec_l3At.B6 : List Nat := [0, 1, 0, 0, 12, 28, 63, 127, 255]
theorem spec_l3At.tab6 : rtab .any (opsOf Try.f32 6) = spec_l3At.T6 := by kernel_rfl
theorem spec_l3At.bits6 : waitsOk spec_l3At.T6.2 spec_l3At.B6 = true := by kernel_rfl
section
open Go.Proofs.Ytlfejohlehkbgaa.Flo (Rt Rp Rq Rd Sp Vt mRe mIm dRe dIm den denBad al toldS)
attribute [local go_sem] go_tadd go_tsub go_tmul go_tquo
set_option maxHeartbeats 8000000 in
set_option maxRecDepth 100000 in
theorem spec_l3At.rel (k : Nat) (A0 : Option Addr) (c0 : Nat) (l0 : List Nat) (a1_0 : Nat) (a1_1 : Nat) (X : Option Nat) (Y : Option Nat) (w : World) (hr0 : Kd.C Kd.flt w A0 l0.length l0) (hc0 : l0.length ≤ c0) (h : (Flo.hornS k l0 (wrap64 ((l0.length : Int) - 1)) (Flo.al a1_0) (Flo.al a1_1) (some 0) (some 0)) = some (X, Y)) :
  Calls Try.prog 32 #[.slice A0 l0.length c0, .agg #[.float .f64 a1_0, .float .f64 a1_1]] w fun e w' => ∃ r1 r2, Sp X Y r1 r2 ∧ e = .returned (.agg #[.float .f64 r1, .float .f64 r2]) ∧ Below w.heap.size w w' := by
 have hu42 := Try.underlying42
 have HR0 := Aside0.mk hr0
 have HC0 := Aside0.mk hc0
 clear hr0 hc0
 have HB := a_ (Below.refl w.heap.size w)
 have H : (Flo.hornS k l0 (wrap64 ((l0.length : Int) - 1)) (Flo.al a1_0) (Flo.al a1_1) (some 0) (some 0)) = some (X, Y) := h
 clear h
 have H' := Aside0.mk H
 clear H
 go_enter Try.func32, Try.ntmps32
 go_wp2_with (first | ((with_reducible refine gate_dst (N := 3) rfl ?_); refine box_event ?hg (N := 3) ?hd (cs := #[.float .f64 a1_0, .float .f64 a1_1]) (t := 42) ?hr ?_; (case hd => rfl); (case hg => rfl); (case hr => first | (go_simp; done) | (go_simp; rfl)); intro gb133 hg w3 hbox hb; have BK133 := a_ (hbox); have GW133 := a_ (bsg hg HB.out); have GE133 := a_ (bsg hg HB.out); replace HB := a_ (below_step (un HB.out) hb); clear hb hbox hg) | ((with_reducible refine gate_dst (N := 4) rfl ?_); refine box_event ?hg (N := 4) ?hd (cs := #[.float .f64 (0 : Nat), .float .f64 (0 : Nat)]) (t := 42) ?hr ?_; (case hd => rfl); (case hg => rfl); (case hr => first | (go_simp; done) | (go_simp; rfl)); intro gb134 hg w4 hbox hb; have BK134 := a_ (hbox); have GW134 := a_ (bsg hg HB.out); have GE134 := a_ (bsg hg HB.out); replace HB := a_ (below_step (by repeat (with_reducible first | exact HB.out | refine bz ?_ (by assumption) | apply bA | apply bN | apply bD)) hb); have NB133_134 := a_ (nel hg BK133.out); have NB134_133 := a_ (nle hg BK133.out); replace BK133 := a_ (blk_below (pk BK133.out) hb); clear hb hbox hg) | ((with_reducible refine gate_dst (N := 5) rfl ?_); refine box_event ?hg (N := 5) ?hd (cs := #[.float .f64 (0 : Nat), .float .f64 (0 : Nat)]) (t := 42) ?hr ?_; (case hd => rfl); (case hg => rfl); (case hr => first | (go_simp; done) | (go_simp; rfl)); intro gb135 hg w5 hbox hb; have BK135 := a_ (hbox); have GW135 := a_ (bsg hg HB.out); have GE135 := a_ (bsg hg HB.out); replace HB := a_ (below_step (by repeat (with_reducible first | exact HB.out | refine bz ?_ (by assumption) | apply bA | apply bN | apply bD)) hb); have NB133_135 := a_ (nel hg BK133.out); have NB135_133 := a_ (nle hg BK133.out); replace BK133 := a_ (blk_below (pk BK133.out) hb); have NB134_135 := a_ (nel hg BK134.out); have NB135_134 := a_ (nle hg BK134.out); replace BK134 := a_ (blk_below (pk BK134.out) hb); clear hb hbox hg; have hnb6 := NB135_133.out; have hnc6 := NB133_135.out; have hnb7 := NB135_134.out; have hnc7 := NB134_135.out; have hcz8_0 : _ = some (Value.float .f64 (0 : Nat)) := (blk_cell BK135.out 0).trans rfl; have hcz8_1 : _ = some (Value.float .f64 (0 : Nat)) := (blk_cell BK135.out 1).trans rfl; have hfz8_0 := blk_frozen BK135.out 0; have hfz8_1 := blk_frozen BK135.out 1))
 go_loopg [6] k (fun kq v6 w' => ∃ (x6_1 : Int) (x136000_1 : Nat) (x136001_1 : Nat) (W0 : Option Nat) (W1 : Option Nat), v6 = .int .i64 x6_1 ∧ Aside0 (Flo.hornS kq l0 x6_1 (al a1_0) (al a1_1) W0 W1 = some (X, Y)) ∧ Aside0 (Sp W0 W1 x136000_1 x136001_1) ∧ Aside0 (kq ≤ k) ∧ Aside0 (w'.heap[gb133]? = some (.cells #[.float .f64 a1_0, .float .f64 a1_1] 42 (0, 0))) ∧ Aside0 (w'.heap[gb134]? = some (.cells #[.float .f64 (0 : Nat), .float .f64 (0 : Nat)] 42 (0, 0))) ∧ Aside0 (w'.heap[gb135]? = some (.cells #[.float .f64 x136000_1, .float .f64 x136001_1] 42 (0, 0))) ∧ Aside0 (Below w.heap.size w w'))
 case atStart => exact ⟨(wrap64 ((l0.length : Int) - 1)), ((0 : Nat)), ((0 : Nat)), some 0, some 0, (by first | rfl | (simp; done) | (simp [*]; done)), H', ⟨Flo.sp_zero⟩, ⟨Nat.le_refl _⟩, ⟨by refine pk ?_; refine blk_far ?_ NB133_135.out _; refine pk ?_; refine blk_far ?_ NB133_135.out _; refine pk ?_; exact BK133.out⟩, ⟨by refine pk ?_; refine blk_far ?_ NB134_135.out _; refine pk ?_; refine blk_far ?_ NB134_135.out _; refine pk ?_; exact BK134.out⟩, ⟨by refine pk ?_; refine blk_put (cs := #[.float .f64 (0 : Nat), .float .f64 (0 : Nat)]) ?_ 1 _ rfl; refine pk ?_; refine blk_put (cs := #[.float .f64 (0 : Nat), .float .f64 (0 : Nat)]) ?_ 0 _ rfl; refine pk ?_; exact BK135.out⟩, ⟨by repeat (with_reducible first | exact HB.out | refine bz ?_ (by assumption) | apply bA | apply bN | apply bD)⟩⟩
 case round =>
  clear H'
  try clear p2; try clear c3; try clear c6; try clear p6; try clear c7; try clear hcz8_0; try clear hcz8_1; try clear hfz8_0; try clear hfz8_1
  obtain ⟨x6_1, x136000_1, x136001_1, W0, W1, rfl, HA, HS_, HK1, BK133, BK134, BK135, HB⟩ := hrel
  cases gk with
  | zero => exact absurd HA.out (by simp [Flo.hornS])
  | succ k1 =>
   have H := HA.out
   clear HA
   simp only [Flo.hornS] at H
   by_cases c9 : x6_1 ≥ 0
   ·rw [if_pos c9] at H
    have c9b0 : decide (0 ≤ x6_1) = true := decide_eq_true c9
    clear c9
    by_cases c11 : 0 ≤ x6_1
    ·rw [if_pos c11] at H
     have c11b0 : decide (0 ≤ x6_1) = true := decide_eq_true c11
     clear c11
     by_cases c12 : x6_1 < (l0.length : Int)
     ·rw [if_pos c12] at H
      have c12b0 : decide (x6_1 < (l0.length : Int)) = true := decide_eq_true c12
      clear c12
      have H' := Aside0.mk H
      clear H
      have hnb14 := NB135_133.out
      have hnc14 := NB133_135.out
      have hnb15 := NB135_134.out
      have hnc15 := NB134_135.out
      have hcz16_0 : wr.cell? ⟨gb135, 0, none⟩ = some (.float .f64 x136000_1) := (blk_cell BK135.out 0).trans rfl
      have hcz16_1 : wr.cell? ⟨gb135, 1, none⟩ = some (.float .f64 x136001_1) := (blk_cell BK135.out 1).trans rfl
      have hfz16_0 := blk_frozen BK135.out 0
      have hfz16_1 := blk_frozen BK135.out 1
      have hnb17 := NB133_134.out
      have hnc17 := NB134_133.out
      have hcz18_0 : wr.cell? ⟨gb133, 0, none⟩ = some (.float .f64 a1_0) := (blk_cell BK133.out 0).trans rfl
      have hcz18_1 : wr.cell? ⟨gb133, 1, none⟩ = some (.float .f64 a1_1) := (blk_cell BK133.out 1).trans rfl
      have hfz18_0 := blk_frozen BK133.out 0
      have hfz18_1 := blk_frozen BK133.out 1
      try go_wp2_with (first | ((with_reducible refine gate_callee (f := 44) rfl ?_); refine goesL_ (some 17) rfl rfl Try.func44 (by kernel_rfl) rfl #[.agg #[.float .f64 x136000_1, .float .f64 x136001_1], .agg #[.float .f64 a1_0, .float .f64 a1_1]] rfl (by (try simp only [lA, lB, lC]); first | done | rfl | (simp only [lD, lE]; rfl)) ?_; (with_reducible refine (spec_l3Mul.rel x136000_1 x136001_1 a1_0 a1_1 _).mono ?_); rintro e w19 ⟨t136, t137, A10, rfl, hb⟩; refine ⟨_, rfl, ?_⟩; replace BK133 := a_ (blk_below (pk BK133.out) hb); replace BK134 := a_ (blk_below (pk BK134.out) hb); replace BK135 := a_ (blk_below (pk BK135.out) hb); replace HB := a_ (below_step (by repeat (with_reducible first | exact HB.out | refine bz ?_ (by assumption) | apply bA | apply bN | apply bD)) hb); clear hb; have hcz20_0 : _ = some (Value.float .f64 x136000_1) := (blk_cell BK135.out 0).trans rfl; have hcz20_1 : _ = some (Value.float .f64 x136001_1) := (blk_cell BK135.out 1).trans rfl; have hfz20_0 := blk_frozen BK135.out 0; have hfz20_1 := blk_frozen BK135.out 1))
      have n0_ : Aside0 (((w19.setCell ⟨gb135, 0, none⟩ (.float .f64 t136)).setCell ⟨gb135, 1, none⟩ (.float .f64 t137)).heap[gb133]? = some (.cells #[.float .f64 a1_0, .float .f64 a1_1] 42 (0, 0))) := ⟨by refine pk ?_; refine blk_far ?_ NB133_135.out _; refine pk ?_; refine blk_far ?_ NB133_135.out _; refine pk ?_; exact BK133.out⟩
      have n1_ : Aside0 (((w19.setCell ⟨gb135, 0, none⟩ (.float .f64 t136)).setCell ⟨gb135, 1, none⟩ (.float .f64 t137)).heap[gb134]? = some (.cells #[.float .f64 (0 : Nat), .float .f64 (0 : Nat)] 42 (0, 0))) := ⟨by refine pk ?_; refine blk_far ?_ NB134_135.out _; refine pk ?_; refine blk_far ?_ NB134_135.out _; refine pk ?_; exact BK134.out⟩
      have n2_ : Aside0 (((w19.setCell ⟨gb135, 0, none⟩ (.float .f64 t136)).setCell ⟨gb135, 1, none⟩ (.float .f64 t137)).heap[gb135]? = some (.cells #[.float .f64 t136, .float .f64 t137] 42 (0, 0))) := ⟨by refine pk ?_; refine blk_put (cs := #[.float .f64 t136, .float .f64 x136001_1]) ?_ 1 _ rfl; refine pk ?_; refine blk_put (cs := #[.float .f64 x136000_1, .float .f64 x136001_1]) ?_ 0 _ rfl; refine pk ?_; exact BK135.out⟩
      have n3_ : Aside0 (Below w.heap.size w ((w19.setCell ⟨gb135, 0, none⟩ (.float .f64 t136)).setCell ⟨gb135, 1, none⟩ (.float .f64 t137))) := ⟨by repeat (with_reducible first | exact HB.out | refine bz ?_ (by assumption) | apply bA | apply bN | apply bD)⟩
      (try clear BK133)
      (try clear BK134)
      (try clear BK135)
      (try clear HB)
      generalize ((w19.setCell ⟨gb135, 0, none⟩ (.float .f64 t136)).setCell ⟨gb135, 1, none⟩ (.float .f64 t137)) = w21 at n0_ n1_ n2_ n3_ ⊢
      have BK133 := n0_
      have BK134 := n1_
      have BK135 := n2_
      have HB := n3_
      clear n0_ n1_ n2_ n3_
      replace BK133 := a_ (blk_drew BK133.out)
      replace BK134 := a_ (blk_drew BK134.out)
      replace BK135 := a_ (blk_drew BK135.out)
      replace HB := a_ (below_drew1 HB.out)
      have p138 : 0 ≤ (x6_1 : Int) := of_decide_eq_true (by first | (with_reducible assumption) | assumption)
      have q138 : x6_1 < (l0.length : Int) := of_decide_eq_true (by first | (with_reducible assumption) | assumption)
      obtain ⟨ad138, e138, hx138_0⟩ := Kd.at_flt HR0.out x6_1 p138 q138
      have hw138_0 := hx138_0
      cases e138
      replace hx138_0 := (HB.out.cell (World.block_lt_of_cell? w _ hx138_0)).trans hx138_0
      replace p138 := eq_true p138
      replace q138 := eq_true q138
      refine start_ (n := 9) (S := fun w' => w'.cell? ⟨gb135, 0, none⟩ = some (.float .f64 t136) ∧ w'.cell? ⟨gb135, 1, none⟩ = some (.float .f64 t137) ∧ w'.cell? (ad138.add (x6_1).toNat) = some (.float .f64 (rdOf (0 : Nat) l0 x6_1))) (ds := [8]) #[false, false, false, false, false, false, false, false, false] (by kernel_rfl) rfl rfl ⟨(blk_cell BK135.out 0).trans rfl, (blk_cell BK135.out 1).trans rfl, ((HB.out.cell (World.block_lt_of_cell? w _ hw138_0)).trans hw138_0)⟩ (fun hHeld => ?_); refine with_tabW spec_l3At.tab6 spec_l3At.bits6 (fun HT_ HW_ => ?_)
      generalize w21.drew = w22 at BK133 BK134 BK135 HB hx138_0 hHeld ⊢
      refine pure_ (i := 0) (N := some 18) (v := ?_) (a' := ?_) #[true, false, false, false, false, false, false, false, false] rfl rfl (any_of HT_.out (by kernel_rfl)) (fun _ _ _ h => h) (Or.inl ⟨by rfl, ?_⟩) ?_ ?_
      rotate_left
      ·intro w'
       go_simp
       with_reducible rfl
      rotate_left
      ·simp only [Act.put, sB, sC, sD, i64_w, i32_w]
       rfl
      refine pure_ (i := 2) (N := some 20) (v := ?_) (a' := ?_) #[true, false, true, false, false, false, false, false, false] rfl rfl (any_of HT_.out (by kernel_rfl)) (fun _ _ _ h => h) (Or.inl ⟨by rfl, ?_⟩) ?_ ?_
      rotate_left
      ·intro w'
       go_simp
       with_reducible rfl
      rotate_left
      ·simp only [Act.put, sB, sC, sD, i64_w, i32_w]
       rfl
      refine pure_ (i := 3) (N := some 21) (v := ?_) (a' := ?_) #[true, false, true, true, false, false, false, false, false] rfl rfl (any_of HT_.out (by kernel_rfl)) (fun _ _ _ h => h) (Or.inl ⟨by rfl, ?_⟩) ?_ ?_
      rotate_left
      ·intro w'
       go_simp
       with_reducible rfl
      rotate_left
      ·simp only [Act.put, sB, sC, sD, i64_w, i32_w]
       rfl
      refine pure_ (i := 4) (N := some 22) (v := ?_) (a' := ?_) #[true, false, true, true, true, false, false, false, false] rfl rfl (any_of HT_.out (by kernel_rfl)) (fun _ _ _ h => h) (Or.inl ⟨by rfl, ?_⟩) ?_ ?_
      rotate_left
      ·intro w'
       go_simp
       with_reducible rfl
      rotate_left
      ·simp only [Act.put, sB, sC, sD, i64_w, i32_w]
       rfl
      refine take_ (i := 1) (N := some 19) (v := ?_) (a' := ?_) #[true, true, true, true, true, false, false, false, false] rfl rfl (take_ofW HT_.out HW_.out (by kernel_rfl)) (fun _ _ _ h => h) (Or.inl ⟨by rfl, ?_⟩) hHeld ?_ ?_
      rotate_left
      ·rintro w' ⟨s0, s1, s2⟩
       go_simp
       with_reducible rfl
      rotate_left
      ·simp only [Act.put, sB, sC, sD, i64_w, i32_w]
       rfl
      refine take_ (i := 5) (N := some 23) (v := ?_) (a' := ?_) #[true, true, true, true, true, true, false, false, false] rfl rfl (take_ofW HT_.out HW_.out (by kernel_rfl)) (fun _ _ _ h => h) (Or.inl ⟨by rfl, ?_⟩) hHeld ?_ ?_
      rotate_left
      ·rintro w' ⟨s0, s1, s2⟩
       go_simp
       with_reducible rfl
      rotate_left
      ·simp only [Act.put, sB, sC, sD, i64_w, i32_w]
       rfl
      refine one_ (i := 6) (N := some 24) #[true, true, true, true, true, true, true, false, false] rfl rfl (one_of HT_.out (by kernel_rfl)) (by decide) (fun K hK => ?_)
      have V1 := Flo.vt_add t136 (rdOf (0 : Nat) l0 x6_1) w22
      refine event_step (v := .float .f64 (flw .add t136 (rdOf (0 : Nat) l0 x6_1) w22)) (w1 := w22.drewN (fln .add t136 (rdOf (0 : Nat) l0 x6_1))) (by rfl) ?_ ?_
      ·go_simp
       try rfl
      generalize flw .add t136 (rdOf (0 : Nat) l0 x6_1) w22 = v1 at V1 ⊢
      have n0_ := a_ (blk_drewN BK133.out (fln .add t136 (rdOf (0 : Nat) l0 x6_1)))
      have n1_ := a_ (blk_drewN BK134.out (fln .add t136 (rdOf (0 : Nat) l0 x6_1)))
      have n2_ := a_ (blk_drewN BK135.out (fln .add t136 (rdOf (0 : Nat) l0 x6_1)))
      have nB_ := a_ (pw_below_drewN HB.out (fln .add t136 (rdOf (0 : Nat) l0 x6_1)))
      clear BK133 BK134 BK135 HB hHeld
      have BK133 := n0_
      have BK134 := n1_
      have BK135 := n2_
      have HB := nB_
      clear nB_ n0_ n1_ n2_
      generalize w22.drewN (fln .add t136 (rdOf (0 : Nat) l0 x6_1)) = w22a at BK133 BK134 BK135 HB ⊢
      refine hK.out _ _ ⟨(blk_cell BK135.out 0).trans rfl, (blk_cell BK135.out 1).trans rfl, ((HB.out.cell (World.block_lt_of_cell? w _ hw138_0)).trans hw138_0)⟩ (fun hHeld => ?_)
      clear hK K
      refine norm_ (a' := ?_) ?_ ?_
      rotate_left
      ·show Act.put _ (some 24) _ = _
       simp only [Act.put, sB, sC, sD, i64_w, i32_w]
       rfl
      refine pure_ (i := 7) (N := some 25) (v := ?_) (a' := ?_) #[true, true, true, true, true, true, true, true, false] rfl rfl (any_of HT_.out (by kernel_rfl)) (fun _ _ _ h => h) (Or.inl ⟨by rfl, ?_⟩) ?_ ?_
      rotate_left
      ·intro w'
       go_simp
       with_reducible rfl
      rotate_left
      ·simp only [Act.put, sB, sC, sD, i64_w, i32_w]
       rfl
      refine last_ (i := 8) (N := none) #[true, true, true, true, true, true, true, true, true] rfl rfl (one_of HT_.out (by kernel_rfl)) (by decide) (fun K hK => ?_)
      have hs23 : w22a.cell? ⟨gb135, 0, none⟩ = some (.float .f64 t136) := (blk_cell BK135.out 0).trans rfl
      have hfs23 := blk_frozen BK135.out 0
      have hns23_0 := NB133_135.out
      have hns23_1 := NB134_135.out
      have hms23_0 := NB135_133.out
      have hms23_1 := NB135_134.out
      refine skip_ (w1 := ?_) ?_ ?_ ?_ ?_
      rotate_left
      ·rfl
      ·rfl
      ·go_simp
       rfl
      refine hK.out _ _ ?_
      clear hK K
      refine done_ (done_of HT_.out (by kernel_rfl)) ?_
      try go_wp2
      go_roundg k1
      case measure => have := HK1.out; omega
      case rel => exact ⟨(wrap64 (x6_1 - 1)), (v1), (t137), _, _, (by first | rfl | (simp; done) | (simp [*]; done)), H', ⟨Flo.sp_step HS_.out A10 V1⟩, ⟨by have := HK1.out; omega⟩, ⟨by refine pk ?_; refine blk_far ?_ NB133_135.out _; refine pk ?_; exact BK133.out⟩, ⟨by refine pk ?_; refine blk_far ?_ NB134_135.out _; refine pk ?_; exact BK134.out⟩, ⟨by refine pk ?_; refine blk_put (cs := #[.float .f64 t136, .float .f64 t137]) ?_ 0 _ rfl; refine pk ?_; exact BK135.out⟩, ⟨by repeat (with_reducible first | exact HB.out | refine bz ?_ (by assumption) | apply bA | apply bN | apply bD)⟩⟩
     ·rw [if_neg c12] at H
      exact absurd H (by simp)
    ·rw [if_neg c11] at H
     exact absurd H (by simp)
   ·rw [if_neg c9] at H
    have c9b0 : decide (0 ≤ x6_1) = false := decide_eq_false c9
    clear c9
    simp only [Option.some.injEq, Prod.mk.injEq] at H
    obtain ⟨rfl, rfl⟩ := H
    have hnb24 := NB135_133.out
    have hnc24 := NB133_135.out
    have hnb25 := NB135_134.out
    have hnc25 := NB134_135.out
    have hcz26_0 : wr.cell? ⟨gb135, 0, none⟩ = some (.float .f64 x136000_1) := (blk_cell BK135.out 0).trans rfl
    have hcz26_1 : wr.cell? ⟨gb135, 1, none⟩ = some (.float .f64 x136001_1) := (blk_cell BK135.out 1).trans rfl
    have hfz26_0 := blk_frozen BK135.out 0
    have hfz26_1 := blk_frozen BK135.out 1
    have hnb27 := NB134_133.out
    have hnc27 := NB133_134.out
    have hcz28_0 : wr.cell? ⟨gb134, 0, none⟩ = some (.float .f64 (0 : Nat)) := (blk_cell BK134.out 0).trans rfl
    have hcz28_1 : wr.cell? ⟨gb134, 1, none⟩ = some (.float .f64 (0 : Nat)) := (blk_cell BK134.out 1).trans rfl
    have hfz28_0 := blk_frozen BK134.out 0
    have hfz28_1 := blk_frozen BK134.out 1
    go_wp2
    refine bodyPost_ret (results_cell_row rfl _ _ gb134 42 #[.float .f64 x136000_1, .float .f64 x136001_1] (0, 0) _ rfl (by refine pk ?_; refine blk_put (cs := #[.float .f64 x136000_1, .float .f64 (0 : Nat)]) ?_ 1 _ rfl; refine pk ?_; refine blk_put (cs := #[.float .f64 (0 : Nat), .float .f64 (0 : Nat)]) ?_ 0 _ rfl; refine pk ?_; exact BK134.out) Try.underlying42 rfl (by kernel_rfl)) rfl ?_
    exact ⟨_, _, HS_.out, by first | rfl | (simp [errW_none, errW_some] <;> rfl) | (simp [*, errW_none, errW_some] <;> rfl), by repeat (with_reducible first | exact HB.out | refine bz ?_ (by assumption) | apply bA | apply bN | apply bD)⟩
end

/-! ### spec_l2Finite: function 33 -/
def spec_l2Finite.f (a0 : Nat) : Option (Bool) := (math_IsNaN.f a0).bind fun t139 => (if t139 = true then (some false) else ((math_IsInf.f a0 0).bind fun t140 => (some (!t140))))
set_option maxHeartbeats 8000000 in
set_option maxRecDepth 100000 in
theorem spec_l2Finite.calls (a0 : Nat) (r : Bool) (w : World) (h : spec_l2Finite.f a0 = some r) :
  Calls Try.prog 33 #[.float .f64 a0] w fun e w' => e = .returned (.bool r) ∧ Drawn0 w w' := by
 have H : ((math_IsNaN.f a0).bind fun t139 => (if t139 = true then (some false) else ((math_IsInf.f a0 0).bind fun t140 => (some (!t140))))) = some r := h
 clear h
 replace H := Option.bind_eq_some_iff.mp H
 obtain ⟨t139, A20, H⟩ := H
 have A2 := Aside0.mk A20
 clear A20
 by_cases c3 : t139 = true
 ·subst c3
  have H1 : (some false) = some r := by rw [if_pos rfl] at H; exact H
  clear H
  have H := H1
  clear H1
  obtain rfl := Option.some.inj H
  go_enter Try.func33, Try.ntmps33
  go_wp2_with (first | ((with_reducible refine gate_callee (f := 47) rfl ?_); refine goesL_ (some 4) rfl rfl Try.func47 (by kernel_rfl) rfl #[.float .f64 a0] rfl (by (try simp only [lA, lB, lC]); first | done | rfl | (simp only [lD, lE]; rfl)) ?_; (with_reducible refine (math_IsNaN.calls a0 true _ A2.out).mono ?_); rintro e w' ⟨rfl, ⟨nd, rfl⟩⟩; refine ⟨_, rfl, ?_⟩))
  go_ret
  exact ⟨by first | rfl | (simp; done) | (simp [*]; done), by repeat (first | exact Drawn0.refl _ | apply Drawn0.step)⟩
 ·replace c3 := Bool.eq_false_iff.mpr c3
  subst c3
  have H1 : ((math_IsInf.f a0 0).bind fun t140 => (some (!t140))) = some r := by rw [if_neg (show ¬ (false = true) by decide)] at H; exact H
  clear H
  have H := H1
  clear H1
  replace H := Option.bind_eq_some_iff.mp H
  obtain ⟨t140, A40, H⟩ := H
  have A4 := Aside0.mk A40
  clear A40
  obtain rfl := Option.some.inj H
  go_enter Try.func33, Try.ntmps33
  go_wp2_with (first | ((with_reducible refine gate_callee (f := 47) rfl ?_); refine goesL_ (some 4) rfl rfl Try.func47 (by kernel_rfl) rfl #[.float .f64 a0] rfl (by (try simp only [lA, lB, lC]); first | done | rfl | (simp only [lD, lE]; rfl)) ?_; (with_reducible refine (math_IsNaN.calls a0 false _ A2.out).mono ?_); rintro e w' ⟨rfl, ⟨nd, rfl⟩⟩; refine ⟨_, rfl, ?_⟩) | (go_at_call 48; (with_reducible refine (math_IsInf.calls a0 0 t140 _ A4.out).mono ?_); rintro e w' ⟨rfl, ⟨nd, rfl⟩⟩))
  go_ret
  exact ⟨by first | rfl | (simp; done) | (simp [*]; done), by repeat (first | exact Drawn0.refl _ | apply Drawn0.step)⟩

/-! ### spec_l3Finite: function 34 -/
def spec_l3Finite.f (a0_0 : Nat) (a0_1 : Nat) : Option (Bool) := (spec_l2Finite.f a0_0).bind fun t142 => (if t142 = true then ((spec_l2Finite.f a0_1).bind fun t143 => (some t143)) else (some false))
set_option maxHeartbeats 8000000 in
set_option maxRecDepth 100000 in
theorem spec_l3Finite.calls (a0_0 : Nat) (a0_1 : Nat) (r : Bool) (w : World) (h : spec_l3Finite.f a0_0 a0_1 = some r) :
  Calls Try.prog 34 #[.agg #[.float .f64 a0_0, .float .f64 a0_1]] w fun e w' => e = .returned (.bool r) ∧ Below w.heap.size w w' := by
 have hu42 := Try.underlying42
 have HB := a_ (Below.refl w.heap.size w)
 have H : ((spec_l2Finite.f a0_0).bind fun t142 => (if t142 = true then ((spec_l2Finite.f a0_1).bind fun t143 => (some t143)) else (some false))) = some r := h
 clear h
 replace H := Option.bind_eq_some_iff.mp H
 obtain ⟨t142, A20, H⟩ := H
 have A2 := Aside0.mk A20
 clear A20
 by_cases c3 : t142 = true
 ·subst c3
  have H1 : ((spec_l2Finite.f a0_1).bind fun t143 => (some t143)) = some r := by rw [if_pos rfl] at H; exact H
  clear H
  have H := H1
  clear H1
  replace H := Option.bind_eq_some_iff.mp H
  obtain ⟨t143, A40, H⟩ := H
  have A4 := Aside0.mk A40
  clear A40
  obtain rfl := Option.some.inj H
  go_enter Try.func34, Try.ntmps34
  go_wp2_with (first | ((with_reducible refine gate_dst (N := 1) rfl ?_); refine box_event ?hg (N := 1) ?hd (cs := #[.float .f64 a0_0, .float .f64 a0_1]) (t := 42) ?hr ?_; (case hd => rfl); (case hg => rfl); (case hr => first | (go_simp; done) | (go_simp; rfl)); intro gb141 hg w5 hbox hb; have BK141 := a_ (hbox); have GW141 := a_ (bsg hg HB.out); have GE141 := a_ (bsg hg HB.out); replace HB := a_ (below_step (un HB.out) hb); clear hb hbox hg; have hcz6_0 : _ = some (Value.float .f64 a0_0) := (blk_cell BK141.out 0).trans rfl; have hcz6_1 : _ = some (Value.float .f64 a0_1) := (blk_cell BK141.out 1).trans rfl; have hfz6_0 := blk_frozen BK141.out 0; have hfz6_1 := blk_frozen BK141.out 1) | ((with_reducible refine gate_callee (f := 33) rfl ?_); refine goesL_ (some 5) rfl rfl Try.func33 (by kernel_rfl) rfl #[.float .f64 a0_0] rfl (by (try simp only [lA, lB, lC]); first | done | rfl | (simp only [lD, lE]; rfl)) ?_; (with_reducible refine (spec_l2Finite.calls a0_0 true _ A2.out).mono ?_); rintro e w' ⟨rfl, ⟨nd, rfl⟩⟩; refine ⟨_, rfl, ?_⟩) | (go_at_call 33; (with_reducible refine (spec_l2Finite.calls a0_1 t143 _ A4.out).mono ?_); rintro e w' ⟨rfl, ⟨nd, rfl⟩⟩))
  go_ret
  exact ⟨by first | rfl | (simp [errW_none, errW_some] <;> rfl) | (simp [*, errW_none, errW_some] <;> rfl), by repeat (with_reducible first | exact HB.out | refine bz ?_ (by assumption) | apply bA | apply bN | apply bD)⟩
 ·replace c3 := Bool.eq_false_iff.mpr c3
  subst c3
  have H1 : (some false) = some r := by rw [if_neg (show ¬ (false = true) by decide)] at H; exact H
  clear H
  have H := H1
  clear H1
  obtain rfl := Option.some.inj H
  go_enter Try.func34, Try.ntmps34
  go_wp2_with (first | ((with_reducible refine gate_dst (N := 1) rfl ?_); refine box_event ?hg (N := 1) ?hd (cs := #[.float .f64 a0_0, .float .f64 a0_1]) (t := 42) ?hr ?_; (case hd => rfl); (case hg => rfl); (case hr => first | (go_simp; done) | (go_simp; rfl)); intro gb141 hg w7 hbox hb; have BK141 := a_ (hbox); have GW141 := a_ (bsg hg HB.out); have GE141 := a_ (bsg hg HB.out); replace HB := a_ (below_step (un HB.out) hb); clear hb hbox hg; have hcz8_0 : _ = some (Value.float .f64 a0_0) := (blk_cell BK141.out 0).trans rfl; have hcz8_1 : _ = some (Value.float .f64 a0_1) := (blk_cell BK141.out 1).trans rfl; have hfz8_0 := blk_frozen BK141.out 0; have hfz8_1 := blk_frozen BK141.out 1) | ((with_reducible refine gate_callee (f := 33) rfl ?_); refine goesL_ (some 5) rfl rfl Try.func33 (by kernel_rfl) rfl #[.float .f64 a0_0] rfl (by (try simp only [lA, lB, lC]); first | done | rfl | (simp only [lD, lE]; rfl)) ?_; (with_reducible refine (spec_l2Finite.calls a0_0 false _ A2.out).mono ?_); rintro e w' ⟨rfl, ⟨nd, rfl⟩⟩; refine ⟨_, rfl, ?_⟩))
  go_ret
  exact ⟨by first | rfl | (simp [errW_none, errW_some] <;> rfl) | (simp [*, errW_none, errW_some] <;> rfl), by repeat (with_reducible first | exact HB.out | refine bz ?_ (by assumption) | apply bA | apply bN | apply bD)⟩

/-! ### spec_l3Div: function 35 -/
section
open Go.Proofs.Ytlfejohlehkbgaa.Flo (Rt Rp Rq Rd Sp Vt mRe mIm dRe dIm den denBad al toldS)
attribute [local go_sem] go_tadd go_tsub go_tmul go_tquo
set_option maxHeartbeats 8000000 in
set_option maxRecDepth 100000 in
theorem spec_l3Div.rel (a0_0 : Nat) (a0_1 : Nat) (a1_0 : Nat) (a1_1 : Nat) (w : World) (hD : Flo.denBad (Flo.den (al a1_0) (al a1_1)) = false) :
  Calls Try.prog 35 #[.agg #[.float .f64 a0_0, .float .f64 a0_1], .agg #[.float .f64 a1_0, .float .f64 a1_1]] w fun e w' => ∃ r1 r2, Sp (dRe (al a0_0) (al a0_1) (al a1_0) (al a1_1)) (dIm (al a0_0) (al a0_1) (al a1_0) (al a1_1)) r1 r2 ∧ e = .returned (.agg #[.float .f64 r1, .float .f64 r2]) ∧ Below w.heap.size w w' := by
 have hu42 := Try.underlying42
 have HB := a_ (Below.refl w.heap.size w)
 go_enter Try.func35, Try.ntmps35
 go_wp2_with (first | ((with_reducible refine gate_dst (N := 2) rfl ?_); refine box_event ?hg (N := 2) ?hd (cs := #[.float .f64 a0_0, .float .f64 a0_1]) (t := 42) ?hr ?_; (case hd => rfl); (case hg => rfl); (case hr => first | (go_simp; done) | (go_simp; rfl)); intro gb144 hg w14 hbox hb; have BK144 := a_ (hbox); have GW144 := a_ (bsg hg HB.out); have GE144 := a_ (bsg hg HB.out); replace HB := a_ (below_step (un HB.out) hb); clear hb hbox hg) | ((with_reducible refine gate_dst (N := 3) rfl ?_); refine box_event ?hg (N := 3) ?hd (cs := #[.float .f64 a1_0, .float .f64 a1_1]) (t := 42) ?hr ?_; (case hd => rfl); (case hg => rfl); (case hr => first | (go_simp; done) | (go_simp; rfl)); intro gb145 hg w15 hbox hb; have BK145 := a_ (hbox); have GW145 := a_ (bsg hg HB.out); have GE145 := a_ (bsg hg HB.out); replace HB := a_ (below_step (by repeat (with_reducible first | exact HB.out | refine bz ?_ (by assumption) | apply bA | apply bN | apply bD)) hb); have NB144_145 := a_ (nel hg BK144.out); have NB145_144 := a_ (nle hg BK144.out); replace BK144 := a_ (blk_below (pk BK144.out) hb); clear hb hbox hg) | ((with_reducible refine gate_dst (N := 4) rfl ?_); refine box_event ?hg (N := 4) ?hd (cs := #[.float .f64 (0 : Nat), .float .f64 (0 : Nat)]) (t := 42) ?hr ?_; (case hd => rfl); (case hg => rfl); (case hr => first | (go_simp; done) | (go_simp; rfl)); intro gb146 hg w16 hbox hb; have BK146 := a_ (hbox); have GW146 := a_ (bsg hg HB.out); have GE146 := a_ (bsg hg HB.out); replace HB := a_ (below_step (by repeat (with_reducible first | exact HB.out | refine bz ?_ (by assumption) | apply bA | apply bN | apply bD)) hb); have NB144_146 := a_ (nel hg BK144.out); have NB146_144 := a_ (nle hg BK144.out); replace BK144 := a_ (blk_below (pk BK144.out) hb); have NB145_146 := a_ (nel hg BK145.out); have NB146_145 := a_ (nle hg BK145.out); replace BK145 := a_ (blk_below (pk BK145.out) hb); clear hb hbox hg; have hnb17 := NB145_144.out; have hnc17 := NB144_145.out; have hnb18 := NB145_146.out; have hnc18 := NB146_145.out; have hcz19_0 : _ = some (Value.float .f64 a1_0) := (blk_cell BK145.out 0).trans rfl; have hcz19_1 : _ = some (Value.float .f64 a1_1) := (blk_cell BK145.out 1).trans rfl; have hfz19_0 := blk_frozen BK145.out 0; have hfz19_1 := blk_frozen BK145.out 1; have hnb20 := NB144_146.out; have hnc20 := NB146_144.out; have hcz21_0 : _ = some (Value.float .f64 a0_0) := (blk_cell BK144.out 0).trans rfl; have hcz21_1 : _ = some (Value.float .f64 a0_1) := (blk_cell BK144.out 1).trans rfl; have hfz21_0 := blk_frozen BK144.out 0; have hfz21_1 := blk_frozen BK144.out 1; have hcz22_0 : _ = some (Value.float .f64 (0 : Nat)) := (blk_cell BK146.out 0).trans rfl; have hcz22_1 : _ = some (Value.float .f64 (0 : Nat)) := (blk_cell BK146.out 1).trans rfl; have hfz22_0 := blk_frozen BK146.out 0; have hfz22_1 := blk_frozen BK146.out 1))
 have V1 := Flo.vt_mul a1_0 a1_0 w16
 generalize flw .mul a1_0 a1_0 w16 = v1 at V1 ⊢
 have V2 := Flo.vt_mul a1_1 a1_1 (w16.drewN (fln .mul a1_0 a1_0))
 generalize flw .mul a1_1 a1_1 (w16.drewN (fln .mul a1_0 a1_0)) = v2 at V2 ⊢
 have V3 := Flo.vt_add v1 v2 (w16.drewN (fln .mul a1_0 a1_0 + fln .mul a1_1 a1_1))
 generalize flw .add v1 v2 (w16.drewN (fln .mul a1_0 a1_0 + fln .mul a1_1 a1_1)) = v3 at V3 ⊢
 have V4 := Flo.vt_mul a0_0 a1_0 (w16.drewN (fln .mul a1_0 a1_0 + fln .mul a1_1 a1_1 + fln .add v1 v2))
 generalize flw .mul a0_0 a1_0 (w16.drewN (fln .mul a1_0 a1_0 + fln .mul a1_1 a1_1 + fln .add v1 v2)) = v4 at V4 ⊢
 have V5 := Flo.vt_mul a0_1 a1_1 (w16.drewN (fln .mul a1_0 a1_0 + fln .mul a1_1 a1_1 + fln .add v1 v2 + fln .mul a0_0 a1_0))
 generalize flw .mul a0_1 a1_1 (w16.drewN (fln .mul a1_0 a1_0 + fln .mul a1_1 a1_1 + fln .add v1 v2 + fln .mul a0_0 a1_0)) = v5 at V5 ⊢
 have V6 := Flo.vt_add v4 v5 (w16.drewN (fln .mul a1_0 a1_0 + fln .mul a1_1 a1_1 + fln .add v1 v2 + fln .mul a0_0 a1_0 + fln .mul a0_1 a1_1))
 generalize flw .add v4 v5 (w16.drewN (fln .mul a1_0 a1_0 + fln .mul a1_1 a1_1 + fln .add v1 v2 + fln .mul a0_0 a1_0 + fln .mul a0_1 a1_1)) = v6 at V6 ⊢
 have V7 := Flo.vt_mul a0_1 a1_0 (w16.drewN (fln .mul a1_0 a1_0 + fln .mul a1_1 a1_1 + fln .add v1 v2 + fln .mul a0_0 a1_0 + fln .mul a0_1 a1_1 + fln .add v4 v5))
 generalize flw .mul a0_1 a1_0 (w16.drewN (fln .mul a1_0 a1_0 + fln .mul a1_1 a1_1 + fln .add v1 v2 + fln .mul a0_0 a1_0 + fln .mul a0_1 a1_1 + fln .add v4 v5)) = v7 at V7 ⊢
 have V8 := Flo.vt_mul a0_0 a1_1 (w16.drewN (fln .mul a1_0 a1_0 + fln .mul a1_1 a1_1 + fln .add v1 v2 + fln .mul a0_0 a1_0 + fln .mul a0_1 a1_1 + fln .add v4 v5 + fln .mul a0_1 a1_0))
 generalize flw .mul a0_0 a1_1 (w16.drewN (fln .mul a1_0 a1_0 + fln .mul a1_1 a1_1 + fln .add v1 v2 + fln .mul a0_0 a1_0 + fln .mul a0_1 a1_1 + fln .add v4 v5 + fln .mul a0_1 a1_0)) = v8 at V8 ⊢
 have V9 := Flo.vt_sub v7 v8 (w16.drewN (fln .mul a1_0 a1_0 + fln .mul a1_1 a1_1 + fln .add v1 v2 + fln .mul a0_0 a1_0 + fln .mul a0_1 a1_1 + fln .add v4 v5 + fln .mul a0_1 a1_0 + fln .mul a0_0 a1_1))
 generalize flw .sub v7 v8 (w16.drewN (fln .mul a1_0 a1_0 + fln .mul a1_1 a1_1 + fln .add v1 v2 + fln .mul a0_0 a1_0 + fln .mul a0_1 a1_1 + fln .add v4 v5 + fln .mul a0_1 a1_0 + fln .mul a0_0 a1_1)) = v9 at V9 ⊢
 generalize V10 : flw .quo v6 v3 (w16.drewN (fln .mul a1_0 a1_0 + fln .mul a1_1 a1_1 + fln .add v1 v2 + fln .mul a0_0 a1_0 + fln .mul a0_1 a1_1 + fln .add v4 v5 + fln .mul a0_1 a1_0 + fln .mul a0_0 a1_1 + fln .sub v7 v8)) = v10
 generalize V11 : flw .quo v9 v3 (w16.drewN (fln .mul a1_0 a1_0 + fln .mul a1_1 a1_1 + fln .add v1 v2 + fln .mul a0_0 a1_0 + fln .mul a0_1 a1_1 + fln .add v4 v5 + fln .mul a0_1 a1_0 + fln .mul a0_0 a1_1 + fln .sub v7 v8 + fln .quo v6 v3)) = v11
 refine bodyPost_ret (results_cell_row rfl _ _ gb146 42 #[.float .f64 v10, .float .f64 v11] (0, 0) _ rfl (by refine pk ?_; refine blk_put (cs := #[.float .f64 v10, .float .f64 (0 : Nat)]) ?_ 1 _ rfl; refine pk ?_; refine blk_put (cs := #[.float .f64 (0 : Nat), .float .f64 (0 : Nat)]) ?_ 0 _ rfl; refine pk ?_; exact BK146.out) Try.underlying42 rfl (by kernel_rfl)) rfl ?_
 exact ⟨_, _, Flo.sp_div hD V1 V2 V3 V4 V5 V6 V7 V8 V9 V10 V11, by first | rfl | (simp [errW_none, errW_some] <;> rfl) | (simp [*, errW_none, errW_some] <;> rfl), by repeat (with_reducible first | exact HB.out | refine bz ?_ (by assumption) | apply bA | apply bN | apply bD)⟩
end

/-! ### spec_l2Plain: function 49 -/
def spec_l2Plain.f (a0 : Nat) : Option (Nat) := if (FloatKind.f64.format.order a0 (0 : Nat) == some Ordering.eq) = true then (some (0 : Nat)) else (some a0)
set_option maxHeartbeats 8000000 in
set_option maxRecDepth 100000 in
theorem spec_l2Plain.calls (a0 : Nat) (r : Nat) (w : World) (h : spec_l2Plain.f a0 = some r) :
  Calls Try.prog 49 #[.float .f64 a0] w fun e w' => e = .returned (.float .f64 r) ∧ Drawn0 w w' := by
 have H : (if (FloatKind.f64.format.order a0 (0 : Nat) == some Ordering.eq) = true then (some (0 : Nat)) else (some a0)) = some r := h
 clear h
 by_cases c2 : (FloatKind.f64.format.order a0 (0 : Nat) == some Ordering.eq) = true
 ·rw [if_pos c2] at H
  have c2b0 : (FloatKind.f64.format.order a0 (0 : Nat) == some Ordering.eq) = true := c2
  (try (have c2b1 : decide (FloatKind.f64.format.order a0 (0 : Nat) = some Ordering.eq) = true := by simpa using c2))
  (try (have c2b2 : (FloatKind.f64.format.order a0 (0 : Nat) == some Ordering.eq) = true := by simpa using c2))
  clear c2
  obtain rfl := Option.some.inj H
  go_enter Try.func49, Try.ntmps49
  go_wp2
  go_ret
  exact ⟨by first | rfl | (simp; done) | (simp [*]; done), by repeat (first | exact Drawn0.refl _ | apply Drawn0.step)⟩
 ·rw [if_neg c2] at H
  have c2b0 : (FloatKind.f64.format.order a0 (0 : Nat) == some Ordering.eq) = false := by simpa using c2
  (try (have c2b1 : decide (FloatKind.f64.format.order a0 (0 : Nat) = some Ordering.eq) = false := by simpa using c2))
  (try (have c2b2 : (FloatKind.f64.format.order a0 (0 : Nat) == some Ordering.eq) = false := by simpa using c2))
  (try (have c2b3 : ¬ (FloatKind.f64.format.order a0 (0 : Nat) = some Ordering.eq) := by simpa using c2))
  clear c2
  obtain rfl := Option.some.inj H
  go_enter Try.func49, Try.ntmps49
  go_wp2
  go_ret
  exact ⟨by first | rfl | (simp; done) | (simp [*]; done), by repeat (first | exact Drawn0.refl _ | apply Drawn0.step)⟩

end Go.Proofs.Ytlfejohlehkbgaa.PFnExactRootsOf
