-- Written by a program of this session out of the loaded functions' print; helper lemmas as print.sh lays them.
import Derived.Test.YtineniimpdjpnaaUp2
import Derived.Test.YtineniimpdjpnaaUp
import Derived.Test.YtineniimpdjpnaaRFnExactRunHoldx0
import Derived.Test.YtineniimpdjpnaaRFnExactRunHoldx2
namespace Go.Proofs.Ytineniimpdjpnaa.PFnExactRunHold
open Go.RowKit Go.Proofs.YtineniimpdjpnaaW.PrintWords Go.Proofs.YtineniimpdjpnaaW.PrintLast Go.Proofs.YtineniimpdjpnaaW.PrintMore
attribute [local go_sem] max2_int min2_int max_two min_two max_three min_three max_four min_four  -- for this text's walks alone
set_option linter.unusedVariables false
set_option linter.unusedSimpArgs false

/-! ### spec_HoldStep: function 24 -/
mutual
def spec_HoldStep.j0 : Nat → Int → Int → Bool → Int → Int → Int → Int → Int → Int → Int → Bool → Int → Int → Int → Option (Bool × Int × Int × Int × Bool)
 | 0, _, _, _, _, _, _, _, _, _, _, _, _, _, _ => none
 | k + 1, x2, x3, x28, x110000, x110001, x110002, x110003, x110004, x110005, x110006, x111000, x111001, x111002, x111003 => if x28 = true then (some (false, 0, 0, 0, false)) else (if x111000 = true then (spec_HoldStep.j1 k (wrap64 (x2 - x3)) (wrap64 ((wrap64 (x2 - x3)) - x111002)) x110000 x110001 x110002 x110003 x110004 x110005 x110006 x111000 x111001 x111002 x111003) else (spec_HoldStep.j1 k (wrap64 (x2 - x3)) 0 x110000 x110001 x110002 x110003 x110004 x110005 x110006 x111000 x111001 x111002 x111003))
def spec_HoldStep.j1 : Nat → Int → Int → Int → Int → Int → Int → Int → Int → Int → Bool → Int → Int → Int → Option (Bool × Int × Int × Int × Bool)
 | 0, _, _, _, _, _, _, _, _, _, _, _, _, _ => none
 | k + 1, x10, x11, x110000, x110001, x110002, x110003, x110004, x110005, x110006, x111000, x111001, x111002, x111003 => (spec_l13Cut.f (wrap64 (x111001 + x10)) (wrap64 (-x110005)) x110005).bind fun t115 => ((spec_l13Down.f (wrap64 ((wrap64 ((wrap64 (x110000 * x10)) + (wrap64 (x110001 * t115)))) + (wrap64 (x110002 * x11)))) x110003).bind fun t116 => ((spec_l13Cut.f t116 (wrap64 (-x110004)) x110004).bind fun t117 => (if t116 > x110004 then (if x10 > 0 then (spec_HoldStep.j2 k true x110000 x110001 x110002 x110003 x110004 x110005 x110006 x111000 x111001 x111002 x111003 true t115 x10 t117) else (if t116 < (wrap64 (-x110004)) then (spec_HoldStep.j2 k (decide (x10 < 0)) x110000 x110001 x110002 x110003 x110004 x110005 x110006 x111000 x111001 x111002 x111003 true t115 x10 t117) else (spec_HoldStep.j2 k false x110000 x110001 x110002 x110003 x110004 x110005 x110006 x111000 x111001 x111002 x111003 true t115 x10 t117))) else (if t116 < (wrap64 (-x110004)) then (spec_HoldStep.j2 k (decide (x10 < 0)) x110000 x110001 x110002 x110003 x110004 x110005 x110006 x111000 x111001 x111002 x111003 true t115 x10 t117) else (spec_HoldStep.j2 k false x110000 x110001 x110002 x110003 x110004 x110005 x110006 x111000 x111001 x111002 x111003 true t115 x10 t117)))))
def spec_HoldStep.j2 : Nat → Bool → Int → Int → Int → Int → Int → Int → Int → Bool → Int → Int → Int → Bool → Int → Int → Int → Option (Bool × Int × Int × Int × Bool)
 | 0, _, _, _, _, _, _, _, _, _, _, _, _, _, _, _, _ => none
 | k + 1, x94, x110000, x110001, x110002, x110003, x110004, x110005, x110006, x111000, x111001, x111002, x111003, x119000, x119001, x119002, x119003 => if x94 = true then (if x111000 = true then (if x110006 > 0 then ((spec_l13Cut.f x119003 (wrap64 (x111003 - x110006)) (wrap64 (x111003 + x110006))).bind fun t119 => (some (x119000, x111001, x119002, t119, true))) else (some (x119000, x111001, x119002, x119003, true))) else (some (x119000, x111001, x119002, x119003, true))) else (if x111000 = true then (if x110006 > 0 then ((spec_l13Cut.f x119003 (wrap64 (x111003 - x110006)) (wrap64 (x111003 + x110006))).bind fun t120 => (some (x119000, x119001, x119002, t120, true))) else (some (x119000, x119001, x119002, x119003, true))) else (some (x119000, x119001, x119002, x119003, true)))
end
def spec_HoldStep.f (k : Nat) (a0_0 : Int) (a0_1 : Int) (a0_2 : Int) (a0_3 : Int) (a0_4 : Int) (a0_5 : Int) (a0_6 : Int) (a1_0 : Bool) (a1_1 : Int) (a1_2 : Int) (a1_3 : Int) (a2 : Int) (a3 : Int) : Option (Bool × Int × Int × Int × Bool) := (spec_GoodHold.f a0_0 a0_1 a0_2 a0_3 a0_4 a0_5 a0_6 a1_0 a1_1 a1_2 a1_3).bind fun t112 => (if t112 = true then ((spec_l13Value.f a2).bind fun t113 => (if t113 = true then ((spec_l13Value.f a3).bind fun t114 => (spec_HoldStep.j0 k a2 a3 (!t114) a0_0 a0_1 a0_2 a0_3 a0_4 a0_5 a0_6 a1_0 a1_1 a1_2 a1_3)) else (spec_HoldStep.j0 k a2 a3 true a0_0 a0_1 a0_2 a0_3 a0_4 a0_5 a0_6 a1_0 a1_1 a1_2 a1_3))) else (spec_HoldStep.j0 k a2 a3 true a0_0 a0_1 a0_2 a0_3 a0_4 a0_5 a0_6 a1_0 a1_1 a1_2 a1_3))
theorem spec_HoldStep.mono_l : ∀ k, (∀ y0 y1 y2 y3 y4 y5 y6 y7 y8 y9 y10 y11 y12 y13, LeO (spec_HoldStep.j0 k y0 y1 y2 y3 y4 y5 y6 y7 y8 y9 y10 y11 y12 y13) (spec_HoldStep.j0 (k + 1) y0 y1 y2 y3 y4 y5 y6 y7 y8 y9 y10 y11 y12 y13)) ∧ (∀ y0 y1 y2 y3 y4 y5 y6 y7 y8 y9 y10 y11 y12, LeO (spec_HoldStep.j1 k y0 y1 y2 y3 y4 y5 y6 y7 y8 y9 y10 y11 y12) (spec_HoldStep.j1 (k + 1) y0 y1 y2 y3 y4 y5 y6 y7 y8 y9 y10 y11 y12)) ∧ (∀ y0 y1 y2 y3 y4 y5 y6 y7 y8 y9 y10 y11 y12 y13 y14 y15, LeO (spec_HoldStep.j2 k y0 y1 y2 y3 y4 y5 y6 y7 y8 y9 y10 y11 y12 y13 y14 y15) (spec_HoldStep.j2 (k + 1) y0 y1 y2 y3 y4 y5 y6 y7 y8 y9 y10 y11 y12 y13 y14 y15))
 | 0 => ⟨fun _ _ _ _ _ _ _ _ _ _ _ _ _ _ r h => by simp [spec_HoldStep.j0] at h, fun _ _ _ _ _ _ _ _ _ _ _ _ _ r h => by simp [spec_HoldStep.j1] at h, fun _ _ _ _ _ _ _ _ _ _ _ _ _ _ _ _ r h => by simp [spec_HoldStep.j2] at h⟩
 | k + 1 => by
  obtain ⟨ih0, ih1, ih2⟩ := spec_HoldStep.mono_l k
  refine ⟨?_, ?_, ?_⟩
  ·intro y0 y1 y2 y3 y4 y5 y6 y7 y8 y9 y10 y11 y12 y13
   unfold spec_HoldStep.j0
   repeat' first
   | (with_reducible exact ih0 _ _ _ _ _ _ _ _ _ _ _ _ _ _)
   | (with_reducible exact ih1 _ _ _ _ _ _ _ _ _ _ _ _ _)
   | (with_reducible exact ih2 _ _ _ _ _ _ _ _ _ _ _ _ _ _ _ _)
   | (with_reducible exact LeO.refl _)
   | (with_reducible exact LeO.none _)
   | (with_reducible refine LeO.ite ?_ ?_)
   | (with_reducible refine LeO.bind ?_ (fun _ => ?_))
   | exact ih0 _ _ _ _ _ _ _ _ _ _ _ _ _ _
   | exact ih1 _ _ _ _ _ _ _ _ _ _ _ _ _
   | exact ih2 _ _ _ _ _ _ _ _ _ _ _ _ _ _ _ _
   | exact LeO.none _
   | refine LeO.ite ?_ ?_
   | refine LeO.bind ?_ (fun _ => ?_)
  ·intro y0 y1 y2 y3 y4 y5 y6 y7 y8 y9 y10 y11 y12
   unfold spec_HoldStep.j1
   repeat' first
   | (with_reducible exact ih0 _ _ _ _ _ _ _ _ _ _ _ _ _ _)
   | (with_reducible exact ih1 _ _ _ _ _ _ _ _ _ _ _ _ _)
   | (with_reducible exact ih2 _ _ _ _ _ _ _ _ _ _ _ _ _ _ _ _)
   | (with_reducible exact LeO.refl _)
   | (with_reducible exact LeO.none _)
   | (with_reducible refine LeO.ite ?_ ?_)
   | (with_reducible refine LeO.bind ?_ (fun _ => ?_))
   | exact ih0 _ _ _ _ _ _ _ _ _ _ _ _ _ _
   | exact ih1 _ _ _ _ _ _ _ _ _ _ _ _ _
   | exact ih2 _ _ _ _ _ _ _ _ _ _ _ _ _ _ _ _
   | exact LeO.none _
   | refine LeO.ite ?_ ?_
   | refine LeO.bind ?_ (fun _ => ?_)
  ·intro y0 y1 y2 y3 y4 y5 y6 y7 y8 y9 y10 y11 y12 y13 y14 y15
   unfold spec_HoldStep.j2
   repeat' first
   | (with_reducible exact ih0 _ _ _ _ _ _ _ _ _ _ _ _ _ _)
   | (with_reducible exact ih1 _ _ _ _ _ _ _ _ _ _ _ _ _)
   | (with_reducible exact ih2 _ _ _ _ _ _ _ _ _ _ _ _ _ _ _ _)
   | (with_reducible exact LeO.refl _)
   | (with_reducible exact LeO.none _)
   | (with_reducible refine LeO.ite ?_ ?_)
   | (with_reducible refine LeO.bind ?_ (fun _ => ?_))
   | exact ih0 _ _ _ _ _ _ _ _ _ _ _ _ _ _
   | exact ih1 _ _ _ _ _ _ _ _ _ _ _ _ _
   | exact ih2 _ _ _ _ _ _ _ _ _ _ _ _ _ _ _ _
   | exact LeO.none _
   | refine LeO.ite ?_ ?_
   | refine LeO.bind ?_ (fun _ => ?_)
theorem spec_HoldStep.mono : ∀ a0 a1 a2 a3 a4 a5 a6 a7 a8 a9 a10 a11 a12 k, LeO (spec_HoldStep.f k a0 a1 a2 a3 a4 a5 a6 a7 a8 a9 a10 a11 a12) (spec_HoldStep.f (k + 1) a0 a1 a2 a3 a4 a5 a6 a7 a8 a9 a10 a11 a12) := by
 intro a0 a1 a2 a3 a4 a5 a6 a7 a8 a9 a10 a11 a12 k
 obtain ⟨ih0, ih1, ih2⟩ := spec_HoldStep.mono_l k
 unfold spec_HoldStep.f
 repeat' first
   | (with_reducible exact ih0 _ _ _ _ _ _ _ _ _ _ _ _ _ _)
   | (with_reducible exact ih1 _ _ _ _ _ _ _ _ _ _ _ _ _)
   | (with_reducible exact ih2 _ _ _ _ _ _ _ _ _ _ _ _ _ _ _ _)
   | (with_reducible exact LeO.refl _)
   | (with_reducible exact LeO.none _)
   | (with_reducible refine LeO.ite ?_ ?_)
   | (with_reducible refine LeO.bind ?_ (fun _ => ?_))
   | exact ih0 _ _ _ _ _ _ _ _ _ _ _ _ _ _
   | exact ih1 _ _ _ _ _ _ _ _ _ _ _ _ _
   | exact ih2 _ _ _ _ _ _ _ _ _ _ _ _ _ _ _ _
   | exact LeO.none _
   | refine LeO.ite ?_ ?_
   | refine LeO.bind ?_ (fun _ => ?_)
set_option maxHeartbeats 8000000 in
set_option maxRecDepth 100000 in
theorem spec_HoldStep.calls (k : Nat) (a0_0 : Int) (a0_1 : Int) (a0_2 : Int) (a0_3 : Int) (a0_4 : Int) (a0_5 : Int) (a0_6 : Int) (a1_0 : Bool) (a1_1 : Int) (a1_2 : Int) (a1_3 : Int) (a2 : Int) (a3 : Int) (r1 : Bool) (r2 : Int) (r3 : Int) (r4 : Int) (r5 : Bool) (w : World) (h : spec_HoldStep.f k a0_0 a0_1 a0_2 a0_3 a0_4 a0_5 a0_6 a1_0 a1_1 a1_2 a1_3 a2 a3 = some (r1, r2, r3, r4, r5)) :
  Calls Try.prog 24 #[.agg #[.int .i64 a0_0, .int .i64 a0_1, .int .i64 a0_2, .int .i64 a0_3, .int .i64 a0_4, .int .i64 a0_5, .int .i64 a0_6], .agg #[.bool a1_0, .int .i64 a1_1, .int .i64 a1_2, .int .i64 a1_3], .int .i64 a2, .int .i64 a3] w fun e w' => e = .returned (.tuple #[.agg #[.bool r1, .int .i64 r2, .int .i64 r3, .int .i64 r4], .bool r5]) ∧ Below w.heap.size w w' := by
 have hu30 := Try.underlying30
 have hu27 := Try.underlying27
 have HB := a_ (Below.refl w.heap.size w)
 have H : ((spec_GoodHold.f a0_0 a0_1 a0_2 a0_3 a0_4 a0_5 a0_6 a1_0 a1_1 a1_2 a1_3).bind fun t112 => (if t112 = true then ((spec_l13Value.f a2).bind fun t113 => (if t113 = true then ((spec_l13Value.f a3).bind fun t114 => (spec_HoldStep.j0 k a2 a3 (!t114) a0_0 a0_1 a0_2 a0_3 a0_4 a0_5 a0_6 a1_0 a1_1 a1_2 a1_3)) else (spec_HoldStep.j0 k a2 a3 true a0_0 a0_1 a0_2 a0_3 a0_4 a0_5 a0_6 a1_0 a1_1 a1_2 a1_3))) else (spec_HoldStep.j0 k a2 a3 true a0_0 a0_1 a0_2 a0_3 a0_4 a0_5 a0_6 a1_0 a1_1 a1_2 a1_3))) = some (r1, r2, r3, r4, r5) := h
 clear h
 have HC5 := Aside0.mk H
 clear H
 go_enter Try.func24, Try.ntmps24
 go_upto_region 1 with (first | ((with_reducible refine gate_dst (N := 4) rfl ?_); refine box_event ?hg (N := 4) ?hd (cs := #[.int .i64 a0_0, .int .i64 a0_1, .int .i64 a0_2, .int .i64 a0_3, .int .i64 a0_4, .int .i64 a0_5, .int .i64 a0_6]) (t := 30) ?hr ?_; (case hd => rfl); (case hg => rfl); (case hr => first | (go_simp; done) | (go_simp; rfl)); intro gb109 hg w6 hbox hb; have BK109 := a_ (hbox); have GW109 := a_ (bsg hg HB.out); have GE109 := a_ (bsg hg HB.out); replace HB := a_ (below_step (un HB.out) hb); clear hb hbox hg) | ((with_reducible refine gate_dst (N := 5) rfl ?_); refine box_event ?hg (N := 5) ?hd (cs := #[.bool a1_0, .int .i64 a1_1, .int .i64 a1_2, .int .i64 a1_3]) (t := 27) ?hr ?_; (case hd => rfl); (case hg => rfl); (case hr => first | (go_simp; done) | (go_simp; rfl)); intro gb110 hg w7 hbox hb; have BK110 := a_ (hbox); have GW110 := a_ (bsg hg HB.out); have GE110 := a_ (bsg hg HB.out); replace HB := a_ (below_step (by repeat (with_reducible first | exact HB.out | refine bz ?_ (by assumption) | apply bA | apply bN | apply bD)) hb); have NB109_110 := a_ (nel hg BK109.out); have NB110_109 := a_ (nle hg BK109.out); replace BK109 := a_ (blk_below (pk BK109.out) hb); clear hb hbox hg) | ((with_reducible refine gate_dst (N := 8) rfl ?_); refine box_event ?hg (N := 8) ?hd (cs := #[.bool false, .int .i64 0, .int .i64 0, .int .i64 0]) (t := 27) ?hr ?_; (case hd => rfl); (case hg => rfl); (case hr => first | (go_simp; done) | (go_simp; rfl)); intro gb111 hg w8 hbox hb; have BK111 := a_ (hbox); have GW111 := a_ (bsg hg HB.out); have GE111 := a_ (bsg hg HB.out); replace HB := a_ (below_step (by repeat (with_reducible first | exact HB.out | refine bz ?_ (by assumption) | apply bA | apply bN | apply bD)) hb); have NB109_111 := a_ (nel hg BK109.out); have NB111_109 := a_ (nle hg BK109.out); replace BK109 := a_ (blk_below (pk BK109.out) hb); have NB110_111 := a_ (nel hg BK110.out); have NB111_110 := a_ (nle hg BK110.out); replace BK110 := a_ (blk_below (pk BK110.out) hb); clear hb hbox hg))
 (try simp only [Act.put, sB, sC, sD])
 go_cut [28] (fun v28 wc => ∃ (kq : Nat) (x28_4 : Bool), v28 = .bool x28_4 ∧ Aside0 (spec_HoldStep.j0 kq a2 a3 x28_4 a0_0 a0_1 a0_2 a0_3 a0_4 a0_5 a0_6 a1_0 a1_1 a1_2 a1_3 = some (r1, r2, r3, r4, r5)) ∧ Aside0 (kq ≤ k) ∧ Aside0 (wc.heap[gb109]? = some (.cells #[.int .i64 a0_0, .int .i64 a0_1, .int .i64 a0_2, .int .i64 a0_3, .int .i64 a0_4, .int .i64 a0_5, .int .i64 a0_6] 30 (0, 0))) ∧ Aside0 (wc.heap[gb110]? = some (.cells #[.bool a1_0, .int .i64 a1_1, .int .i64 a1_2, .int .i64 a1_3] 27 (0, 0))) ∧ Aside0 (wc.heap[gb111]? = some (.cells #[.bool false, .int .i64 0, .int .i64 0, .int .i64 0] 27 (0, 0))) ∧ Aside0 (Below w.heap.size w wc))
 case first =>
  have H := HC5.out
  clear HC5
  replace H := Option.bind_eq_some_iff.mp H
  obtain ⟨t112, A90, H⟩ := H
  replace H : (if t112 = true then ((spec_l13Value.f a2).bind fun t113 => (if t113 = true then ((spec_l13Value.f a3).bind fun t114 => (spec_HoldStep.j0 k a2 a3 (!t114) a0_0 a0_1 a0_2 a0_3 a0_4 a0_5 a0_6 a1_0 a1_1 a1_2 a1_3)) else (spec_HoldStep.j0 k a2 a3 true a0_0 a0_1 a0_2 a0_3 a0_4 a0_5 a0_6 a1_0 a1_1 a1_2 a1_3))) else (spec_HoldStep.j0 k a2 a3 true a0_0 a0_1 a0_2 a0_3 a0_4 a0_5 a0_6 a1_0 a1_1 a1_2 a1_3)) = some (r1, r2, r3, r4, r5) := H
  have A9 := Aside0.mk A90
  clear A90
  by_cases c10 : t112 = true
  ·subst c10
   have H1 : ((spec_l13Value.f a2).bind fun t113 => (if t113 = true then ((spec_l13Value.f a3).bind fun t114 => (spec_HoldStep.j0 k a2 a3 (!t114) a0_0 a0_1 a0_2 a0_3 a0_4 a0_5 a0_6 a1_0 a1_1 a1_2 a1_3)) else (spec_HoldStep.j0 k a2 a3 true a0_0 a0_1 a0_2 a0_3 a0_4 a0_5 a0_6 a1_0 a1_1 a1_2 a1_3))) = some (r1, r2, r3, r4, r5) := by rw [if_pos rfl] at H; exact H
   clear H
   have H := H1
   clear H1
   replace H := Option.bind_eq_some_iff.mp H
   obtain ⟨t113, A110, H⟩ := H
   replace H : (if t113 = true then ((spec_l13Value.f a3).bind fun t114 => (spec_HoldStep.j0 k a2 a3 (!t114) a0_0 a0_1 a0_2 a0_3 a0_4 a0_5 a0_6 a1_0 a1_1 a1_2 a1_3)) else (spec_HoldStep.j0 k a2 a3 true a0_0 a0_1 a0_2 a0_3 a0_4 a0_5 a0_6 a1_0 a1_1 a1_2 a1_3)) = some (r1, r2, r3, r4, r5) := H
   have A11 := Aside0.mk A110
   clear A110
   by_cases c12 : t113 = true
   ·subst c12
    have H1 : ((spec_l13Value.f a3).bind fun t114 => (spec_HoldStep.j0 k a2 a3 (!t114) a0_0 a0_1 a0_2 a0_3 a0_4 a0_5 a0_6 a1_0 a1_1 a1_2 a1_3)) = some (r1, r2, r3, r4, r5) := by rw [if_pos rfl] at H; exact H
    clear H
    have H := H1
    clear H1
    replace H := Option.bind_eq_some_iff.mp H
    obtain ⟨t114, A130, H⟩ := H
    replace H : (spec_HoldStep.j0 k a2 a3 (!t114) a0_0 a0_1 a0_2 a0_3 a0_4 a0_5 a0_6 a1_0 a1_1 a1_2 a1_3) = some (r1, r2, r3, r4, r5) := H
    have A13 := Aside0.mk A130
    clear A130
    have H' := Aside0.mk H
    clear H
    have hnb14 := NB109_110.out
    have hnc14 := NB110_109.out
    have hnb15 := NB109_111.out
    have hnc15 := NB111_109.out
    have hcz16_0 : _ = some (Value.int .i64 a0_0) := (blk_cell BK109.out 0).trans rfl
    have hcz16_1 : _ = some (Value.int .i64 a0_1) := (blk_cell BK109.out 1).trans rfl
    have hcz16_2 : _ = some (Value.int .i64 a0_2) := (blk_cell BK109.out 2).trans rfl
    have hcz16_3 : _ = some (Value.int .i64 a0_3) := (blk_cell BK109.out 3).trans rfl
    have hcz16_4 : _ = some (Value.int .i64 a0_4) := (blk_cell BK109.out 4).trans rfl
    have hcz16_5 : _ = some (Value.int .i64 a0_5) := (blk_cell BK109.out 5).trans rfl
    have hcz16_6 : _ = some (Value.int .i64 a0_6) := (blk_cell BK109.out 6).trans rfl
    have hfz16_0 := blk_frozen BK109.out 0
    have hfz16_1 := blk_frozen BK109.out 1
    have hfz16_2 := blk_frozen BK109.out 2
    have hfz16_3 := blk_frozen BK109.out 3
    have hfz16_4 := blk_frozen BK109.out 4
    have hfz16_5 := blk_frozen BK109.out 5
    have hfz16_6 := blk_frozen BK109.out 6
    have hnb17 := NB110_111.out
    have hnc17 := NB111_110.out
    have hcz18_0 : _ = some (Value.bool a1_0) := (blk_cell BK110.out 0).trans rfl
    have hcz18_1 : _ = some (Value.int .i64 a1_1) := (blk_cell BK110.out 1).trans rfl
    have hcz18_2 : _ = some (Value.int .i64 a1_2) := (blk_cell BK110.out 2).trans rfl
    have hcz18_3 : _ = some (Value.int .i64 a1_3) := (blk_cell BK110.out 3).trans rfl
    have hfz18_0 := blk_frozen BK110.out 0
    have hfz18_1 := blk_frozen BK110.out 1
    have hfz18_2 := blk_frozen BK110.out 2
    have hfz18_3 := blk_frozen BK110.out 3
    go_wp2_with (first | ((with_reducible refine gate_callee (f := 22) rfl ?_); refine goesL_ (some 17) rfl rfl Try.func22 (by kernel_rfl) rfl #[.agg #[.int .i64 a0_0, .int .i64 a0_1, .int .i64 a0_2, .int .i64 a0_3, .int .i64 a0_4, .int .i64 a0_5, .int .i64 a0_6], .agg #[.bool a1_0, .int .i64 a1_1, .int .i64 a1_2, .int .i64 a1_3]] rfl (by (try simp only [lA, lB, lC]); first | done | rfl | (simp only [lD, lE]; rfl)) ?_; (with_reducible refine (spec_GoodHold.calls a0_0 a0_1 a0_2 a0_3 a0_4 a0_5 a0_6 a1_0 a1_1 a1_2 a1_3 true _ A9.out).mono ?_); rintro e w19 ⟨rfl, hb⟩; refine ⟨_, rfl, ?_⟩; replace BK109 := a_ (blk_below (pk BK109.out) hb); replace BK110 := a_ (blk_below (pk BK110.out) hb); replace BK111 := a_ (blk_below (pk BK111.out) hb); replace HB := a_ (below_step (by repeat (with_reducible first | exact HB.out | refine bz ?_ (by assumption) | apply bA | apply bN | apply bD)) hb); clear hb) | (go_at_call 41; (with_reducible refine (spec_l13Value.calls a2 true _ A11.out).mono ?_); rintro e w' ⟨rfl, ⟨nd, rfl⟩⟩) | (go_at_call 41; (with_reducible refine (spec_l13Value.calls a3 t114 _ A13.out).mono ?_); rintro e w' ⟨rfl, ⟨nd, rfl⟩⟩))
    go_meet
    case rel => exact ⟨_, (!t114), (by first | rfl | (simp; done) | (simp [*]; done)), H', ⟨by first | omega | exact Nat.le_refl _⟩, ⟨pk BK109.out⟩, ⟨pk BK110.out⟩, ⟨pk BK111.out⟩, ⟨by repeat (with_reducible first | exact HB.out | refine bz ?_ (by assumption) | apply bA | apply bN | apply bD)⟩⟩
   ·replace c12 := Bool.eq_false_iff.mpr c12
    subst c12
    have H1 : (spec_HoldStep.j0 k a2 a3 true a0_0 a0_1 a0_2 a0_3 a0_4 a0_5 a0_6 a1_0 a1_1 a1_2 a1_3) = some (r1, r2, r3, r4, r5) := by rw [if_neg (show ¬ (false = true) by decide)] at H; exact H
    clear H
    have H := H1
    clear H1
    have H' := Aside0.mk H
    clear H
    have hnb20 := NB109_110.out
    have hnc20 := NB110_109.out
    have hnb21 := NB109_111.out
    have hnc21 := NB111_109.out
    have hcz22_0 : _ = some (Value.int .i64 a0_0) := (blk_cell BK109.out 0).trans rfl
    have hcz22_1 : _ = some (Value.int .i64 a0_1) := (blk_cell BK109.out 1).trans rfl
    have hcz22_2 : _ = some (Value.int .i64 a0_2) := (blk_cell BK109.out 2).trans rfl
    have hcz22_3 : _ = some (Value.int .i64 a0_3) := (blk_cell BK109.out 3).trans rfl
    have hcz22_4 : _ = some (Value.int .i64 a0_4) := (blk_cell BK109.out 4).trans rfl
    have hcz22_5 : _ = some (Value.int .i64 a0_5) := (blk_cell BK109.out 5).trans rfl
    have hcz22_6 : _ = some (Value.int .i64 a0_6) := (blk_cell BK109.out 6).trans rfl
    have hfz22_0 := blk_frozen BK109.out 0
    have hfz22_1 := blk_frozen BK109.out 1
    have hfz22_2 := blk_frozen BK109.out 2
    have hfz22_3 := blk_frozen BK109.out 3
    have hfz22_4 := blk_frozen BK109.out 4
    have hfz22_5 := blk_frozen BK109.out 5
    have hfz22_6 := blk_frozen BK109.out 6
    have hnb23 := NB110_111.out
    have hnc23 := NB111_110.out
    have hcz24_0 : _ = some (Value.bool a1_0) := (blk_cell BK110.out 0).trans rfl
    have hcz24_1 : _ = some (Value.int .i64 a1_1) := (blk_cell BK110.out 1).trans rfl
    have hcz24_2 : _ = some (Value.int .i64 a1_2) := (blk_cell BK110.out 2).trans rfl
    have hcz24_3 : _ = some (Value.int .i64 a1_3) := (blk_cell BK110.out 3).trans rfl
    have hfz24_0 := blk_frozen BK110.out 0
    have hfz24_1 := blk_frozen BK110.out 1
    have hfz24_2 := blk_frozen BK110.out 2
    have hfz24_3 := blk_frozen BK110.out 3
    go_wp2_with (first | ((with_reducible refine gate_callee (f := 22) rfl ?_); refine goesL_ (some 17) rfl rfl Try.func22 (by kernel_rfl) rfl #[.agg #[.int .i64 a0_0, .int .i64 a0_1, .int .i64 a0_2, .int .i64 a0_3, .int .i64 a0_4, .int .i64 a0_5, .int .i64 a0_6], .agg #[.bool a1_0, .int .i64 a1_1, .int .i64 a1_2, .int .i64 a1_3]] rfl (by (try simp only [lA, lB, lC]); first | done | rfl | (simp only [lD, lE]; rfl)) ?_; (with_reducible refine (spec_GoodHold.calls a0_0 a0_1 a0_2 a0_3 a0_4 a0_5 a0_6 a1_0 a1_1 a1_2 a1_3 true _ A9.out).mono ?_); rintro e w25 ⟨rfl, hb⟩; refine ⟨_, rfl, ?_⟩; replace BK109 := a_ (blk_below (pk BK109.out) hb); replace BK110 := a_ (blk_below (pk BK110.out) hb); replace BK111 := a_ (blk_below (pk BK111.out) hb); replace HB := a_ (below_step (by repeat (with_reducible first | exact HB.out | refine bz ?_ (by assumption) | apply bA | apply bN | apply bD)) hb); clear hb) | (go_at_call 41; (with_reducible refine (spec_l13Value.calls a2 false _ A11.out).mono ?_); rintro e w' ⟨rfl, ⟨nd, rfl⟩⟩))
    go_meet
    case rel => exact ⟨_, (true), (by first | rfl | (simp; done) | (simp [*]; done)), H', ⟨by first | omega | exact Nat.le_refl _⟩, ⟨pk BK109.out⟩, ⟨pk BK110.out⟩, ⟨pk BK111.out⟩, ⟨by repeat (with_reducible first | exact HB.out | refine bz ?_ (by assumption) | apply bA | apply bN | apply bD)⟩⟩
  ·replace c10 := Bool.eq_false_iff.mpr c10
   subst c10
   have H1 : (spec_HoldStep.j0 k a2 a3 true a0_0 a0_1 a0_2 a0_3 a0_4 a0_5 a0_6 a1_0 a1_1 a1_2 a1_3) = some (r1, r2, r3, r4, r5) := by rw [if_neg (show ¬ (false = true) by decide)] at H; exact H
   clear H
   have H := H1
   clear H1
   have H' := Aside0.mk H
   clear H
   have hnb26 := NB109_110.out
   have hnc26 := NB110_109.out
   have hnb27 := NB109_111.out
   have hnc27 := NB111_109.out
   have hcz28_0 : _ = some (Value.int .i64 a0_0) := (blk_cell BK109.out 0).trans rfl
   have hcz28_1 : _ = some (Value.int .i64 a0_1) := (blk_cell BK109.out 1).trans rfl
   have hcz28_2 : _ = some (Value.int .i64 a0_2) := (blk_cell BK109.out 2).trans rfl
   have hcz28_3 : _ = some (Value.int .i64 a0_3) := (blk_cell BK109.out 3).trans rfl
   have hcz28_4 : _ = some (Value.int .i64 a0_4) := (blk_cell BK109.out 4).trans rfl
   have hcz28_5 : _ = some (Value.int .i64 a0_5) := (blk_cell BK109.out 5).trans rfl
   have hcz28_6 : _ = some (Value.int .i64 a0_6) := (blk_cell BK109.out 6).trans rfl
   have hfz28_0 := blk_frozen BK109.out 0
   have hfz28_1 := blk_frozen BK109.out 1
   have hfz28_2 := blk_frozen BK109.out 2
   have hfz28_3 := blk_frozen BK109.out 3
   have hfz28_4 := blk_frozen BK109.out 4
   have hfz28_5 := blk_frozen BK109.out 5
   have hfz28_6 := blk_frozen BK109.out 6
   have hnb29 := NB110_111.out
   have hnc29 := NB111_110.out
   have hcz30_0 : _ = some (Value.bool a1_0) := (blk_cell BK110.out 0).trans rfl
   have hcz30_1 : _ = some (Value.int .i64 a1_1) := (blk_cell BK110.out 1).trans rfl
   have hcz30_2 : _ = some (Value.int .i64 a1_2) := (blk_cell BK110.out 2).trans rfl
   have hcz30_3 : _ = some (Value.int .i64 a1_3) := (blk_cell BK110.out 3).trans rfl
   have hfz30_0 := blk_frozen BK110.out 0
   have hfz30_1 := blk_frozen BK110.out 1
   have hfz30_2 := blk_frozen BK110.out 2
   have hfz30_3 := blk_frozen BK110.out 3
   go_wp2_with (first | ((with_reducible refine gate_callee (f := 22) rfl ?_); refine goesL_ (some 17) rfl rfl Try.func22 (by kernel_rfl) rfl #[.agg #[.int .i64 a0_0, .int .i64 a0_1, .int .i64 a0_2, .int .i64 a0_3, .int .i64 a0_4, .int .i64 a0_5, .int .i64 a0_6], .agg #[.bool a1_0, .int .i64 a1_1, .int .i64 a1_2, .int .i64 a1_3]] rfl (by (try simp only [lA, lB, lC]); first | done | rfl | (simp only [lD, lE]; rfl)) ?_; (with_reducible refine (spec_GoodHold.calls a0_0 a0_1 a0_2 a0_3 a0_4 a0_5 a0_6 a1_0 a1_1 a1_2 a1_3 false _ A9.out).mono ?_); rintro e w31 ⟨rfl, hb⟩; refine ⟨_, rfl, ?_⟩; replace BK109 := a_ (blk_below (pk BK109.out) hb); replace BK110 := a_ (blk_below (pk BK110.out) hb); replace BK111 := a_ (blk_below (pk BK111.out) hb); replace HB := a_ (below_step (by repeat (with_reducible first | exact HB.out | refine bz ?_ (by assumption) | apply bA | apply bN | apply bD)) hb); clear hb))
   go_meet
   case rel => exact ⟨_, (true), (by first | rfl | (simp; done) | (simp [*]; done)), H', ⟨by first | omega | exact Nat.le_refl _⟩, ⟨pk BK109.out⟩, ⟨pk BK110.out⟩, ⟨pk BK111.out⟩, ⟨by repeat (with_reducible first | exact HB.out | refine bz ?_ (by assumption) | apply bA | apply bN | apply bD)⟩⟩
 case rest =>
  clear HC5
  try clear c1; try clear c2; try clear p2; try clear c10; try clear c12; try clear c14; try clear c15; try clear c17; try clear c20; try clear c21; try clear c22; try clear c23; try clear c24; try clear c26; try clear c27; try clear c29; try clear hcz16_0; try clear hcz16_1; try clear hcz16_2; try clear hcz16_3; try clear hcz16_4; try clear hcz16_5; try clear hcz16_6; try clear hcz18_0; try clear hcz18_1; try clear hcz18_2; try clear hcz18_3; try clear hcz22_0; try clear hcz22_1; try clear hcz22_2; try clear hcz22_3; try clear hcz22_4; try clear hcz22_5; try clear hcz22_6; try clear hcz24_0; try clear hcz24_1; try clear hcz24_2; try clear hcz24_3; try clear hcz28_0; try clear hcz28_1; try clear hcz28_2; try clear hcz28_3; try clear hcz28_4; try clear hcz28_5; try clear hcz28_6; try clear hcz30_0; try clear hcz30_1; try clear hcz30_2; try clear hcz30_3; try clear hfz16_0; try clear hfz16_1; try clear hfz16_2; try clear hfz16_3; try clear hfz16_4; try clear hfz16_5; try clear hfz16_6; try clear hfz18_0; try clear hfz18_1; try clear hfz18_2; try clear hfz18_3; try clear hfz22_0; try clear hfz22_1; try clear hfz22_2; try clear hfz22_3; try clear hfz22_4; try clear hfz22_5; try clear hfz22_6; try clear hfz24_0; try clear hfz24_1; try clear hfz24_2; try clear hfz24_3; try clear hfz28_0; try clear hfz28_1; try clear hfz28_2; try clear hfz28_3; try clear hfz28_4; try clear hfz28_5; try clear hfz28_6; try clear hfz30_0; try clear hfz30_1; try clear hfz30_2; try clear hfz30_3
  obtain ⟨kq, x28_4, rfl, HA, HJ4, BK109, BK110, BK111, HB⟩ := hcut
  cases kq with
  | zero => exact absurd HA.out (by simp [spec_HoldStep.j0])
  | succ kj4 =>
   have H := HA.out
   clear HA
   simp only [spec_HoldStep.j0] at H
   by_cases c32 : x28_4 = true
   ·subst c32
    have H1 : (some (false, 0, 0, 0, false)) = some (r1, r2, r3, r4, r5) := by rw [if_pos rfl] at H; exact H
    clear H
    have H := H1
    clear H1
    simp only [Option.some.injEq, Prod.mk.injEq] at H
    obtain ⟨rfl, rfl, rfl, rfl, rfl⟩ := H
    have hnb33 := NB111_109.out
    have hnc33 := NB109_111.out
    have hnb34 := NB111_110.out
    have hnc34 := NB110_111.out
    have hcz35_0 : wc.cell? ⟨gb111, 0, none⟩ = some (.bool false) := (blk_cell BK111.out 0).trans rfl
    have hcz35_1 : wc.cell? ⟨gb111, 1, none⟩ = some (.int .i64 0) := (blk_cell BK111.out 1).trans rfl
    have hcz35_2 : wc.cell? ⟨gb111, 2, none⟩ = some (.int .i64 0) := (blk_cell BK111.out 2).trans rfl
    have hcz35_3 : wc.cell? ⟨gb111, 3, none⟩ = some (.int .i64 0) := (blk_cell BK111.out 3).trans rfl
    have hfz35_0 := blk_frozen BK111.out 0
    have hfz35_1 := blk_frozen BK111.out 1
    have hfz35_2 := blk_frozen BK111.out 2
    have hfz35_3 := blk_frozen BK111.out 3
    go_wp2
    refine bodyPost_ret (results_ct rfl _ _ gb111 27 #[.bool false, .int .i64 0, .int .i64 0, .int .i64 0] (0, 0) _ rfl (by refine pk ?_; refine blk_put (cs := #[.bool false, .int .i64 0, .int .i64 0, .int .i64 0]) ?_ 3 _ rfl; refine pk ?_; refine blk_put (cs := #[.bool false, .int .i64 0, .int .i64 0, .int .i64 0]) ?_ 2 _ rfl; refine pk ?_; refine blk_put (cs := #[.bool false, .int .i64 0, .int .i64 0, .int .i64 0]) ?_ 1 _ rfl; refine pk ?_; refine blk_put (cs := #[.bool false, .int .i64 0, .int .i64 0, .int .i64 0]) ?_ 0 _ rfl; refine pk ?_; exact BK111.out) Try.underlying27 rfl (by kernel_rfl)) rfl ?_
    exact ⟨by first | rfl | (simp [errW_none, errW_some] <;> rfl) | (simp [*, errW_none, errW_some] <;> rfl), by repeat (with_reducible first | exact HB.out | refine bz ?_ (by assumption) | apply bA | apply bN | apply bD)⟩
   ·replace c32 := Bool.eq_false_iff.mpr c32
    subst c32
    have H1 : (if a1_0 = true then (spec_HoldStep.j1 kj4 (wrap64 (a2 - a3)) (wrap64 ((wrap64 (a2 - a3)) - a1_2)) a0_0 a0_1 a0_2 a0_3 a0_4 a0_5 a0_6 a1_0 a1_1 a1_2 a1_3) else (spec_HoldStep.j1 kj4 (wrap64 (a2 - a3)) 0 a0_0 a0_1 a0_2 a0_3 a0_4 a0_5 a0_6 a1_0 a1_1 a1_2 a1_3)) = some (r1, r2, r3, r4, r5) := by rw [if_neg (show ¬ (false = true) by decide)] at H; exact H
    clear H
    have H := H1
    clear H1
    have HC36 := Aside0.mk H
    clear H
    have hnb37 := NB110_109.out
    have hnc37 := NB109_110.out
    have hnb38 := NB110_111.out
    have hnc38 := NB111_110.out
    have hcz39_0 : wc.cell? ⟨gb110, 0, none⟩ = some (.bool a1_0) := (blk_cell BK110.out 0).trans rfl
    have hcz39_1 : wc.cell? ⟨gb110, 1, none⟩ = some (.int .i64 a1_1) := (blk_cell BK110.out 1).trans rfl
    have hcz39_2 : wc.cell? ⟨gb110, 2, none⟩ = some (.int .i64 a1_2) := (blk_cell BK110.out 2).trans rfl
    have hcz39_3 : wc.cell? ⟨gb110, 3, none⟩ = some (.int .i64 a1_3) := (blk_cell BK110.out 3).trans rfl
    have hfz39_0 := blk_frozen BK110.out 0
    have hfz39_1 := blk_frozen BK110.out 1
    have hfz39_2 := blk_frozen BK110.out 2
    have hfz39_3 := blk_frozen BK110.out 3
    go_upto_if 34 with (fail)
    go_cut [11] (fun v11 wc => ∃ (kq : Nat) (x11_35 : Int), v11 = .int .i64 x11_35 ∧ Aside0 (spec_HoldStep.j1 kq (wrap64 (a2 - a3)) x11_35 a0_0 a0_1 a0_2 a0_3 a0_4 a0_5 a0_6 a1_0 a1_1 a1_2 a1_3 = some (r1, r2, r3, r4, r5)) ∧ Aside0 (kq ≤ kj4) ∧ Aside0 (wc.heap[gb109]? = some (.cells #[.int .i64 a0_0, .int .i64 a0_1, .int .i64 a0_2, .int .i64 a0_3, .int .i64 a0_4, .int .i64 a0_5, .int .i64 a0_6] 30 (0, 0))) ∧ Aside0 (wc.heap[gb110]? = some (.cells #[.bool a1_0, .int .i64 a1_1, .int .i64 a1_2, .int .i64 a1_3] 27 (0, 0))) ∧ Aside0 (wc.heap[gb111]? = some (.cells #[.bool false, .int .i64 0, .int .i64 0, .int .i64 0] 27 (0, 0))) ∧ Aside0 (Below w.heap.size w wc))
    case first =>
     have H := HC36.out
     clear HC36
     by_cases c40 : a1_0 = true
     ·subst c40
      have H1 : (spec_HoldStep.j1 kj4 (wrap64 (a2 - a3)) (wrap64 ((wrap64 (a2 - a3)) - a1_2)) a0_0 a0_1 a0_2 a0_3 a0_4 a0_5 a0_6 true a1_1 a1_2 a1_3) = some (r1, r2, r3, r4, r5) := by rw [if_pos rfl] at H; exact H
      clear H
      have H := H1
      clear H1
      have H' := Aside0.mk H
      clear H
      have hnb41 := NB110_109.out
      have hnc41 := NB109_110.out
      have hnb42 := NB110_111.out
      have hnc42 := NB111_110.out
      have hcz43_0 : wc.cell? ⟨gb110, 0, none⟩ = some (.bool true) := (blk_cell BK110.out 0).trans rfl
      have hcz43_1 : wc.cell? ⟨gb110, 1, none⟩ = some (.int .i64 a1_1) := (blk_cell BK110.out 1).trans rfl
      have hcz43_2 : wc.cell? ⟨gb110, 2, none⟩ = some (.int .i64 a1_2) := (blk_cell BK110.out 2).trans rfl
      have hcz43_3 : wc.cell? ⟨gb110, 3, none⟩ = some (.int .i64 a1_3) := (blk_cell BK110.out 3).trans rfl
      have hfz43_0 := blk_frozen BK110.out 0
      have hfz43_1 := blk_frozen BK110.out 1
      have hfz43_2 := blk_frozen BK110.out 2
      have hfz43_3 := blk_frozen BK110.out 3
      go_wp2
      go_meet
      case rel => exact ⟨_, (wrap64 ((wrap64 (a2 - a3)) - a1_2)), (by first | rfl | (simp; done) | (simp [*]; done)), H', ⟨by have := HJ4.out; first | omega | exact Nat.le_refl _⟩, ⟨pk BK109.out⟩, ⟨pk BK110.out⟩, ⟨pk BK111.out⟩, ⟨by repeat (with_reducible first | exact HB.out | refine bz ?_ (by assumption) | apply bA | apply bN | apply bD)⟩⟩
     ·replace c40 := Bool.eq_false_iff.mpr c40
      subst c40
      have H1 : (spec_HoldStep.j1 kj4 (wrap64 (a2 - a3)) 0 a0_0 a0_1 a0_2 a0_3 a0_4 a0_5 a0_6 false a1_1 a1_2 a1_3) = some (r1, r2, r3, r4, r5) := by rw [if_neg (show ¬ (false = true) by decide)] at H; exact H
      clear H
      have H := H1
      clear H1
      have H' := Aside0.mk H
      clear H
      go_wp2
      go_meet
      case rel => exact ⟨_, (0), (by first | rfl | (simp; done) | (simp [*]; done)), H', ⟨by have := HJ4.out; first | omega | exact Nat.le_refl _⟩, ⟨pk BK109.out⟩, ⟨pk BK110.out⟩, ⟨pk BK111.out⟩, ⟨by repeat (with_reducible first | exact HB.out | refine bz ?_ (by assumption) | apply bA | apply bN | apply bD)⟩⟩
    case rest =>
     clear HC36
     try clear c1; try clear c2; try clear p2; try clear c3; try clear c4; try clear p6; try clear c10; try clear c12; try clear c14; try clear c15; try clear c17; try clear c20; try clear c21; try clear c22; try clear c23; try clear c24; try clear c26; try clear c27; try clear c29; try clear c32; try clear c33; try clear c34; try clear c37; try clear c38; try clear c40; try clear c41; try clear c42; try clear hcz16_0; try clear hcz16_1; try clear hcz16_2; try clear hcz16_3; try clear hcz16_4; try clear hcz16_5; try clear hcz16_6; try clear hcz18_0; try clear hcz18_1; try clear hcz18_2; try clear hcz18_3; try clear hcz22_0; try clear hcz22_1; try clear hcz22_2; try clear hcz22_3; try clear hcz22_4; try clear hcz22_5; try clear hcz22_6; try clear hcz24_0; try clear hcz24_1; try clear hcz24_2; try clear hcz24_3; try clear hcz28_0; try clear hcz28_1; try clear hcz28_2; try clear hcz28_3; try clear hcz28_4; try clear hcz28_5; try clear hcz28_6; try clear hcz30_0; try clear hcz30_1; try clear hcz30_2; try clear hcz30_3; try clear hcz35_0; try clear hcz35_1; try clear hcz35_2; try clear hcz35_3; try clear hcz39_0; try clear hcz39_1; try clear hcz39_2; try clear hcz39_3; try clear hcz43_0; try clear hcz43_1; try clear hcz43_2; try clear hcz43_3; try clear hfz16_0; try clear hfz16_1; try clear hfz16_2; try clear hfz16_3; try clear hfz16_4; try clear hfz16_5; try clear hfz16_6; try clear hfz18_0; try clear hfz18_1; try clear hfz18_2; try clear hfz18_3; try clear hfz22_0; try clear hfz22_1; try clear hfz22_2; try clear hfz22_3; try clear hfz22_4; try clear hfz22_5; try clear hfz22_6; try clear hfz24_0; try clear hfz24_1; try clear hfz24_2; try clear hfz24_3; try clear hfz28_0; try clear hfz28_1; try clear hfz28_2; try clear hfz28_3; try clear hfz28_4; try clear hfz28_5; try clear hfz28_6; try clear hfz30_0; try clear hfz30_1; try clear hfz30_2; try clear hfz30_3; try clear hfz35_0; try clear hfz35_1; try clear hfz35_2; try clear hfz35_3; try clear hfz39_0; try clear hfz39_1; try clear hfz39_2; try clear hfz39_3; try clear hfz43_0; try clear hfz43_1; try clear hfz43_2; try clear hfz43_3; try clear p2
     obtain ⟨kq, x11_35, rfl, HA, HJ35, BK109, BK110, BK111, HB⟩ := hcut
     cases kq with
     | zero => exact absurd HA.out (by simp [spec_HoldStep.j1])
     | succ kj35 =>
      have H := HA.out
      clear HA
      simp only [spec_HoldStep.j1] at H
      replace H := Option.bind_eq_some_iff.mp H
      obtain ⟨t115, A440, H⟩ := H
      replace H : ((spec_l13Down.f (wrap64 ((wrap64 ((wrap64 (a0_0 * (wrap64 (a2 - a3)))) + (wrap64 (a0_1 * t115)))) + (wrap64 (a0_2 * x11_35)))) a0_3).bind fun t116 => ((spec_l13Cut.f t116 (wrap64 (-a0_4)) a0_4).bind fun t117 => (if t116 > a0_4 then (if (wrap64 (a2 - a3)) > 0 then (spec_HoldStep.j2 kj35 true a0_0 a0_1 a0_2 a0_3 a0_4 a0_5 a0_6 a1_0 a1_1 a1_2 a1_3 true t115 (wrap64 (a2 - a3)) t117) else (if t116 < (wrap64 (-a0_4)) then (spec_HoldStep.j2 kj35 (decide ((wrap64 (a2 - a3)) < 0)) a0_0 a0_1 a0_2 a0_3 a0_4 a0_5 a0_6 a1_0 a1_1 a1_2 a1_3 true t115 (wrap64 (a2 - a3)) t117) else (spec_HoldStep.j2 kj35 false a0_0 a0_1 a0_2 a0_3 a0_4 a0_5 a0_6 a1_0 a1_1 a1_2 a1_3 true t115 (wrap64 (a2 - a3)) t117))) else (if t116 < (wrap64 (-a0_4)) then (spec_HoldStep.j2 kj35 (decide ((wrap64 (a2 - a3)) < 0)) a0_0 a0_1 a0_2 a0_3 a0_4 a0_5 a0_6 a1_0 a1_1 a1_2 a1_3 true t115 (wrap64 (a2 - a3)) t117) else (spec_HoldStep.j2 kj35 false a0_0 a0_1 a0_2 a0_3 a0_4 a0_5 a0_6 a1_0 a1_1 a1_2 a1_3 true t115 (wrap64 (a2 - a3)) t117))))) = some (r1, r2, r3, r4, r5) := H
      have A44 := Aside0.mk A440
      clear A440
      replace H := Option.bind_eq_some_iff.mp H
      obtain ⟨t116, A450, H⟩ := H
      replace H : ((spec_l13Cut.f t116 (wrap64 (-a0_4)) a0_4).bind fun t117 => (if t116 > a0_4 then (if (wrap64 (a2 - a3)) > 0 then (spec_HoldStep.j2 kj35 true a0_0 a0_1 a0_2 a0_3 a0_4 a0_5 a0_6 a1_0 a1_1 a1_2 a1_3 true t115 (wrap64 (a2 - a3)) t117) else (if t116 < (wrap64 (-a0_4)) then (spec_HoldStep.j2 kj35 (decide ((wrap64 (a2 - a3)) < 0)) a0_0 a0_1 a0_2 a0_3 a0_4 a0_5 a0_6 a1_0 a1_1 a1_2 a1_3 true t115 (wrap64 (a2 - a3)) t117) else (spec_HoldStep.j2 kj35 false a0_0 a0_1 a0_2 a0_3 a0_4 a0_5 a0_6 a1_0 a1_1 a1_2 a1_3 true t115 (wrap64 (a2 - a3)) t117))) else (if t116 < (wrap64 (-a0_4)) then (spec_HoldStep.j2 kj35 (decide ((wrap64 (a2 - a3)) < 0)) a0_0 a0_1 a0_2 a0_3 a0_4 a0_5 a0_6 a1_0 a1_1 a1_2 a1_3 true t115 (wrap64 (a2 - a3)) t117) else (spec_HoldStep.j2 kj35 false a0_0 a0_1 a0_2 a0_3 a0_4 a0_5 a0_6 a1_0 a1_1 a1_2 a1_3 true t115 (wrap64 (a2 - a3)) t117)))) = some (r1, r2, r3, r4, r5) := H
      have A45 := Aside0.mk A450
      clear A450
      replace H := Option.bind_eq_some_iff.mp H
      obtain ⟨t117, A460, H⟩ := H
      replace H : (if t116 > a0_4 then (if (wrap64 (a2 - a3)) > 0 then (spec_HoldStep.j2 kj35 true a0_0 a0_1 a0_2 a0_3 a0_4 a0_5 a0_6 a1_0 a1_1 a1_2 a1_3 true t115 (wrap64 (a2 - a3)) t117) else (if t116 < (wrap64 (-a0_4)) then (spec_HoldStep.j2 kj35 (decide ((wrap64 (a2 - a3)) < 0)) a0_0 a0_1 a0_2 a0_3 a0_4 a0_5 a0_6 a1_0 a1_1 a1_2 a1_3 true t115 (wrap64 (a2 - a3)) t117) else (spec_HoldStep.j2 kj35 false a0_0 a0_1 a0_2 a0_3 a0_4 a0_5 a0_6 a1_0 a1_1 a1_2 a1_3 true t115 (wrap64 (a2 - a3)) t117))) else (if t116 < (wrap64 (-a0_4)) then (spec_HoldStep.j2 kj35 (decide ((wrap64 (a2 - a3)) < 0)) a0_0 a0_1 a0_2 a0_3 a0_4 a0_5 a0_6 a1_0 a1_1 a1_2 a1_3 true t115 (wrap64 (a2 - a3)) t117) else (spec_HoldStep.j2 kj35 false a0_0 a0_1 a0_2 a0_3 a0_4 a0_5 a0_6 a1_0 a1_1 a1_2 a1_3 true t115 (wrap64 (a2 - a3)) t117))) = some (r1, r2, r3, r4, r5) := H
      have A46 := Aside0.mk A460
      clear A460
      have HC47 := Aside0.mk H
      clear H
      have hnb48 := NB110_109.out
      have hnc48 := NB109_110.out
      have hnb49 := NB110_111.out
      have hnc49 := NB111_110.out
      have hcz50_0 : wc.cell? ⟨gb110, 0, none⟩ = some (.bool a1_0) := (blk_cell BK110.out 0).trans rfl
      have hcz50_1 : wc.cell? ⟨gb110, 1, none⟩ = some (.int .i64 a1_1) := (blk_cell BK110.out 1).trans rfl
      have hcz50_2 : wc.cell? ⟨gb110, 2, none⟩ = some (.int .i64 a1_2) := (blk_cell BK110.out 2).trans rfl
      have hcz50_3 : wc.cell? ⟨gb110, 3, none⟩ = some (.int .i64 a1_3) := (blk_cell BK110.out 3).trans rfl
      have hfz50_0 := blk_frozen BK110.out 0
      have hfz50_1 := blk_frozen BK110.out 1
      have hfz50_2 := blk_frozen BK110.out 2
      have hfz50_3 := blk_frozen BK110.out 3
      have hnb51 := NB109_111.out
      have hnc51 := NB111_109.out
      have hcz52_0 : wc.cell? ⟨gb109, 0, none⟩ = some (.int .i64 a0_0) := (blk_cell BK109.out 0).trans rfl
      have hcz52_1 : wc.cell? ⟨gb109, 1, none⟩ = some (.int .i64 a0_1) := (blk_cell BK109.out 1).trans rfl
      have hcz52_2 : wc.cell? ⟨gb109, 2, none⟩ = some (.int .i64 a0_2) := (blk_cell BK109.out 2).trans rfl
      have hcz52_3 : wc.cell? ⟨gb109, 3, none⟩ = some (.int .i64 a0_3) := (blk_cell BK109.out 3).trans rfl
      have hcz52_4 : wc.cell? ⟨gb109, 4, none⟩ = some (.int .i64 a0_4) := (blk_cell BK109.out 4).trans rfl
      have hcz52_5 : wc.cell? ⟨gb109, 5, none⟩ = some (.int .i64 a0_5) := (blk_cell BK109.out 5).trans rfl
      have hcz52_6 : wc.cell? ⟨gb109, 6, none⟩ = some (.int .i64 a0_6) := (blk_cell BK109.out 6).trans rfl
      have hfz52_0 := blk_frozen BK109.out 0
      have hfz52_1 := blk_frozen BK109.out 1
      have hfz52_2 := blk_frozen BK109.out 2
      have hfz52_3 := blk_frozen BK109.out 3
      have hfz52_4 := blk_frozen BK109.out 4
      have hfz52_5 := blk_frozen BK109.out 5
      have hfz52_6 := blk_frozen BK109.out 6
      go_upto_region 10 with (first | ((with_reducible refine gate_callee (f := 40) rfl ?_); refine goesL_ (some 48) rfl rfl Try.func40 (by kernel_rfl) rfl #[.int .i64 (wrap64 (a1_1 + (wrap64 (a2 - a3)))), .int .i64 (wrap64 (-a0_5)), .int .i64 a0_5] rfl (by (try simp only [lA, lB, lC]); first | done | rfl | (simp only [lD, lE]; rfl)) ?_; (with_reducible refine (spec_l13Cut.calls (wrap64 (a1_1 + (wrap64 (a2 - a3)))) (wrap64 (-a0_5)) a0_5 t115 _ A44.out).mono ?_); rintro e w' ⟨rfl, ⟨nd, rfl⟩⟩; refine ⟨_, rfl, ?_⟩; (try (rw [drewN_self wc]; generalize hq_ : World.drewN wc _ = wc; have n0_ : Aside0 (wc.heap[gb109]? = some (.cells #[.int .i64 a0_0, .int .i64 a0_1, .int .i64 a0_2, .int .i64 a0_3, .int .i64 a0_4, .int .i64 a0_5, .int .i64 a0_6] 30 (0, 0))) := ⟨by rw [← hq_]; exact (pk BK109.out)⟩; have n1_ : Aside0 (wc.heap[gb110]? = some (.cells #[.bool a1_0, .int .i64 a1_1, .int .i64 a1_2, .int .i64 a1_3] 27 (0, 0))) := ⟨by rw [← hq_]; exact (pk BK110.out)⟩; have n2_ : Aside0 (wc.heap[gb111]? = some (.cells #[.bool false, .int .i64 0, .int .i64 0, .int .i64 0] 27 (0, 0))) := ⟨by rw [← hq_]; exact (pk BK111.out)⟩; have n3_ : Aside0 (Below w.heap.size w wc) := ⟨by rw [← hq_]; exact (by repeat (with_reducible first | exact HB.out | refine bz ?_ (by assumption) | apply bA | apply bN | apply bD))⟩; clear BK109 BK110 BK111 HB hq_; have BK109 := n0_; have BK110 := n1_; have BK111 := n2_; have HB := n3_; clear n0_ n1_ n2_ n3_; have hcz50_0 : wc.cell? ⟨gb110, 0, none⟩ = some (.bool a1_0) := (blk_cell BK110.out 0).trans rfl; have hcz50_1 : wc.cell? ⟨gb110, 1, none⟩ = some (.int .i64 a1_1) := (blk_cell BK110.out 1).trans rfl; have hcz50_2 : wc.cell? ⟨gb110, 2, none⟩ = some (.int .i64 a1_2) := (blk_cell BK110.out 2).trans rfl; have hcz50_3 : wc.cell? ⟨gb110, 3, none⟩ = some (.int .i64 a1_3) := (blk_cell BK110.out 3).trans rfl; have hfz50_0 := blk_frozen BK110.out 0; have hfz50_1 := blk_frozen BK110.out 1; have hfz50_2 := blk_frozen BK110.out 2; have hfz50_3 := blk_frozen BK110.out 3; have hcz52_0 : wc.cell? ⟨gb109, 0, none⟩ = some (.int .i64 a0_0) := (blk_cell BK109.out 0).trans rfl; have hcz52_1 : wc.cell? ⟨gb109, 1, none⟩ = some (.int .i64 a0_1) := (blk_cell BK109.out 1).trans rfl; have hcz52_2 : wc.cell? ⟨gb109, 2, none⟩ = some (.int .i64 a0_2) := (blk_cell BK109.out 2).trans rfl; have hcz52_3 : wc.cell? ⟨gb109, 3, none⟩ = some (.int .i64 a0_3) := (blk_cell BK109.out 3).trans rfl; have hcz52_4 : wc.cell? ⟨gb109, 4, none⟩ = some (.int .i64 a0_4) := (blk_cell BK109.out 4).trans rfl; have hcz52_5 : wc.cell? ⟨gb109, 5, none⟩ = some (.int .i64 a0_5) := (blk_cell BK109.out 5).trans rfl; have hcz52_6 : wc.cell? ⟨gb109, 6, none⟩ = some (.int .i64 a0_6) := (blk_cell BK109.out 6).trans rfl; have hfz52_0 := blk_frozen BK109.out 0; have hfz52_1 := blk_frozen BK109.out 1; have hfz52_2 := blk_frozen BK109.out 2; have hfz52_3 := blk_frozen BK109.out 3; have hfz52_4 := blk_frozen BK109.out 4; have hfz52_5 := blk_frozen BK109.out 5; have hfz52_6 := blk_frozen BK109.out 6))) | ((with_reducible refine gate_callee (f := 39) rfl ?_); refine goesL_ (some 65) rfl rfl Try.func39 (by kernel_rfl) rfl #[.int .i64 (wrap64 ((wrap64 ((wrap64 (a0_0 * (wrap64 (a2 - a3)))) + (wrap64 (a0_1 * t115)))) + (wrap64 (a0_2 * x11_35)))), .int .i64 a0_3] rfl (by (try simp only [lA, lB, lC]); first | done | rfl | (simp only [lD, lE]; rfl)) ?_; (with_reducible refine (spec_l13Down.calls (wrap64 ((wrap64 ((wrap64 (a0_0 * (wrap64 (a2 - a3)))) + (wrap64 (a0_1 * t115)))) + (wrap64 (a0_2 * x11_35)))) a0_3 t116 _ A45.out).mono ?_); rintro e w' ⟨rfl, ⟨nd, rfl⟩⟩; refine ⟨_, rfl, ?_⟩; (try (rw [drewN_self wc]; generalize hq_ : World.drewN wc _ = wc; have n0_ : Aside0 (wc.heap[gb109]? = some (.cells #[.int .i64 a0_0, .int .i64 a0_1, .int .i64 a0_2, .int .i64 a0_3, .int .i64 a0_4, .int .i64 a0_5, .int .i64 a0_6] 30 (0, 0))) := ⟨by rw [← hq_]; exact (pk BK109.out)⟩; have n1_ : Aside0 (wc.heap[gb110]? = some (.cells #[.bool a1_0, .int .i64 a1_1, .int .i64 a1_2, .int .i64 a1_3] 27 (0, 0))) := ⟨by rw [← hq_]; exact (pk BK110.out)⟩; have n2_ : Aside0 (wc.heap[gb111]? = some (.cells #[.bool false, .int .i64 0, .int .i64 0, .int .i64 0] 27 (0, 0))) := ⟨by rw [← hq_]; exact (pk BK111.out)⟩; have n3_ : Aside0 (Below w.heap.size w wc) := ⟨by rw [← hq_]; exact (by repeat (with_reducible first | exact HB.out | refine bz ?_ (by assumption) | apply bA | apply bN | apply bD))⟩; clear BK109 BK110 BK111 HB hq_; have BK109 := n0_; have BK110 := n1_; have BK111 := n2_; have HB := n3_; clear n0_ n1_ n2_ n3_; have hcz50_0 : wc.cell? ⟨gb110, 0, none⟩ = some (.bool a1_0) := (blk_cell BK110.out 0).trans rfl; have hcz50_1 : wc.cell? ⟨gb110, 1, none⟩ = some (.int .i64 a1_1) := (blk_cell BK110.out 1).trans rfl; have hcz50_2 : wc.cell? ⟨gb110, 2, none⟩ = some (.int .i64 a1_2) := (blk_cell BK110.out 2).trans rfl; have hcz50_3 : wc.cell? ⟨gb110, 3, none⟩ = some (.int .i64 a1_3) := (blk_cell BK110.out 3).trans rfl; have hfz50_0 := blk_frozen BK110.out 0; have hfz50_1 := blk_frozen BK110.out 1; have hfz50_2 := blk_frozen BK110.out 2; have hfz50_3 := blk_frozen BK110.out 3; have hcz52_0 : wc.cell? ⟨gb109, 0, none⟩ = some (.int .i64 a0_0) := (blk_cell BK109.out 0).trans rfl; have hcz52_1 : wc.cell? ⟨gb109, 1, none⟩ = some (.int .i64 a0_1) := (blk_cell BK109.out 1).trans rfl; have hcz52_2 : wc.cell? ⟨gb109, 2, none⟩ = some (.int .i64 a0_2) := (blk_cell BK109.out 2).trans rfl; have hcz52_3 : wc.cell? ⟨gb109, 3, none⟩ = some (.int .i64 a0_3) := (blk_cell BK109.out 3).trans rfl; have hcz52_4 : wc.cell? ⟨gb109, 4, none⟩ = some (.int .i64 a0_4) := (blk_cell BK109.out 4).trans rfl; have hcz52_5 : wc.cell? ⟨gb109, 5, none⟩ = some (.int .i64 a0_5) := (blk_cell BK109.out 5).trans rfl; have hcz52_6 : wc.cell? ⟨gb109, 6, none⟩ = some (.int .i64 a0_6) := (blk_cell BK109.out 6).trans rfl; have hfz52_0 := blk_frozen BK109.out 0; have hfz52_1 := blk_frozen BK109.out 1; have hfz52_2 := blk_frozen BK109.out 2; have hfz52_3 := blk_frozen BK109.out 3; have hfz52_4 := blk_frozen BK109.out 4; have hfz52_5 := blk_frozen BK109.out 5; have hfz52_6 := blk_frozen BK109.out 6))) | ((with_reducible refine gate_callee (f := 40) rfl ?_); refine goesL_ (some 74) rfl rfl Try.func40 (by kernel_rfl) rfl #[.int .i64 t116, .int .i64 (wrap64 (-a0_4)), .int .i64 a0_4] rfl (by (try simp only [lA, lB, lC]); first | done | rfl | (simp only [lD, lE]; rfl)) ?_; (with_reducible refine (spec_l13Cut.calls t116 (wrap64 (-a0_4)) a0_4 t117 _ A46.out).mono ?_); rintro e w' ⟨rfl, ⟨nd, rfl⟩⟩; refine ⟨_, rfl, ?_⟩; (try (rw [drewN_self wc]; generalize hq_ : World.drewN wc _ = wc; have n0_ : Aside0 (wc.heap[gb109]? = some (.cells #[.int .i64 a0_0, .int .i64 a0_1, .int .i64 a0_2, .int .i64 a0_3, .int .i64 a0_4, .int .i64 a0_5, .int .i64 a0_6] 30 (0, 0))) := ⟨by rw [← hq_]; exact (pk BK109.out)⟩; have n1_ : Aside0 (wc.heap[gb110]? = some (.cells #[.bool a1_0, .int .i64 a1_1, .int .i64 a1_2, .int .i64 a1_3] 27 (0, 0))) := ⟨by rw [← hq_]; exact (pk BK110.out)⟩; have n2_ : Aside0 (wc.heap[gb111]? = some (.cells #[.bool false, .int .i64 0, .int .i64 0, .int .i64 0] 27 (0, 0))) := ⟨by rw [← hq_]; exact (pk BK111.out)⟩; have n3_ : Aside0 (Below w.heap.size w wc) := ⟨by rw [← hq_]; exact (by repeat (with_reducible first | exact HB.out | refine bz ?_ (by assumption) | apply bA | apply bN | apply bD))⟩; clear BK109 BK110 BK111 HB hq_; have BK109 := n0_; have BK110 := n1_; have BK111 := n2_; have HB := n3_; clear n0_ n1_ n2_ n3_; have hcz50_0 : wc.cell? ⟨gb110, 0, none⟩ = some (.bool a1_0) := (blk_cell BK110.out 0).trans rfl; have hcz50_1 : wc.cell? ⟨gb110, 1, none⟩ = some (.int .i64 a1_1) := (blk_cell BK110.out 1).trans rfl; have hcz50_2 : wc.cell? ⟨gb110, 2, none⟩ = some (.int .i64 a1_2) := (blk_cell BK110.out 2).trans rfl; have hcz50_3 : wc.cell? ⟨gb110, 3, none⟩ = some (.int .i64 a1_3) := (blk_cell BK110.out 3).trans rfl; have hfz50_0 := blk_frozen BK110.out 0; have hfz50_1 := blk_frozen BK110.out 1; have hfz50_2 := blk_frozen BK110.out 2; have hfz50_3 := blk_frozen BK110.out 3; have hcz52_0 : wc.cell? ⟨gb109, 0, none⟩ = some (.int .i64 a0_0) := (blk_cell BK109.out 0).trans rfl; have hcz52_1 : wc.cell? ⟨gb109, 1, none⟩ = some (.int .i64 a0_1) := (blk_cell BK109.out 1).trans rfl; have hcz52_2 : wc.cell? ⟨gb109, 2, none⟩ = some (.int .i64 a0_2) := (blk_cell BK109.out 2).trans rfl; have hcz52_3 : wc.cell? ⟨gb109, 3, none⟩ = some (.int .i64 a0_3) := (blk_cell BK109.out 3).trans rfl; have hcz52_4 : wc.cell? ⟨gb109, 4, none⟩ = some (.int .i64 a0_4) := (blk_cell BK109.out 4).trans rfl; have hcz52_5 : wc.cell? ⟨gb109, 5, none⟩ = some (.int .i64 a0_5) := (blk_cell BK109.out 5).trans rfl; have hcz52_6 : wc.cell? ⟨gb109, 6, none⟩ = some (.int .i64 a0_6) := (blk_cell BK109.out 6).trans rfl; have hfz52_0 := blk_frozen BK109.out 0; have hfz52_1 := blk_frozen BK109.out 1; have hfz52_2 := blk_frozen BK109.out 2; have hfz52_3 := blk_frozen BK109.out 3; have hfz52_4 := blk_frozen BK109.out 4; have hfz52_5 := blk_frozen BK109.out 5; have hfz52_6 := blk_frozen BK109.out 6))) | ((with_reducible refine gate_dst (N := 14) rfl ?_); refine box_event ?hg (N := 14) ?hd (cs := #[.bool false, .int .i64 0, .int .i64 0, .int .i64 0]) (t := 27) ?hr ?_; (case hd => rfl); (case hg => rfl); (case hr => first | (go_simp; done) | (go_simp; rfl)); intro gb118 hg w53 hbox hb; have BK118 := a_ (hbox); have GW118 := a_ (bsg hg HB.out); have GE118 := a_ (bsg hg HB.out); replace HB := a_ (below_step (by repeat (with_reducible first | exact HB.out | refine bz ?_ (by assumption) | apply bA | apply bN | apply bD)) hb); have NB109_118 := a_ (nel hg BK109.out); have NB118_109 := a_ (nle hg BK109.out); replace BK109 := a_ (blk_below (pk BK109.out) hb); have NB110_118 := a_ (nel hg BK110.out); have NB118_110 := a_ (nle hg BK110.out); replace BK110 := a_ (blk_below (pk BK110.out) hb); have NB111_118 := a_ (nel hg BK111.out); have NB118_111 := a_ (nle hg BK111.out); replace BK111 := a_ (blk_below (pk BK111.out) hb); clear hb hbox hg; have hnb54 := NB118_109.out; have hnc54 := NB109_118.out; have hnb55 := NB118_110.out; have hnc55 := NB110_118.out; have hnb56 := NB118_111.out; have hnc56 := NB111_118.out; have hcz57_0 : _ = some (Value.bool false) := (blk_cell BK118.out 0).trans rfl; have hcz57_1 : _ = some (Value.int .i64 0) := (blk_cell BK118.out 1).trans rfl; have hcz57_2 : _ = some (Value.int .i64 0) := (blk_cell BK118.out 2).trans rfl; have hcz57_3 : _ = some (Value.int .i64 0) := (blk_cell BK118.out 3).trans rfl; have hfz57_0 := blk_frozen BK118.out 0; have hfz57_1 := blk_frozen BK118.out 1; have hfz57_2 := blk_frozen BK118.out 2; have hfz57_3 := blk_frozen BK118.out 3))
      (try simp only [Act.put, sB, sC, sD])
      go_cut [94] (fun v94 wc => ∃ (kq : Nat) (x94_46 : Bool), v94 = .bool x94_46 ∧ Aside0 (spec_HoldStep.j2 kq x94_46 a0_0 a0_1 a0_2 a0_3 a0_4 a0_5 a0_6 a1_0 a1_1 a1_2 a1_3 true t115 (wrap64 (a2 - a3)) t117 = some (r1, r2, r3, r4, r5)) ∧ Aside0 (kq ≤ kj35) ∧ Aside0 (wc.heap[gb109]? = some (.cells #[.int .i64 a0_0, .int .i64 a0_1, .int .i64 a0_2, .int .i64 a0_3, .int .i64 a0_4, .int .i64 a0_5, .int .i64 a0_6] 30 (0, 0))) ∧ Aside0 (wc.heap[gb110]? = some (.cells #[.bool a1_0, .int .i64 a1_1, .int .i64 a1_2, .int .i64 a1_3] 27 (0, 0))) ∧ Aside0 (wc.heap[gb111]? = some (.cells #[.bool false, .int .i64 0, .int .i64 0, .int .i64 0] 27 (0, 0))) ∧ Aside0 (wc.heap[gb118]? = some (.cells #[.bool true, .int .i64 t115, .int .i64 (wrap64 (a2 - a3)), .int .i64 t117] 27 (0, 0))) ∧ Aside0 (Below w.heap.size w wc))
      case first =>
       have H := HC47.out
       clear HC47
       by_cases c58 : t116 > a0_4
       ·rw [if_pos c58] at H
        have c58b0 : decide (a0_4 < t116) = true := decide_eq_true c58
        clear c58
        (first | rw [c58b0] | (simp only [i64_w, i32_w]; rw [c58b0]) | skip)
        by_cases c59 : (wrap64 (a2 - a3)) > 0
        ·rw [if_pos c59] at H
         have c59b0 : decide (0 < (wrap64 (a2 - a3))) = true := decide_eq_true c59
         clear c59
         have H' := Aside0.mk H
         clear H
         have hnb60 := NB109_110.out
         have hnc60 := NB110_109.out
         have hnb61 := NB109_111.out
         have hnc61 := NB111_109.out
         have hnb62 := NB109_118.out
         have hnc62 := NB118_109.out
         have hcz63_0 : _ = some (Value.int .i64 a0_0) := (blk_cell BK109.out 0).trans rfl
         have hcz63_1 : _ = some (Value.int .i64 a0_1) := (blk_cell BK109.out 1).trans rfl
         have hcz63_2 : _ = some (Value.int .i64 a0_2) := (blk_cell BK109.out 2).trans rfl
         have hcz63_3 : _ = some (Value.int .i64 a0_3) := (blk_cell BK109.out 3).trans rfl
         have hcz63_4 : _ = some (Value.int .i64 a0_4) := (blk_cell BK109.out 4).trans rfl
         have hcz63_5 : _ = some (Value.int .i64 a0_5) := (blk_cell BK109.out 5).trans rfl
         have hcz63_6 : _ = some (Value.int .i64 a0_6) := (blk_cell BK109.out 6).trans rfl
         have hfz63_0 := blk_frozen BK109.out 0
         have hfz63_1 := blk_frozen BK109.out 1
         have hfz63_2 := blk_frozen BK109.out 2
         have hfz63_3 := blk_frozen BK109.out 3
         have hfz63_4 := blk_frozen BK109.out 4
         have hfz63_5 := blk_frozen BK109.out 5
         have hfz63_6 := blk_frozen BK109.out 6
         go_wp2
         go_meet
         case rel => exact ⟨_, (true), (by first | rfl | (simp; done) | (simp [*]; done)), H', ⟨by have := HJ4.out; have := HJ35.out; first | omega | exact Nat.le_refl _⟩, ⟨by refine pk ?_; refine blk_far ?_ NB109_118.out _; refine pk ?_; refine blk_far ?_ NB109_118.out _; refine pk ?_; refine blk_far ?_ NB109_118.out _; refine pk ?_; refine blk_far ?_ NB109_118.out _; refine pk ?_; exact BK109.out⟩, ⟨by refine pk ?_; refine blk_far ?_ NB110_118.out _; refine pk ?_; refine blk_far ?_ NB110_118.out _; refine pk ?_; refine blk_far ?_ NB110_118.out _; refine pk ?_; refine blk_far ?_ NB110_118.out _; refine pk ?_; exact BK110.out⟩, ⟨by refine pk ?_; refine blk_far ?_ NB111_118.out _; refine pk ?_; refine blk_far ?_ NB111_118.out _; refine pk ?_; refine blk_far ?_ NB111_118.out _; refine pk ?_; refine blk_far ?_ NB111_118.out _; refine pk ?_; exact BK111.out⟩, ⟨by refine pk ?_; refine blk_put (cs := #[.bool true, .int .i64 t115, .int .i64 (wrap64 (a2 - a3)), .int .i64 0]) ?_ 3 _ rfl; refine pk ?_; refine blk_put (cs := #[.bool true, .int .i64 t115, .int .i64 0, .int .i64 0]) ?_ 2 _ rfl; refine pk ?_; refine blk_put (cs := #[.bool true, .int .i64 0, .int .i64 0, .int .i64 0]) ?_ 1 _ rfl; refine pk ?_; refine blk_put (cs := #[.bool false, .int .i64 0, .int .i64 0, .int .i64 0]) ?_ 0 _ rfl; refine pk ?_; exact BK118.out⟩, ⟨by repeat (with_reducible first | exact HB.out | refine bz ?_ (by assumption) | apply bA | apply bN | apply bD)⟩⟩
        ·rw [if_neg c59] at H
         have c59b0 : decide (0 < (wrap64 (a2 - a3))) = false := decide_eq_false c59
         clear c59
         by_cases c64 : t116 < (wrap64 (-a0_4))
         ·rw [if_pos c64] at H
          have c64b0 : decide (t116 < (wrap64 (-a0_4))) = true := decide_eq_true c64
          clear c64
          have H' := Aside0.mk H
          clear H
          have hnb65 := NB109_110.out
          have hnc65 := NB110_109.out
          have hnb66 := NB109_111.out
          have hnc66 := NB111_109.out
          have hnb67 := NB109_118.out
          have hnc67 := NB118_109.out
          have hcz68_0 : _ = some (Value.int .i64 a0_0) := (blk_cell BK109.out 0).trans rfl
          have hcz68_1 : _ = some (Value.int .i64 a0_1) := (blk_cell BK109.out 1).trans rfl
          have hcz68_2 : _ = some (Value.int .i64 a0_2) := (blk_cell BK109.out 2).trans rfl
          have hcz68_3 : _ = some (Value.int .i64 a0_3) := (blk_cell BK109.out 3).trans rfl
          have hcz68_4 : _ = some (Value.int .i64 a0_4) := (blk_cell BK109.out 4).trans rfl
          have hcz68_5 : _ = some (Value.int .i64 a0_5) := (blk_cell BK109.out 5).trans rfl
          have hcz68_6 : _ = some (Value.int .i64 a0_6) := (blk_cell BK109.out 6).trans rfl
          have hfz68_0 := blk_frozen BK109.out 0
          have hfz68_1 := blk_frozen BK109.out 1
          have hfz68_2 := blk_frozen BK109.out 2
          have hfz68_3 := blk_frozen BK109.out 3
          have hfz68_4 := blk_frozen BK109.out 4
          have hfz68_5 := blk_frozen BK109.out 5
          have hfz68_6 := blk_frozen BK109.out 6
          go_wp2
          go_meet
          case rel => exact ⟨_, (decide ((wrap64 (a2 - a3)) < 0)), (by first | rfl | (simp; done) | (simp [*]; done)), H', ⟨by have := HJ4.out; have := HJ35.out; first | omega | exact Nat.le_refl _⟩, ⟨by refine pk ?_; refine blk_far ?_ NB109_118.out _; refine pk ?_; refine blk_far ?_ NB109_118.out _; refine pk ?_; refine blk_far ?_ NB109_118.out _; refine pk ?_; refine blk_far ?_ NB109_118.out _; refine pk ?_; exact BK109.out⟩, ⟨by refine pk ?_; refine blk_far ?_ NB110_118.out _; refine pk ?_; refine blk_far ?_ NB110_118.out _; refine pk ?_; refine blk_far ?_ NB110_118.out _; refine pk ?_; refine blk_far ?_ NB110_118.out _; refine pk ?_; exact BK110.out⟩, ⟨by refine pk ?_; refine blk_far ?_ NB111_118.out _; refine pk ?_; refine blk_far ?_ NB111_118.out _; refine pk ?_; refine blk_far ?_ NB111_118.out _; refine pk ?_; refine blk_far ?_ NB111_118.out _; refine pk ?_; exact BK111.out⟩, ⟨by refine pk ?_; refine blk_put (cs := #[.bool true, .int .i64 t115, .int .i64 (wrap64 (a2 - a3)), .int .i64 0]) ?_ 3 _ rfl; refine pk ?_; refine blk_put (cs := #[.bool true, .int .i64 t115, .int .i64 0, .int .i64 0]) ?_ 2 _ rfl; refine pk ?_; refine blk_put (cs := #[.bool true, .int .i64 0, .int .i64 0, .int .i64 0]) ?_ 1 _ rfl; refine pk ?_; refine blk_put (cs := #[.bool false, .int .i64 0, .int .i64 0, .int .i64 0]) ?_ 0 _ rfl; refine pk ?_; exact BK118.out⟩, ⟨by repeat (with_reducible first | exact HB.out | refine bz ?_ (by assumption) | apply bA | apply bN | apply bD)⟩⟩
         ·rw [if_neg c64] at H
          have c64b0 : decide (t116 < (wrap64 (-a0_4))) = false := decide_eq_false c64
          clear c64
          have H' := Aside0.mk H
          clear H
          have hnb69 := NB109_110.out
          have hnc69 := NB110_109.out
          have hnb70 := NB109_111.out
          have hnc70 := NB111_109.out
          have hnb71 := NB109_118.out
          have hnc71 := NB118_109.out
          have hcz72_0 : _ = some (Value.int .i64 a0_0) := (blk_cell BK109.out 0).trans rfl
          have hcz72_1 : _ = some (Value.int .i64 a0_1) := (blk_cell BK109.out 1).trans rfl
          have hcz72_2 : _ = some (Value.int .i64 a0_2) := (blk_cell BK109.out 2).trans rfl
          have hcz72_3 : _ = some (Value.int .i64 a0_3) := (blk_cell BK109.out 3).trans rfl
          have hcz72_4 : _ = some (Value.int .i64 a0_4) := (blk_cell BK109.out 4).trans rfl
          have hcz72_5 : _ = some (Value.int .i64 a0_5) := (blk_cell BK109.out 5).trans rfl
          have hcz72_6 : _ = some (Value.int .i64 a0_6) := (blk_cell BK109.out 6).trans rfl
          have hfz72_0 := blk_frozen BK109.out 0
          have hfz72_1 := blk_frozen BK109.out 1
          have hfz72_2 := blk_frozen BK109.out 2
          have hfz72_3 := blk_frozen BK109.out 3
          have hfz72_4 := blk_frozen BK109.out 4
          have hfz72_5 := blk_frozen BK109.out 5
          have hfz72_6 := blk_frozen BK109.out 6
          go_wp2
          go_meet
          case rel => exact ⟨_, (false), (by first | rfl | (simp; done) | (simp [*]; done)), H', ⟨by have := HJ4.out; have := HJ35.out; first | omega | exact Nat.le_refl _⟩, ⟨by refine pk ?_; refine blk_far ?_ NB109_118.out _; refine pk ?_; refine blk_far ?_ NB109_118.out _; refine pk ?_; refine blk_far ?_ NB109_118.out _; refine pk ?_; refine blk_far ?_ NB109_118.out _; refine pk ?_; exact BK109.out⟩, ⟨by refine pk ?_; refine blk_far ?_ NB110_118.out _; refine pk ?_; refine blk_far ?_ NB110_118.out _; refine pk ?_; refine blk_far ?_ NB110_118.out _; refine pk ?_; refine blk_far ?_ NB110_118.out _; refine pk ?_; exact BK110.out⟩, ⟨by refine pk ?_; refine blk_far ?_ NB111_118.out _; refine pk ?_; refine blk_far ?_ NB111_118.out _; refine pk ?_; refine blk_far ?_ NB111_118.out _; refine pk ?_; refine blk_far ?_ NB111_118.out _; refine pk ?_; exact BK111.out⟩, ⟨by refine pk ?_; refine blk_put (cs := #[.bool true, .int .i64 t115, .int .i64 (wrap64 (a2 - a3)), .int .i64 0]) ?_ 3 _ rfl; refine pk ?_; refine blk_put (cs := #[.bool true, .int .i64 t115, .int .i64 0, .int .i64 0]) ?_ 2 _ rfl; refine pk ?_; refine blk_put (cs := #[.bool true, .int .i64 0, .int .i64 0, .int .i64 0]) ?_ 1 _ rfl; refine pk ?_; refine blk_put (cs := #[.bool false, .int .i64 0, .int .i64 0, .int .i64 0]) ?_ 0 _ rfl; refine pk ?_; exact BK118.out⟩, ⟨by repeat (with_reducible first | exact HB.out | refine bz ?_ (by assumption) | apply bA | apply bN | apply bD)⟩⟩
       ·rw [if_neg c58] at H
        have c58b0 : decide (a0_4 < t116) = false := decide_eq_false c58
        clear c58
        (first | rw [c58b0] | (simp only [i64_w, i32_w]; rw [c58b0]) | skip)
        by_cases c73 : t116 < (wrap64 (-a0_4))
        ·rw [if_pos c73] at H
         have c73b0 : decide (t116 < (wrap64 (-a0_4))) = true := decide_eq_true c73
         clear c73
         have H' := Aside0.mk H
         clear H
         have hnb74 := NB109_110.out
         have hnc74 := NB110_109.out
         have hnb75 := NB109_111.out
         have hnc75 := NB111_109.out
         have hnb76 := NB109_118.out
         have hnc76 := NB118_109.out
         have hcz77_0 : _ = some (Value.int .i64 a0_0) := (blk_cell BK109.out 0).trans rfl
         have hcz77_1 : _ = some (Value.int .i64 a0_1) := (blk_cell BK109.out 1).trans rfl
         have hcz77_2 : _ = some (Value.int .i64 a0_2) := (blk_cell BK109.out 2).trans rfl
         have hcz77_3 : _ = some (Value.int .i64 a0_3) := (blk_cell BK109.out 3).trans rfl
         have hcz77_4 : _ = some (Value.int .i64 a0_4) := (blk_cell BK109.out 4).trans rfl
         have hcz77_5 : _ = some (Value.int .i64 a0_5) := (blk_cell BK109.out 5).trans rfl
         have hcz77_6 : _ = some (Value.int .i64 a0_6) := (blk_cell BK109.out 6).trans rfl
         have hfz77_0 := blk_frozen BK109.out 0
         have hfz77_1 := blk_frozen BK109.out 1
         have hfz77_2 := blk_frozen BK109.out 2
         have hfz77_3 := blk_frozen BK109.out 3
         have hfz77_4 := blk_frozen BK109.out 4
         have hfz77_5 := blk_frozen BK109.out 5
         have hfz77_6 := blk_frozen BK109.out 6
         go_wp2
         go_meet
         case rel => exact ⟨_, (decide ((wrap64 (a2 - a3)) < 0)), (by first | rfl | (simp; done) | (simp [*]; done)), H', ⟨by have := HJ4.out; have := HJ35.out; first | omega | exact Nat.le_refl _⟩, ⟨by refine pk ?_; refine blk_far ?_ NB109_118.out _; refine pk ?_; refine blk_far ?_ NB109_118.out _; refine pk ?_; refine blk_far ?_ NB109_118.out _; refine pk ?_; refine blk_far ?_ NB109_118.out _; refine pk ?_; exact BK109.out⟩, ⟨by refine pk ?_; refine blk_far ?_ NB110_118.out _; refine pk ?_; refine blk_far ?_ NB110_118.out _; refine pk ?_; refine blk_far ?_ NB110_118.out _; refine pk ?_; refine blk_far ?_ NB110_118.out _; refine pk ?_; exact BK110.out⟩, ⟨by refine pk ?_; refine blk_far ?_ NB111_118.out _; refine pk ?_; refine blk_far ?_ NB111_118.out _; refine pk ?_; refine blk_far ?_ NB111_118.out _; refine pk ?_; refine blk_far ?_ NB111_118.out _; refine pk ?_; exact BK111.out⟩, ⟨by refine pk ?_; refine blk_put (cs := #[.bool true, .int .i64 t115, .int .i64 (wrap64 (a2 - a3)), .int .i64 0]) ?_ 3 _ rfl; refine pk ?_; refine blk_put (cs := #[.bool true, .int .i64 t115, .int .i64 0, .int .i64 0]) ?_ 2 _ rfl; refine pk ?_; refine blk_put (cs := #[.bool true, .int .i64 0, .int .i64 0, .int .i64 0]) ?_ 1 _ rfl; refine pk ?_; refine blk_put (cs := #[.bool false, .int .i64 0, .int .i64 0, .int .i64 0]) ?_ 0 _ rfl; refine pk ?_; exact BK118.out⟩, ⟨by repeat (with_reducible first | exact HB.out | refine bz ?_ (by assumption) | apply bA | apply bN | apply bD)⟩⟩
        ·rw [if_neg c73] at H
         have c73b0 : decide (t116 < (wrap64 (-a0_4))) = false := decide_eq_false c73
         clear c73
         have H' := Aside0.mk H
         clear H
         have hnb78 := NB109_110.out
         have hnc78 := NB110_109.out
         have hnb79 := NB109_111.out
         have hnc79 := NB111_109.out
         have hnb80 := NB109_118.out
         have hnc80 := NB118_109.out
         have hcz81_0 : _ = some (Value.int .i64 a0_0) := (blk_cell BK109.out 0).trans rfl
         have hcz81_1 : _ = some (Value.int .i64 a0_1) := (blk_cell BK109.out 1).trans rfl
         have hcz81_2 : _ = some (Value.int .i64 a0_2) := (blk_cell BK109.out 2).trans rfl
         have hcz81_3 : _ = some (Value.int .i64 a0_3) := (blk_cell BK109.out 3).trans rfl
         have hcz81_4 : _ = some (Value.int .i64 a0_4) := (blk_cell BK109.out 4).trans rfl
         have hcz81_5 : _ = some (Value.int .i64 a0_5) := (blk_cell BK109.out 5).trans rfl
         have hcz81_6 : _ = some (Value.int .i64 a0_6) := (blk_cell BK109.out 6).trans rfl
         have hfz81_0 := blk_frozen BK109.out 0
         have hfz81_1 := blk_frozen BK109.out 1
         have hfz81_2 := blk_frozen BK109.out 2
         have hfz81_3 := blk_frozen BK109.out 3
         have hfz81_4 := blk_frozen BK109.out 4
         have hfz81_5 := blk_frozen BK109.out 5
         have hfz81_6 := blk_frozen BK109.out 6
         go_wp2
         go_meet
         case rel => exact ⟨_, (false), (by first | rfl | (simp; done) | (simp [*]; done)), H', ⟨by have := HJ4.out; have := HJ35.out; first | omega | exact Nat.le_refl _⟩, ⟨by refine pk ?_; refine blk_far ?_ NB109_118.out _; refine pk ?_; refine blk_far ?_ NB109_118.out _; refine pk ?_; refine blk_far ?_ NB109_118.out _; refine pk ?_; refine blk_far ?_ NB109_118.out _; refine pk ?_; exact BK109.out⟩, ⟨by refine pk ?_; refine blk_far ?_ NB110_118.out _; refine pk ?_; refine blk_far ?_ NB110_118.out _; refine pk ?_; refine blk_far ?_ NB110_118.out _; refine pk ?_; refine blk_far ?_ NB110_118.out _; refine pk ?_; exact BK110.out⟩, ⟨by refine pk ?_; refine blk_far ?_ NB111_118.out _; refine pk ?_; refine blk_far ?_ NB111_118.out _; refine pk ?_; refine blk_far ?_ NB111_118.out _; refine pk ?_; refine blk_far ?_ NB111_118.out _; refine pk ?_; exact BK111.out⟩, ⟨by refine pk ?_; refine blk_put (cs := #[.bool true, .int .i64 t115, .int .i64 (wrap64 (a2 - a3)), .int .i64 0]) ?_ 3 _ rfl; refine pk ?_; refine blk_put (cs := #[.bool true, .int .i64 t115, .int .i64 0, .int .i64 0]) ?_ 2 _ rfl; refine pk ?_; refine blk_put (cs := #[.bool true, .int .i64 0, .int .i64 0, .int .i64 0]) ?_ 1 _ rfl; refine pk ?_; refine blk_put (cs := #[.bool false, .int .i64 0, .int .i64 0, .int .i64 0]) ?_ 0 _ rfl; refine pk ?_; exact BK118.out⟩, ⟨by repeat (with_reducible first | exact HB.out | refine bz ?_ (by assumption) | apply bA | apply bN | apply bD)⟩⟩
      case rest =>
       clear HC47
       try clear c1; try clear c2; try clear p2; try clear c3; try clear c4; try clear c5; try clear c6; try clear p6; try clear c7; try clear c8; try clear c10; try clear c12; try clear c14; try clear c15; try clear c17; try clear c20; try clear c21; try clear c22; try clear c23; try clear c24; try clear c26; try clear c27; try clear c29; try clear c32; try clear c33; try clear c34; try clear c37; try clear c38; try clear c39; try clear c40; try clear c41; try clear c42; try clear c48; try clear c49; try clear c51; try clear c54; try clear c55; try clear c56; try clear c58; try clear c58b0; try clear c59; try clear c59b0; try clear c60; try clear c61; try clear c62; try clear c64; try clear c64b0; try clear p64; try clear c65; try clear c66; try clear c67; try clear c69; try clear c70; try clear c71; try clear c73; try clear c73b0; try clear c74; try clear c75; try clear c76; try clear c78; try clear c79; try clear c80; try clear hcz16_0; try clear hcz16_1; try clear hcz16_2; try clear hcz16_3; try clear hcz16_4; try clear hcz16_5; try clear hcz16_6; try clear hcz18_0; try clear hcz18_1; try clear hcz18_2; try clear hcz18_3; try clear hcz22_0; try clear hcz22_1; try clear hcz22_2; try clear hcz22_3; try clear hcz22_4; try clear hcz22_5; try clear hcz22_6; try clear hcz24_0; try clear hcz24_1; try clear hcz24_2; try clear hcz24_3; try clear hcz28_0; try clear hcz28_1; try clear hcz28_2; try clear hcz28_3; try clear hcz28_4; try clear hcz28_5; try clear hcz28_6; try clear hcz30_0; try clear hcz30_1; try clear hcz30_2; try clear hcz30_3; try clear hcz35_0; try clear hcz35_1; try clear hcz35_2; try clear hcz35_3; try clear hcz39_0; try clear hcz39_1; try clear hcz39_2; try clear hcz39_3; try clear hcz43_0; try clear hcz43_1; try clear hcz43_2; try clear hcz43_3; try clear hcz50_0; try clear hcz50_1; try clear hcz50_2; try clear hcz50_3; try clear hcz52_0; try clear hcz52_1; try clear hcz52_2; try clear hcz52_3; try clear hcz52_4; try clear hcz52_5; try clear hcz52_6; try clear hcz57_0; try clear hcz57_1; try clear hcz57_2; try clear hcz57_3; try clear hcz63_0; try clear hcz63_1; try clear hcz63_2; try clear hcz63_3; try clear hcz63_4; try clear hcz63_5; try clear hcz63_6; try clear hcz68_0; try clear hcz68_1; try clear hcz68_2; try clear hcz68_3; try clear hcz68_4; try clear hcz68_5; try clear hcz68_6; try clear hcz72_0; try clear hcz72_1; try clear hcz72_2; try clear hcz72_3; try clear hcz72_4; try clear hcz72_5; try clear hcz72_6; try clear hcz77_0; try clear hcz77_1; try clear hcz77_2; try clear hcz77_3; try clear hcz77_4; try clear hcz77_5; try clear hcz77_6; try clear hcz81_0; try clear hcz81_1; try clear hcz81_2; try clear hcz81_3; try clear hcz81_4; try clear hcz81_5; try clear hcz81_6; try clear hfz16_0; try clear hfz16_1; try clear hfz16_2; try clear hfz16_3; try clear hfz16_4; try clear hfz16_5; try clear hfz16_6; try clear hfz18_0; try clear hfz18_1; try clear hfz18_2; try clear hfz18_3; try clear hfz22_0; try clear hfz22_1; try clear hfz22_2; try clear hfz22_3; try clear hfz22_4; try clear hfz22_5; try clear hfz22_6; try clear hfz24_0; try clear hfz24_1; try clear hfz24_2; try clear hfz24_3; try clear hfz28_0; try clear hfz28_1; try clear hfz28_2; try clear hfz28_3; try clear hfz28_4; try clear hfz28_5; try clear hfz28_6; try clear hfz30_0; try clear hfz30_1; try clear hfz30_2; try clear hfz30_3; try clear hfz35_0; try clear hfz35_1; try clear hfz35_2; try clear hfz35_3; try clear hfz39_0; try clear hfz39_1; try clear hfz39_2; try clear hfz39_3; try clear hfz43_0; try clear hfz43_1; try clear hfz43_2; try clear hfz43_3; try clear hfz50_0; try clear hfz50_1; try clear hfz50_2; try clear hfz50_3; try clear hfz52_0; try clear hfz52_1; try clear hfz52_2; try clear hfz52_3; try clear hfz52_4; try clear hfz52_5; try clear hfz52_6; try clear hfz57_0; try clear hfz57_1; try clear hfz57_2; try clear hfz57_3; try clear hfz63_0; try clear hfz63_1; try clear hfz63_2; try clear hfz63_3; try clear hfz63_4; try clear hfz63_5; try clear hfz63_6; try clear hfz68_0; try clear hfz68_1; try clear hfz68_2; try clear hfz68_3; try clear hfz68_4; try clear hfz68_5; try clear hfz68_6; try clear hfz72_0; try clear hfz72_1; try clear hfz72_2; try clear hfz72_3; try clear hfz72_4; try clear hfz72_5; try clear hfz72_6; try clear hfz77_0; try clear hfz77_1; try clear hfz77_2; try clear hfz77_3; try clear hfz77_4; try clear hfz77_5; try clear hfz77_6; try clear hfz81_0; try clear hfz81_1; try clear hfz81_2; try clear hfz81_3; try clear hfz81_4; try clear hfz81_5; try clear hfz81_6; try clear p2; try clear p6
       obtain ⟨kq, x94_46, rfl, HA, HJ46, BK109, BK110, BK111, BK118, HB⟩ := hcut
       cases kq with
       | zero => exact absurd HA.out (by simp [spec_HoldStep.j2])
       | succ kj46 =>
        have H := HA.out
        clear HA
        simp only [spec_HoldStep.j2] at H
        by_cases c82 : x94_46 = true
        ·subst c82
         have H1 : (if a1_0 = true then (if a0_6 > 0 then ((spec_l13Cut.f t117 (wrap64 (a1_3 - a0_6)) (wrap64 (a1_3 + a0_6))).bind fun t119 => (some (true, a1_1, (wrap64 (a2 - a3)), t119, true))) else (some (true, a1_1, (wrap64 (a2 - a3)), t117, true))) else (some (true, a1_1, (wrap64 (a2 - a3)), t117, true))) = some (r1, r2, r3, r4, r5) := by rw [if_pos rfl] at H; exact H
         clear H
         have H := H1
         clear H1
         by_cases c83 : a1_0 = true
         ·subst c83
          have H1 : (if a0_6 > 0 then ((spec_l13Cut.f t117 (wrap64 (a1_3 - a0_6)) (wrap64 (a1_3 + a0_6))).bind fun t119 => (some (true, a1_1, (wrap64 (a2 - a3)), t119, true))) else (some (true, a1_1, (wrap64 (a2 - a3)), t117, true))) = some (r1, r2, r3, r4, r5) := by rw [if_pos rfl] at H; exact H
          clear H
          have H := H1
          clear H1
          by_cases c84 : a0_6 > 0
          ·rw [if_pos c84] at H
           have c84b0 : decide (0 < a0_6) = true := decide_eq_true c84
           clear c84
           replace H := Option.bind_eq_some_iff.mp H
           obtain ⟨t119, A850, H⟩ := H
           replace H : (some (true, a1_1, (wrap64 (a2 - a3)), t119, true)) = some (r1, r2, r3, r4, r5) := H
           have A85 := Aside0.mk A850
           clear A850
           simp only [Option.some.injEq, Prod.mk.injEq] at H
           obtain ⟨rfl, rfl, rfl, rfl, rfl⟩ := H
           have hnb86 := NB110_109.out
           have hnc86 := NB109_110.out
           have hnb87 := NB110_111.out
           have hnc87 := NB111_110.out
           have hnb88 := NB110_118.out
           have hnc88 := NB118_110.out
           have hcz89_0 : wc.cell? ⟨gb110, 0, none⟩ = some (.bool true) := (blk_cell BK110.out 0).trans rfl
           have hcz89_1 : wc.cell? ⟨gb110, 1, none⟩ = some (.int .i64 a1_1) := (blk_cell BK110.out 1).trans rfl
           have hcz89_2 : wc.cell? ⟨gb110, 2, none⟩ = some (.int .i64 a1_2) := (blk_cell BK110.out 2).trans rfl
           have hcz89_3 : wc.cell? ⟨gb110, 3, none⟩ = some (.int .i64 a1_3) := (blk_cell BK110.out 3).trans rfl
           have hfz89_0 := blk_frozen BK110.out 0
           have hfz89_1 := blk_frozen BK110.out 1
           have hfz89_2 := blk_frozen BK110.out 2
           have hfz89_3 := blk_frozen BK110.out 3
           have hnb90 := NB118_109.out
           have hnc90 := NB109_118.out
           have hnb91 := NB118_111.out
           have hnc91 := NB111_118.out
           have hcz92_0 : wc.cell? ⟨gb118, 0, none⟩ = some (.bool true) := (blk_cell BK118.out 0).trans rfl
           have hcz92_1 : wc.cell? ⟨gb118, 1, none⟩ = some (.int .i64 t115) := (blk_cell BK118.out 1).trans rfl
           have hcz92_2 : wc.cell? ⟨gb118, 2, none⟩ = some (.int .i64 (wrap64 (a2 - a3))) := (blk_cell BK118.out 2).trans rfl
           have hcz92_3 : wc.cell? ⟨gb118, 3, none⟩ = some (.int .i64 t117) := (blk_cell BK118.out 3).trans rfl
           have hfz92_0 := blk_frozen BK118.out 0
           have hfz92_1 := blk_frozen BK118.out 1
           have hfz92_2 := blk_frozen BK118.out 2
           have hfz92_3 := blk_frozen BK118.out 3
           have hnb93 := NB109_111.out
           have hnc93 := NB111_109.out
           have hcz94_0 : wc.cell? ⟨gb109, 0, none⟩ = some (.int .i64 a0_0) := (blk_cell BK109.out 0).trans rfl
           have hcz94_1 : wc.cell? ⟨gb109, 1, none⟩ = some (.int .i64 a0_1) := (blk_cell BK109.out 1).trans rfl
           have hcz94_2 : wc.cell? ⟨gb109, 2, none⟩ = some (.int .i64 a0_2) := (blk_cell BK109.out 2).trans rfl
           have hcz94_3 : wc.cell? ⟨gb109, 3, none⟩ = some (.int .i64 a0_3) := (blk_cell BK109.out 3).trans rfl
           have hcz94_4 : wc.cell? ⟨gb109, 4, none⟩ = some (.int .i64 a0_4) := (blk_cell BK109.out 4).trans rfl
           have hcz94_5 : wc.cell? ⟨gb109, 5, none⟩ = some (.int .i64 a0_5) := (blk_cell BK109.out 5).trans rfl
           have hcz94_6 : wc.cell? ⟨gb109, 6, none⟩ = some (.int .i64 a0_6) := (blk_cell BK109.out 6).trans rfl
           have hfz94_0 := blk_frozen BK109.out 0
           have hfz94_1 := blk_frozen BK109.out 1
           have hfz94_2 := blk_frozen BK109.out 2
           have hfz94_3 := blk_frozen BK109.out 3
           have hfz94_4 := blk_frozen BK109.out 4
           have hfz94_5 := blk_frozen BK109.out 5
           have hfz94_6 := blk_frozen BK109.out 6
           go_wp2_with (first | ((with_reducible refine gate_callee (f := 40) rfl ?_); refine goesL_ (some 117) rfl rfl Try.func40 (by kernel_rfl) rfl #[.int .i64 t117, .int .i64 (wrap64 (a1_3 - a0_6)), .int .i64 (wrap64 (a1_3 + a0_6))] rfl (by (try simp only [lA, lB, lC]); first | done | rfl | (simp only [lD, lE]; rfl)) ?_; (with_reducible refine (spec_l13Cut.calls t117 (wrap64 (a1_3 - a0_6)) (wrap64 (a1_3 + a0_6)) t119 _ A85.out).mono ?_); rintro e w' ⟨rfl, ⟨nd, rfl⟩⟩; refine ⟨_, rfl, ?_⟩; have hcz95_0 : wc.cell? ⟨gb111, 0, none⟩ = some (.bool false) := (blk_cell BK111.out 0).trans rfl; have hcz95_1 : wc.cell? ⟨gb111, 1, none⟩ = some (.int .i64 0) := (blk_cell BK111.out 1).trans rfl; have hcz95_2 : wc.cell? ⟨gb111, 2, none⟩ = some (.int .i64 0) := (blk_cell BK111.out 2).trans rfl; have hcz95_3 : wc.cell? ⟨gb111, 3, none⟩ = some (.int .i64 0) := (blk_cell BK111.out 3).trans rfl; have hfz95_0 := blk_frozen BK111.out 0; have hfz95_1 := blk_frozen BK111.out 1; have hfz95_2 := blk_frozen BK111.out 2; have hfz95_3 := blk_frozen BK111.out 3))
           refine bodyPost_ret (results_ct rfl _ _ gb111 27 #[.bool true, .int .i64 a1_1, .int .i64 (wrap64 (a2 - a3)), .int .i64 t119] (0, 0) _ rfl (by refine pk ?_; refine blk_put (cs := #[.bool true, .int .i64 a1_1, .int .i64 (wrap64 (a2 - a3)), .int .i64 0]) ?_ 3 _ rfl; refine pk ?_; refine blk_put (cs := #[.bool true, .int .i64 a1_1, .int .i64 0, .int .i64 0]) ?_ 2 _ rfl; refine pk ?_; refine blk_put (cs := #[.bool true, .int .i64 0, .int .i64 0, .int .i64 0]) ?_ 1 _ rfl; refine pk ?_; refine blk_put (cs := #[.bool false, .int .i64 0, .int .i64 0, .int .i64 0]) ?_ 0 _ rfl; refine pk ?_; refine blk_far ?_ NB111_118.out _; refine pk ?_; refine blk_far ?_ NB111_118.out _; refine pk ?_; exact BK111.out) Try.underlying27 rfl (by kernel_rfl)) rfl ?_
           exact ⟨by first | rfl | (simp [errW_none, errW_some] <;> rfl) | (simp [*, errW_none, errW_some] <;> rfl), by repeat (with_reducible first | exact HB.out | refine bz ?_ (by assumption) | apply bA | apply bN | apply bD)⟩
          ·rw [if_neg c84] at H
           have c84b0 : decide (0 < a0_6) = false := decide_eq_false c84
           clear c84
           simp only [Option.some.injEq, Prod.mk.injEq] at H
           obtain ⟨rfl, rfl, rfl, rfl, rfl⟩ := H
           have hnb96 := NB110_109.out
           have hnc96 := NB109_110.out
           have hnb97 := NB110_111.out
           have hnc97 := NB111_110.out
           have hnb98 := NB110_118.out
           have hnc98 := NB118_110.out
           have hcz99_0 : wc.cell? ⟨gb110, 0, none⟩ = some (.bool true) := (blk_cell BK110.out 0).trans rfl
           have hcz99_1 : wc.cell? ⟨gb110, 1, none⟩ = some (.int .i64 a1_1) := (blk_cell BK110.out 1).trans rfl
           have hcz99_2 : wc.cell? ⟨gb110, 2, none⟩ = some (.int .i64 a1_2) := (blk_cell BK110.out 2).trans rfl
           have hcz99_3 : wc.cell? ⟨gb110, 3, none⟩ = some (.int .i64 a1_3) := (blk_cell BK110.out 3).trans rfl
           have hfz99_0 := blk_frozen BK110.out 0
           have hfz99_1 := blk_frozen BK110.out 1
           have hfz99_2 := blk_frozen BK110.out 2
           have hfz99_3 := blk_frozen BK110.out 3
           have hnb100 := NB118_109.out
           have hnc100 := NB109_118.out
           have hnb101 := NB118_111.out
           have hnc101 := NB111_118.out
           have hcz102_0 : wc.cell? ⟨gb118, 0, none⟩ = some (.bool true) := (blk_cell BK118.out 0).trans rfl
           have hcz102_1 : wc.cell? ⟨gb118, 1, none⟩ = some (.int .i64 t115) := (blk_cell BK118.out 1).trans rfl
           have hcz102_2 : wc.cell? ⟨gb118, 2, none⟩ = some (.int .i64 (wrap64 (a2 - a3))) := (blk_cell BK118.out 2).trans rfl
           have hcz102_3 : wc.cell? ⟨gb118, 3, none⟩ = some (.int .i64 t117) := (blk_cell BK118.out 3).trans rfl
           have hfz102_0 := blk_frozen BK118.out 0
           have hfz102_1 := blk_frozen BK118.out 1
           have hfz102_2 := blk_frozen BK118.out 2
           have hfz102_3 := blk_frozen BK118.out 3
           have hnb103 := NB109_111.out
           have hnc103 := NB111_109.out
           have hcz104_0 : wc.cell? ⟨gb109, 0, none⟩ = some (.int .i64 a0_0) := (blk_cell BK109.out 0).trans rfl
           have hcz104_1 : wc.cell? ⟨gb109, 1, none⟩ = some (.int .i64 a0_1) := (blk_cell BK109.out 1).trans rfl
           have hcz104_2 : wc.cell? ⟨gb109, 2, none⟩ = some (.int .i64 a0_2) := (blk_cell BK109.out 2).trans rfl
           have hcz104_3 : wc.cell? ⟨gb109, 3, none⟩ = some (.int .i64 a0_3) := (blk_cell BK109.out 3).trans rfl
           have hcz104_4 : wc.cell? ⟨gb109, 4, none⟩ = some (.int .i64 a0_4) := (blk_cell BK109.out 4).trans rfl
           have hcz104_5 : wc.cell? ⟨gb109, 5, none⟩ = some (.int .i64 a0_5) := (blk_cell BK109.out 5).trans rfl
           have hcz104_6 : wc.cell? ⟨gb109, 6, none⟩ = some (.int .i64 a0_6) := (blk_cell BK109.out 6).trans rfl
           have hfz104_0 := blk_frozen BK109.out 0
           have hfz104_1 := blk_frozen BK109.out 1
           have hfz104_2 := blk_frozen BK109.out 2
           have hfz104_3 := blk_frozen BK109.out 3
           have hfz104_4 := blk_frozen BK109.out 4
           have hfz104_5 := blk_frozen BK109.out 5
           have hfz104_6 := blk_frozen BK109.out 6
           have hcz105_0 : wc.cell? ⟨gb111, 0, none⟩ = some (.bool false) := (blk_cell BK111.out 0).trans rfl
           have hcz105_1 : wc.cell? ⟨gb111, 1, none⟩ = some (.int .i64 0) := (blk_cell BK111.out 1).trans rfl
           have hcz105_2 : wc.cell? ⟨gb111, 2, none⟩ = some (.int .i64 0) := (blk_cell BK111.out 2).trans rfl
           have hcz105_3 : wc.cell? ⟨gb111, 3, none⟩ = some (.int .i64 0) := (blk_cell BK111.out 3).trans rfl
           have hfz105_0 := blk_frozen BK111.out 0
           have hfz105_1 := blk_frozen BK111.out 1
           have hfz105_2 := blk_frozen BK111.out 2
           have hfz105_3 := blk_frozen BK111.out 3
           go_wp2
           refine bodyPost_ret (results_ct rfl _ _ gb111 27 #[.bool true, .int .i64 a1_1, .int .i64 (wrap64 (a2 - a3)), .int .i64 t117] (0, 0) _ rfl (by refine pk ?_; refine blk_put (cs := #[.bool true, .int .i64 a1_1, .int .i64 (wrap64 (a2 - a3)), .int .i64 0]) ?_ 3 _ rfl; refine pk ?_; refine blk_put (cs := #[.bool true, .int .i64 a1_1, .int .i64 0, .int .i64 0]) ?_ 2 _ rfl; refine pk ?_; refine blk_put (cs := #[.bool true, .int .i64 0, .int .i64 0, .int .i64 0]) ?_ 1 _ rfl; refine pk ?_; refine blk_put (cs := #[.bool false, .int .i64 0, .int .i64 0, .int .i64 0]) ?_ 0 _ rfl; refine pk ?_; refine blk_far ?_ NB111_118.out _; refine pk ?_; exact BK111.out) Try.underlying27 rfl (by kernel_rfl)) rfl ?_
           exact ⟨by first | rfl | (simp [errW_none, errW_some] <;> rfl) | (simp [*, errW_none, errW_some] <;> rfl), by repeat (with_reducible first | exact HB.out | refine bz ?_ (by assumption) | apply bA | apply bN | apply bD)⟩
         ·replace c83 := Bool.eq_false_iff.mpr c83
          subst c83
          have H1 : (some (true, a1_1, (wrap64 (a2 - a3)), t117, true)) = some (r1, r2, r3, r4, r5) := by rw [if_neg (show ¬ (false = true) by decide)] at H; exact H
          clear H
          have H := H1
          clear H1
          simp only [Option.some.injEq, Prod.mk.injEq] at H
          obtain ⟨rfl, rfl, rfl, rfl, rfl⟩ := H
          have hnb106 := NB110_109.out
          have hnc106 := NB109_110.out
          have hnb107 := NB110_111.out
          have hnc107 := NB111_110.out
          have hnb108 := NB110_118.out
          have hnc108 := NB118_110.out
          have hcz109_0 : wc.cell? ⟨gb110, 0, none⟩ = some (.bool false) := (blk_cell BK110.out 0).trans rfl
          have hcz109_1 : wc.cell? ⟨gb110, 1, none⟩ = some (.int .i64 a1_1) := (blk_cell BK110.out 1).trans rfl
          have hcz109_2 : wc.cell? ⟨gb110, 2, none⟩ = some (.int .i64 a1_2) := (blk_cell BK110.out 2).trans rfl
          have hcz109_3 : wc.cell? ⟨gb110, 3, none⟩ = some (.int .i64 a1_3) := (blk_cell BK110.out 3).trans rfl
          have hfz109_0 := blk_frozen BK110.out 0
          have hfz109_1 := blk_frozen BK110.out 1
          have hfz109_2 := blk_frozen BK110.out 2
          have hfz109_3 := blk_frozen BK110.out 3
          have hnb110 := NB118_109.out
          have hnc110 := NB109_118.out
          have hnb111 := NB118_111.out
          have hnc111 := NB111_118.out
          have hcz112_0 : wc.cell? ⟨gb118, 0, none⟩ = some (.bool true) := (blk_cell BK118.out 0).trans rfl
          have hcz112_1 : wc.cell? ⟨gb118, 1, none⟩ = some (.int .i64 t115) := (blk_cell BK118.out 1).trans rfl
          have hcz112_2 : wc.cell? ⟨gb118, 2, none⟩ = some (.int .i64 (wrap64 (a2 - a3))) := (blk_cell BK118.out 2).trans rfl
          have hcz112_3 : wc.cell? ⟨gb118, 3, none⟩ = some (.int .i64 t117) := (blk_cell BK118.out 3).trans rfl
          have hfz112_0 := blk_frozen BK118.out 0
          have hfz112_1 := blk_frozen BK118.out 1
          have hfz112_2 := blk_frozen BK118.out 2
          have hfz112_3 := blk_frozen BK118.out 3
          have hnb113 := NB111_109.out
          have hnc113 := NB109_111.out
          have hcz114_0 : wc.cell? ⟨gb111, 0, none⟩ = some (.bool false) := (blk_cell BK111.out 0).trans rfl
          have hcz114_1 : wc.cell? ⟨gb111, 1, none⟩ = some (.int .i64 0) := (blk_cell BK111.out 1).trans rfl
          have hcz114_2 : wc.cell? ⟨gb111, 2, none⟩ = some (.int .i64 0) := (blk_cell BK111.out 2).trans rfl
          have hcz114_3 : wc.cell? ⟨gb111, 3, none⟩ = some (.int .i64 0) := (blk_cell BK111.out 3).trans rfl
          have hfz114_0 := blk_frozen BK111.out 0
          have hfz114_1 := blk_frozen BK111.out 1
          have hfz114_2 := blk_frozen BK111.out 2
          have hfz114_3 := blk_frozen BK111.out 3
          go_wp2
          refine bodyPost_ret (results_ct rfl _ _ gb111 27 #[.bool true, .int .i64 a1_1, .int .i64 (wrap64 (a2 - a3)), .int .i64 t117] (0, 0) _ rfl (by refine pk ?_; refine blk_put (cs := #[.bool true, .int .i64 a1_1, .int .i64 (wrap64 (a2 - a3)), .int .i64 0]) ?_ 3 _ rfl; refine pk ?_; refine blk_put (cs := #[.bool true, .int .i64 a1_1, .int .i64 0, .int .i64 0]) ?_ 2 _ rfl; refine pk ?_; refine blk_put (cs := #[.bool true, .int .i64 0, .int .i64 0, .int .i64 0]) ?_ 1 _ rfl; refine pk ?_; refine blk_put (cs := #[.bool false, .int .i64 0, .int .i64 0, .int .i64 0]) ?_ 0 _ rfl; refine pk ?_; refine blk_far ?_ NB111_118.out _; refine pk ?_; exact BK111.out) Try.underlying27 rfl (by kernel_rfl)) rfl ?_
          exact ⟨by first | rfl | (simp [errW_none, errW_some] <;> rfl) | (simp [*, errW_none, errW_some] <;> rfl), by repeat (with_reducible first | exact HB.out | refine bz ?_ (by assumption) | apply bA | apply bN | apply bD)⟩
        ·replace c82 := Bool.eq_false_iff.mpr c82
         subst c82
         have H1 : (if a1_0 = true then (if a0_6 > 0 then ((spec_l13Cut.f t117 (wrap64 (a1_3 - a0_6)) (wrap64 (a1_3 + a0_6))).bind fun t120 => (some (true, t115, (wrap64 (a2 - a3)), t120, true))) else (some (true, t115, (wrap64 (a2 - a3)), t117, true))) else (some (true, t115, (wrap64 (a2 - a3)), t117, true))) = some (r1, r2, r3, r4, r5) := by rw [if_neg (show ¬ (false = true) by decide)] at H; exact H
         clear H
         have H := H1
         clear H1
         by_cases c115 : a1_0 = true
         ·subst c115
          have H1 : (if a0_6 > 0 then ((spec_l13Cut.f t117 (wrap64 (a1_3 - a0_6)) (wrap64 (a1_3 + a0_6))).bind fun t120 => (some (true, t115, (wrap64 (a2 - a3)), t120, true))) else (some (true, t115, (wrap64 (a2 - a3)), t117, true))) = some (r1, r2, r3, r4, r5) := by rw [if_pos rfl] at H; exact H
          clear H
          have H := H1
          clear H1
          by_cases c116 : a0_6 > 0
          ·rw [if_pos c116] at H
           have c116b0 : decide (0 < a0_6) = true := decide_eq_true c116
           clear c116
           replace H := Option.bind_eq_some_iff.mp H
           obtain ⟨t120, A1170, H⟩ := H
           replace H : (some (true, t115, (wrap64 (a2 - a3)), t120, true)) = some (r1, r2, r3, r4, r5) := H
           have A117 := Aside0.mk A1170
           clear A1170
           simp only [Option.some.injEq, Prod.mk.injEq] at H
           obtain ⟨rfl, rfl, rfl, rfl, rfl⟩ := H
           have hnb118 := NB110_109.out
           have hnc118 := NB109_110.out
           have hnb119 := NB110_111.out
           have hnc119 := NB111_110.out
           have hnb120 := NB110_118.out
           have hnc120 := NB118_110.out
           have hcz121_0 : wc.cell? ⟨gb110, 0, none⟩ = some (.bool true) := (blk_cell BK110.out 0).trans rfl
           have hcz121_1 : wc.cell? ⟨gb110, 1, none⟩ = some (.int .i64 a1_1) := (blk_cell BK110.out 1).trans rfl
           have hcz121_2 : wc.cell? ⟨gb110, 2, none⟩ = some (.int .i64 a1_2) := (blk_cell BK110.out 2).trans rfl
           have hcz121_3 : wc.cell? ⟨gb110, 3, none⟩ = some (.int .i64 a1_3) := (blk_cell BK110.out 3).trans rfl
           have hfz121_0 := blk_frozen BK110.out 0
           have hfz121_1 := blk_frozen BK110.out 1
           have hfz121_2 := blk_frozen BK110.out 2
           have hfz121_3 := blk_frozen BK110.out 3
           have hnb122 := NB109_111.out
           have hnc122 := NB111_109.out
           have hnb123 := NB109_118.out
           have hnc123 := NB118_109.out
           have hcz124_0 : wc.cell? ⟨gb109, 0, none⟩ = some (.int .i64 a0_0) := (blk_cell BK109.out 0).trans rfl
           have hcz124_1 : wc.cell? ⟨gb109, 1, none⟩ = some (.int .i64 a0_1) := (blk_cell BK109.out 1).trans rfl
           have hcz124_2 : wc.cell? ⟨gb109, 2, none⟩ = some (.int .i64 a0_2) := (blk_cell BK109.out 2).trans rfl
           have hcz124_3 : wc.cell? ⟨gb109, 3, none⟩ = some (.int .i64 a0_3) := (blk_cell BK109.out 3).trans rfl
           have hcz124_4 : wc.cell? ⟨gb109, 4, none⟩ = some (.int .i64 a0_4) := (blk_cell BK109.out 4).trans rfl
           have hcz124_5 : wc.cell? ⟨gb109, 5, none⟩ = some (.int .i64 a0_5) := (blk_cell BK109.out 5).trans rfl
           have hcz124_6 : wc.cell? ⟨gb109, 6, none⟩ = some (.int .i64 a0_6) := (blk_cell BK109.out 6).trans rfl
           have hfz124_0 := blk_frozen BK109.out 0
           have hfz124_1 := blk_frozen BK109.out 1
           have hfz124_2 := blk_frozen BK109.out 2
           have hfz124_3 := blk_frozen BK109.out 3
           have hfz124_4 := blk_frozen BK109.out 4
           have hfz124_5 := blk_frozen BK109.out 5
           have hfz124_6 := blk_frozen BK109.out 6
           have hnb125 := NB118_111.out
           have hnc125 := NB111_118.out
           have hcz126_0 : wc.cell? ⟨gb118, 0, none⟩ = some (.bool true) := (blk_cell BK118.out 0).trans rfl
           have hcz126_1 : wc.cell? ⟨gb118, 1, none⟩ = some (.int .i64 t115) := (blk_cell BK118.out 1).trans rfl
           have hcz126_2 : wc.cell? ⟨gb118, 2, none⟩ = some (.int .i64 (wrap64 (a2 - a3))) := (blk_cell BK118.out 2).trans rfl
           have hcz126_3 : wc.cell? ⟨gb118, 3, none⟩ = some (.int .i64 t117) := (blk_cell BK118.out 3).trans rfl
           have hfz126_0 := blk_frozen BK118.out 0
           have hfz126_1 := blk_frozen BK118.out 1
           have hfz126_2 := blk_frozen BK118.out 2
           have hfz126_3 := blk_frozen BK118.out 3
           go_wp2_with (first | ((with_reducible refine gate_callee (f := 40) rfl ?_); refine goesL_ (some 117) rfl rfl Try.func40 (by kernel_rfl) rfl #[.int .i64 t117, .int .i64 (wrap64 (a1_3 - a0_6)), .int .i64 (wrap64 (a1_3 + a0_6))] rfl (by (try simp only [lA, lB, lC]); first | done | rfl | (simp only [lD, lE]; rfl)) ?_; (with_reducible refine (spec_l13Cut.calls t117 (wrap64 (a1_3 - a0_6)) (wrap64 (a1_3 + a0_6)) t120 _ A117.out).mono ?_); rintro e w' ⟨rfl, ⟨nd, rfl⟩⟩; refine ⟨_, rfl, ?_⟩; (try (rw [drewN_self wc]; generalize hq_ : World.drewN wc _ = wc; have n0_ : Aside0 (wc.heap[gb109]? = some (.cells #[.int .i64 a0_0, .int .i64 a0_1, .int .i64 a0_2, .int .i64 a0_3, .int .i64 a0_4, .int .i64 a0_5, .int .i64 a0_6] 30 (0, 0))) := ⟨by rw [← hq_]; exact (pk BK109.out)⟩; have n1_ : Aside0 (wc.heap[gb110]? = some (.cells #[.bool true, .int .i64 a1_1, .int .i64 a1_2, .int .i64 a1_3] 27 (0, 0))) := ⟨by rw [← hq_]; exact (pk BK110.out)⟩; have n2_ : Aside0 (wc.heap[gb111]? = some (.cells #[.bool false, .int .i64 0, .int .i64 0, .int .i64 0] 27 (0, 0))) := ⟨by rw [← hq_]; exact (pk BK111.out)⟩; have n3_ : Aside0 (wc.heap[gb118]? = some (.cells #[.bool true, .int .i64 t115, .int .i64 (wrap64 (a2 - a3)), .int .i64 t117] 27 (0, 0))) := ⟨by rw [← hq_]; exact (pk BK118.out)⟩; have n4_ : Aside0 (Below w.heap.size w wc) := ⟨by rw [← hq_]; exact (by repeat (with_reducible first | exact HB.out | refine bz ?_ (by assumption) | apply bA | apply bN | apply bD))⟩; clear BK109 BK110 BK111 BK118 HB hq_; have BK109 := n0_; have BK110 := n1_; have BK111 := n2_; have BK118 := n3_; have HB := n4_; clear n0_ n1_ n2_ n3_ n4_; have hcz121_0 : wc.cell? ⟨gb110, 0, none⟩ = some (.bool true) := (blk_cell BK110.out 0).trans rfl; have hcz121_1 : wc.cell? ⟨gb110, 1, none⟩ = some (.int .i64 a1_1) := (blk_cell BK110.out 1).trans rfl; have hcz121_2 : wc.cell? ⟨gb110, 2, none⟩ = some (.int .i64 a1_2) := (blk_cell BK110.out 2).trans rfl; have hcz121_3 : wc.cell? ⟨gb110, 3, none⟩ = some (.int .i64 a1_3) := (blk_cell BK110.out 3).trans rfl; have hfz121_0 := blk_frozen BK110.out 0; have hfz121_1 := blk_frozen BK110.out 1; have hfz121_2 := blk_frozen BK110.out 2; have hfz121_3 := blk_frozen BK110.out 3; have hcz124_0 : wc.cell? ⟨gb109, 0, none⟩ = some (.int .i64 a0_0) := (blk_cell BK109.out 0).trans rfl; have hcz124_1 : wc.cell? ⟨gb109, 1, none⟩ = some (.int .i64 a0_1) := (blk_cell BK109.out 1).trans rfl; have hcz124_2 : wc.cell? ⟨gb109, 2, none⟩ = some (.int .i64 a0_2) := (blk_cell BK109.out 2).trans rfl; have hcz124_3 : wc.cell? ⟨gb109, 3, none⟩ = some (.int .i64 a0_3) := (blk_cell BK109.out 3).trans rfl; have hcz124_4 : wc.cell? ⟨gb109, 4, none⟩ = some (.int .i64 a0_4) := (blk_cell BK109.out 4).trans rfl; have hcz124_5 : wc.cell? ⟨gb109, 5, none⟩ = some (.int .i64 a0_5) := (blk_cell BK109.out 5).trans rfl; have hcz124_6 : wc.cell? ⟨gb109, 6, none⟩ = some (.int .i64 a0_6) := (blk_cell BK109.out 6).trans rfl; have hfz124_0 := blk_frozen BK109.out 0; have hfz124_1 := blk_frozen BK109.out 1; have hfz124_2 := blk_frozen BK109.out 2; have hfz124_3 := blk_frozen BK109.out 3; have hfz124_4 := blk_frozen BK109.out 4; have hfz124_5 := blk_frozen BK109.out 5; have hfz124_6 := blk_frozen BK109.out 6; have hcz126_0 : wc.cell? ⟨gb118, 0, none⟩ = some (.bool true) := (blk_cell BK118.out 0).trans rfl; have hcz126_1 : wc.cell? ⟨gb118, 1, none⟩ = some (.int .i64 t115) := (blk_cell BK118.out 1).trans rfl; have hcz126_2 : wc.cell? ⟨gb118, 2, none⟩ = some (.int .i64 (wrap64 (a2 - a3))) := (blk_cell BK118.out 2).trans rfl; have hcz126_3 : wc.cell? ⟨gb118, 3, none⟩ = some (.int .i64 t117) := (blk_cell BK118.out 3).trans rfl; have hfz126_0 := blk_frozen BK118.out 0; have hfz126_1 := blk_frozen BK118.out 1; have hfz126_2 := blk_frozen BK118.out 2; have hfz126_3 := blk_frozen BK118.out 3)); have hcz127_0 : wc.cell? ⟨gb111, 0, none⟩ = some (.bool false) := (blk_cell BK111.out 0).trans rfl; have hcz127_1 : wc.cell? ⟨gb111, 1, none⟩ = some (.int .i64 0) := (blk_cell BK111.out 1).trans rfl; have hcz127_2 : wc.cell? ⟨gb111, 2, none⟩ = some (.int .i64 0) := (blk_cell BK111.out 2).trans rfl; have hcz127_3 : wc.cell? ⟨gb111, 3, none⟩ = some (.int .i64 0) := (blk_cell BK111.out 3).trans rfl; have hfz127_0 := blk_frozen BK111.out 0; have hfz127_1 := blk_frozen BK111.out 1; have hfz127_2 := blk_frozen BK111.out 2; have hfz127_3 := blk_frozen BK111.out 3))
           refine bodyPost_ret (results_ct rfl _ _ gb111 27 #[.bool true, .int .i64 t115, .int .i64 (wrap64 (a2 - a3)), .int .i64 t120] (0, 0) _ rfl (by refine pk ?_; refine blk_put (cs := #[.bool true, .int .i64 t115, .int .i64 (wrap64 (a2 - a3)), .int .i64 0]) ?_ 3 _ rfl; refine pk ?_; refine blk_put (cs := #[.bool true, .int .i64 t115, .int .i64 0, .int .i64 0]) ?_ 2 _ rfl; refine pk ?_; refine blk_put (cs := #[.bool true, .int .i64 0, .int .i64 0, .int .i64 0]) ?_ 1 _ rfl; refine pk ?_; refine blk_put (cs := #[.bool false, .int .i64 0, .int .i64 0, .int .i64 0]) ?_ 0 _ rfl; refine pk ?_; refine blk_far ?_ NB111_118.out _; refine pk ?_; exact BK111.out) Try.underlying27 rfl (by kernel_rfl)) rfl ?_
           exact ⟨by first | rfl | (simp [errW_none, errW_some] <;> rfl) | (simp [*, errW_none, errW_some] <;> rfl), by repeat (with_reducible first | exact HB.out | refine bz ?_ (by assumption) | apply bA | apply bN | apply bD)⟩
          ·rw [if_neg c116] at H
           have c116b0 : decide (0 < a0_6) = false := decide_eq_false c116
           clear c116
           simp only [Option.some.injEq, Prod.mk.injEq] at H
           obtain ⟨rfl, rfl, rfl, rfl, rfl⟩ := H
           have hnb128 := NB110_109.out
           have hnc128 := NB109_110.out
           have hnb129 := NB110_111.out
           have hnc129 := NB111_110.out
           have hnb130 := NB110_118.out
           have hnc130 := NB118_110.out
           have hcz131_0 : wc.cell? ⟨gb110, 0, none⟩ = some (.bool true) := (blk_cell BK110.out 0).trans rfl
           have hcz131_1 : wc.cell? ⟨gb110, 1, none⟩ = some (.int .i64 a1_1) := (blk_cell BK110.out 1).trans rfl
           have hcz131_2 : wc.cell? ⟨gb110, 2, none⟩ = some (.int .i64 a1_2) := (blk_cell BK110.out 2).trans rfl
           have hcz131_3 : wc.cell? ⟨gb110, 3, none⟩ = some (.int .i64 a1_3) := (blk_cell BK110.out 3).trans rfl
           have hfz131_0 := blk_frozen BK110.out 0
           have hfz131_1 := blk_frozen BK110.out 1
           have hfz131_2 := blk_frozen BK110.out 2
           have hfz131_3 := blk_frozen BK110.out 3
           have hnb132 := NB109_111.out
           have hnc132 := NB111_109.out
           have hnb133 := NB109_118.out
           have hnc133 := NB118_109.out
           have hcz134_0 : wc.cell? ⟨gb109, 0, none⟩ = some (.int .i64 a0_0) := (blk_cell BK109.out 0).trans rfl
           have hcz134_1 : wc.cell? ⟨gb109, 1, none⟩ = some (.int .i64 a0_1) := (blk_cell BK109.out 1).trans rfl
           have hcz134_2 : wc.cell? ⟨gb109, 2, none⟩ = some (.int .i64 a0_2) := (blk_cell BK109.out 2).trans rfl
           have hcz134_3 : wc.cell? ⟨gb109, 3, none⟩ = some (.int .i64 a0_3) := (blk_cell BK109.out 3).trans rfl
           have hcz134_4 : wc.cell? ⟨gb109, 4, none⟩ = some (.int .i64 a0_4) := (blk_cell BK109.out 4).trans rfl
           have hcz134_5 : wc.cell? ⟨gb109, 5, none⟩ = some (.int .i64 a0_5) := (blk_cell BK109.out 5).trans rfl
           have hcz134_6 : wc.cell? ⟨gb109, 6, none⟩ = some (.int .i64 a0_6) := (blk_cell BK109.out 6).trans rfl
           have hfz134_0 := blk_frozen BK109.out 0
           have hfz134_1 := blk_frozen BK109.out 1
           have hfz134_2 := blk_frozen BK109.out 2
           have hfz134_3 := blk_frozen BK109.out 3
           have hfz134_4 := blk_frozen BK109.out 4
           have hfz134_5 := blk_frozen BK109.out 5
           have hfz134_6 := blk_frozen BK109.out 6
           have hnb135 := NB118_111.out
           have hnc135 := NB111_118.out
           have hcz136_0 : wc.cell? ⟨gb118, 0, none⟩ = some (.bool true) := (blk_cell BK118.out 0).trans rfl
           have hcz136_1 : wc.cell? ⟨gb118, 1, none⟩ = some (.int .i64 t115) := (blk_cell BK118.out 1).trans rfl
           have hcz136_2 : wc.cell? ⟨gb118, 2, none⟩ = some (.int .i64 (wrap64 (a2 - a3))) := (blk_cell BK118.out 2).trans rfl
           have hcz136_3 : wc.cell? ⟨gb118, 3, none⟩ = some (.int .i64 t117) := (blk_cell BK118.out 3).trans rfl
           have hfz136_0 := blk_frozen BK118.out 0
           have hfz136_1 := blk_frozen BK118.out 1
           have hfz136_2 := blk_frozen BK118.out 2
           have hfz136_3 := blk_frozen BK118.out 3
           have hcz137_0 : wc.cell? ⟨gb111, 0, none⟩ = some (.bool false) := (blk_cell BK111.out 0).trans rfl
           have hcz137_1 : wc.cell? ⟨gb111, 1, none⟩ = some (.int .i64 0) := (blk_cell BK111.out 1).trans rfl
           have hcz137_2 : wc.cell? ⟨gb111, 2, none⟩ = some (.int .i64 0) := (blk_cell BK111.out 2).trans rfl
           have hcz137_3 : wc.cell? ⟨gb111, 3, none⟩ = some (.int .i64 0) := (blk_cell BK111.out 3).trans rfl
           have hfz137_0 := blk_frozen BK111.out 0
           have hfz137_1 := blk_frozen BK111.out 1
           have hfz137_2 := blk_frozen BK111.out 2
           have hfz137_3 := blk_frozen BK111.out 3
           go_wp2
           refine bodyPost_ret (results_ct rfl _ _ gb111 27 #[.bool true, .int .i64 t115, .int .i64 (wrap64 (a2 - a3)), .int .i64 t117] (0, 0) _ rfl (by refine pk ?_; refine blk_put (cs := #[.bool true, .int .i64 t115, .int .i64 (wrap64 (a2 - a3)), .int .i64 0]) ?_ 3 _ rfl; refine pk ?_; refine blk_put (cs := #[.bool true, .int .i64 t115, .int .i64 0, .int .i64 0]) ?_ 2 _ rfl; refine pk ?_; refine blk_put (cs := #[.bool true, .int .i64 0, .int .i64 0, .int .i64 0]) ?_ 1 _ rfl; refine pk ?_; refine blk_put (cs := #[.bool false, .int .i64 0, .int .i64 0, .int .i64 0]) ?_ 0 _ rfl; refine pk ?_; exact BK111.out) Try.underlying27 rfl (by kernel_rfl)) rfl ?_
           exact ⟨by first | rfl | (simp [errW_none, errW_some] <;> rfl) | (simp [*, errW_none, errW_some] <;> rfl), by repeat (with_reducible first | exact HB.out | refine bz ?_ (by assumption) | apply bA | apply bN | apply bD)⟩
         ·replace c115 := Bool.eq_false_iff.mpr c115
          subst c115
          have H1 : (some (true, t115, (wrap64 (a2 - a3)), t117, true)) = some (r1, r2, r3, r4, r5) := by rw [if_neg (show ¬ (false = true) by decide)] at H; exact H
          clear H
          have H := H1
          clear H1
          simp only [Option.some.injEq, Prod.mk.injEq] at H
          obtain ⟨rfl, rfl, rfl, rfl, rfl⟩ := H
          have hnb138 := NB110_109.out
          have hnc138 := NB109_110.out
          have hnb139 := NB110_111.out
          have hnc139 := NB111_110.out
          have hnb140 := NB110_118.out
          have hnc140 := NB118_110.out
          have hcz141_0 : wc.cell? ⟨gb110, 0, none⟩ = some (.bool false) := (blk_cell BK110.out 0).trans rfl
          have hcz141_1 : wc.cell? ⟨gb110, 1, none⟩ = some (.int .i64 a1_1) := (blk_cell BK110.out 1).trans rfl
          have hcz141_2 : wc.cell? ⟨gb110, 2, none⟩ = some (.int .i64 a1_2) := (blk_cell BK110.out 2).trans rfl
          have hcz141_3 : wc.cell? ⟨gb110, 3, none⟩ = some (.int .i64 a1_3) := (blk_cell BK110.out 3).trans rfl
          have hfz141_0 := blk_frozen BK110.out 0
          have hfz141_1 := blk_frozen BK110.out 1
          have hfz141_2 := blk_frozen BK110.out 2
          have hfz141_3 := blk_frozen BK110.out 3
          have hnb142 := NB118_109.out
          have hnc142 := NB109_118.out
          have hnb143 := NB118_111.out
          have hnc143 := NB111_118.out
          have hcz144_0 : wc.cell? ⟨gb118, 0, none⟩ = some (.bool true) := (blk_cell BK118.out 0).trans rfl
          have hcz144_1 : wc.cell? ⟨gb118, 1, none⟩ = some (.int .i64 t115) := (blk_cell BK118.out 1).trans rfl
          have hcz144_2 : wc.cell? ⟨gb118, 2, none⟩ = some (.int .i64 (wrap64 (a2 - a3))) := (blk_cell BK118.out 2).trans rfl
          have hcz144_3 : wc.cell? ⟨gb118, 3, none⟩ = some (.int .i64 t117) := (blk_cell BK118.out 3).trans rfl
          have hfz144_0 := blk_frozen BK118.out 0
          have hfz144_1 := blk_frozen BK118.out 1
          have hfz144_2 := blk_frozen BK118.out 2
          have hfz144_3 := blk_frozen BK118.out 3
          have hnb145 := NB111_109.out
          have hnc145 := NB109_111.out
          have hcz146_0 : wc.cell? ⟨gb111, 0, none⟩ = some (.bool false) := (blk_cell BK111.out 0).trans rfl
          have hcz146_1 : wc.cell? ⟨gb111, 1, none⟩ = some (.int .i64 0) := (blk_cell BK111.out 1).trans rfl
          have hcz146_2 : wc.cell? ⟨gb111, 2, none⟩ = some (.int .i64 0) := (blk_cell BK111.out 2).trans rfl
          have hcz146_3 : wc.cell? ⟨gb111, 3, none⟩ = some (.int .i64 0) := (blk_cell BK111.out 3).trans rfl
          have hfz146_0 := blk_frozen BK111.out 0
          have hfz146_1 := blk_frozen BK111.out 1
          have hfz146_2 := blk_frozen BK111.out 2
          have hfz146_3 := blk_frozen BK111.out 3
          go_wp2
          refine bodyPost_ret (results_ct rfl _ _ gb111 27 #[.bool true, .int .i64 t115, .int .i64 (wrap64 (a2 - a3)), .int .i64 t117] (0, 0) _ rfl (by refine pk ?_; refine blk_put (cs := #[.bool true, .int .i64 t115, .int .i64 (wrap64 (a2 - a3)), .int .i64 0]) ?_ 3 _ rfl; refine pk ?_; refine blk_put (cs := #[.bool true, .int .i64 t115, .int .i64 0, .int .i64 0]) ?_ 2 _ rfl; refine pk ?_; refine blk_put (cs := #[.bool true, .int .i64 0, .int .i64 0, .int .i64 0]) ?_ 1 _ rfl; refine pk ?_; refine blk_put (cs := #[.bool false, .int .i64 0, .int .i64 0, .int .i64 0]) ?_ 0 _ rfl; refine pk ?_; exact BK111.out) Try.underlying27 rfl (by kernel_rfl)) rfl ?_
          exact ⟨by first | rfl | (simp [errW_none, errW_some] <;> rfl) | (simp [*, errW_none, errW_some] <;> rfl), by repeat (with_reducible first | exact HB.out | refine bz ?_ (by assumption) | apply bA | apply bN | apply bD)⟩

end Go.Proofs.Ytineniimpdjpnaa.PFnExactRunHold
