-- Written by a program of this session out of the loaded functions' print; helper lemmas as print.sh lays them.
import Derived.Test.YtineniimpdjpnaaUp2
import Derived.Test.YtineniimpdjpnaaUp
import Derived.Test.YtineniimpdjpnaaRFnExactRunHoldx0
import Derived.Test.YtineniimpdjpnaaRFnExactRunHoldx5
namespace Go.Proofs.Ytineniimpdjpnaa.PFnExactRunHold
open Go.RowKit Go.Proofs.YtineniimpdjpnaaW.PrintWords Go.Proofs.YtineniimpdjpnaaW.PrintLast Go.Proofs.YtineniimpdjpnaaW.PrintMore
attribute [local go_sem] max2_int min2_int max_two min_two max_three min_three max_four min_four  -- for this text's walks alone
set_option linter.unusedVariables false
set_option linter.unusedSimpArgs false

/-! ### impl_HoldStep: function 20 -/
mutual
def impl_HoldStep.j0 : Nat → Int → Int → Bool → Int → Int → Int → Int → Int → Int → Int → Bool → Int → Int → Int → Option (Bool × Int × Int × Int × Bool)
 | 0, _, _, _, _, _, _, _, _, _, _, _, _, _, _ => none
 | k + 1, x2, x3, x28, x162000, x162001, x162002, x162003, x162004, x162005, x162006, x163000, x163001, x163002, x163003 => if x28 = true then (some (false, 0, 0, 0, false)) else (if x163000 = true then (impl_HoldStep.j1 k (wrap64 (x2 - x3)) (wrap64 ((wrap64 (x2 - x3)) - x163002)) x162000 x162001 x162002 x162003 x162004 x162005 x162006 x163000 x163001 x163002 x163003) else (impl_HoldStep.j1 k (wrap64 (x2 - x3)) 0 x162000 x162001 x162002 x162003 x162004 x162005 x162006 x163000 x163001 x163002 x163003))
def impl_HoldStep.j1 : Nat → Int → Int → Int → Int → Int → Int → Int → Int → Int → Bool → Int → Int → Int → Option (Bool × Int × Int × Int × Bool)
 | 0, _, _, _, _, _, _, _, _, _, _, _, _, _ => none
 | k + 1, x10, x11, x162000, x162001, x162002, x162003, x162004, x162005, x162006, x163000, x163001, x163002, x163003 => (impl_cut.f (wrap64 (x163001 + x10)) (wrap64 (-x162005)) x162005).bind fun t167 => ((impl_down.f (wrap64 ((wrap64 ((wrap64 (x162000 * x10)) + (wrap64 (x162001 * t167)))) + (wrap64 (x162002 * x11)))) x162003).bind fun t168 => (if t168 > x162004 then (if x10 > 0 then (impl_HoldStep.j2 k x10 t167 t168 true x162000 x162001 x162002 x162003 x162004 x162005 x162006 x163000 x163001 x163002 x163003) else (if t168 < (wrap64 (-x162004)) then (impl_HoldStep.j2 k x10 t167 t168 (decide (x10 < 0)) x162000 x162001 x162002 x162003 x162004 x162005 x162006 x163000 x163001 x163002 x163003) else (impl_HoldStep.j2 k x10 t167 t168 false x162000 x162001 x162002 x162003 x162004 x162005 x162006 x163000 x163001 x163002 x163003))) else (if t168 < (wrap64 (-x162004)) then (impl_HoldStep.j2 k x10 t167 t168 (decide (x10 < 0)) x162000 x162001 x162002 x162003 x162004 x162005 x162006 x163000 x163001 x163002 x163003) else (impl_HoldStep.j2 k x10 t167 t168 false x162000 x162001 x162002 x162003 x162004 x162005 x162006 x163000 x163001 x163002 x163003))))
def impl_HoldStep.j2 : Nat → Int → Int → Int → Bool → Int → Int → Int → Int → Int → Int → Int → Bool → Int → Int → Int → Option (Bool × Int × Int × Int × Bool)
 | 0, _, _, _, _, _, _, _, _, _, _, _, _, _, _, _ => none
 | k + 1, x10, x12, x13, x84, x162000, x162001, x162002, x162003, x162004, x162005, x162006, x163000, x163001, x163002, x163003 => if x84 = true then (impl_HoldStep.j3 k x10 x163001 x13 x162000 x162001 x162002 x162003 x162004 x162005 x162006 x163000 x163001 x163002 x163003) else (impl_HoldStep.j3 k x10 x12 x13 x162000 x162001 x162002 x162003 x162004 x162005 x162006 x163000 x163001 x163002 x163003)
def impl_HoldStep.j3 : Nat → Int → Int → Int → Int → Int → Int → Int → Int → Int → Int → Bool → Int → Int → Int → Option (Bool × Int × Int × Int × Bool)
 | 0, _, _, _, _, _, _, _, _, _, _, _, _, _, _ => none
 | k + 1, x10, x12, x13, x162000, x162001, x162002, x162003, x162004, x162005, x162006, x163000, x163001, x163002, x163003 => (impl_cut.f x13 (wrap64 (-x162004)) x162004).bind fun t169 => (if x163000 = true then (if x162006 > 0 then ((impl_cut.f t169 (wrap64 (x163003 - x162006)) (wrap64 (x163003 + x162006))).bind fun t170 => (some (true, x12, x10, t170, true))) else (some (true, x12, x10, t169, true))) else (some (true, x12, x10, t169, true)))
end
def impl_HoldStep.f (k : Nat) (a0_0 : Int) (a0_1 : Int) (a0_2 : Int) (a0_3 : Int) (a0_4 : Int) (a0_5 : Int) (a0_6 : Int) (a1_0 : Bool) (a1_1 : Int) (a1_2 : Int) (a1_3 : Int) (a2 : Int) (a3 : Int) : Option (Bool × Int × Int × Int × Bool) := (impl_GoodHold.f a0_0 a0_1 a0_2 a0_3 a0_4 a0_5 a0_6 a1_0 a1_1 a1_2 a1_3).bind fun t164 => (if t164 = true then ((impl_within.f a2 1000000).bind fun t165 => (if t165 = true then ((impl_within.f a3 1000000).bind fun t166 => (impl_HoldStep.j0 k a2 a3 (!t166) a0_0 a0_1 a0_2 a0_3 a0_4 a0_5 a0_6 a1_0 a1_1 a1_2 a1_3)) else (impl_HoldStep.j0 k a2 a3 true a0_0 a0_1 a0_2 a0_3 a0_4 a0_5 a0_6 a1_0 a1_1 a1_2 a1_3))) else (impl_HoldStep.j0 k a2 a3 true a0_0 a0_1 a0_2 a0_3 a0_4 a0_5 a0_6 a1_0 a1_1 a1_2 a1_3))
theorem impl_HoldStep.mono_l : ∀ k, (∀ y0 y1 y2 y3 y4 y5 y6 y7 y8 y9 y10 y11 y12 y13, LeO (impl_HoldStep.j0 k y0 y1 y2 y3 y4 y5 y6 y7 y8 y9 y10 y11 y12 y13) (impl_HoldStep.j0 (k + 1) y0 y1 y2 y3 y4 y5 y6 y7 y8 y9 y10 y11 y12 y13)) ∧ (∀ y0 y1 y2 y3 y4 y5 y6 y7 y8 y9 y10 y11 y12, LeO (impl_HoldStep.j1 k y0 y1 y2 y3 y4 y5 y6 y7 y8 y9 y10 y11 y12) (impl_HoldStep.j1 (k + 1) y0 y1 y2 y3 y4 y5 y6 y7 y8 y9 y10 y11 y12)) ∧ (∀ y0 y1 y2 y3 y4 y5 y6 y7 y8 y9 y10 y11 y12 y13 y14, LeO (impl_HoldStep.j2 k y0 y1 y2 y3 y4 y5 y6 y7 y8 y9 y10 y11 y12 y13 y14) (impl_HoldStep.j2 (k + 1) y0 y1 y2 y3 y4 y5 y6 y7 y8 y9 y10 y11 y12 y13 y14)) ∧ (∀ y0 y1 y2 y3 y4 y5 y6 y7 y8 y9 y10 y11 y12 y13, LeO (impl_HoldStep.j3 k y0 y1 y2 y3 y4 y5 y6 y7 y8 y9 y10 y11 y12 y13) (impl_HoldStep.j3 (k + 1) y0 y1 y2 y3 y4 y5 y6 y7 y8 y9 y10 y11 y12 y13))
 | 0 => ⟨fun _ _ _ _ _ _ _ _ _ _ _ _ _ _ r h => by simp [impl_HoldStep.j0] at h, fun _ _ _ _ _ _ _ _ _ _ _ _ _ r h => by simp [impl_HoldStep.j1] at h, fun _ _ _ _ _ _ _ _ _ _ _ _ _ _ _ r h => by simp [impl_HoldStep.j2] at h, fun _ _ _ _ _ _ _ _ _ _ _ _ _ _ r h => by simp [impl_HoldStep.j3] at h⟩
 | k + 1 => by
  obtain ⟨ih0, ih1, ih2, ih3⟩ := impl_HoldStep.mono_l k
  refine ⟨?_, ?_, ?_, ?_⟩
  ·intro y0 y1 y2 y3 y4 y5 y6 y7 y8 y9 y10 y11 y12 y13
   unfold impl_HoldStep.j0
   repeat' first
   | (with_reducible exact ih0 _ _ _ _ _ _ _ _ _ _ _ _ _ _)
   | (with_reducible exact ih1 _ _ _ _ _ _ _ _ _ _ _ _ _)
   | (with_reducible exact ih2 _ _ _ _ _ _ _ _ _ _ _ _ _ _ _)
   | (with_reducible exact ih3 _ _ _ _ _ _ _ _ _ _ _ _ _ _)
   | (with_reducible exact LeO.refl _)
   | (with_reducible exact LeO.none _)
   | (with_reducible refine LeO.ite ?_ ?_)
   | (with_reducible refine LeO.bind ?_ (fun _ => ?_))
   | exact ih0 _ _ _ _ _ _ _ _ _ _ _ _ _ _
   | exact ih1 _ _ _ _ _ _ _ _ _ _ _ _ _
   | exact ih2 _ _ _ _ _ _ _ _ _ _ _ _ _ _ _
   | exact ih3 _ _ _ _ _ _ _ _ _ _ _ _ _ _
   | exact LeO.none _
   | refine LeO.ite ?_ ?_
   | refine LeO.bind ?_ (fun _ => ?_)
  ·intro y0 y1 y2 y3 y4 y5 y6 y7 y8 y9 y10 y11 y12
   unfold impl_HoldStep.j1
   repeat' first
   | (with_reducible exact ih0 _ _ _ _ _ _ _ _ _ _ _ _ _ _)
   | (with_reducible exact ih1 _ _ _ _ _ _ _ _ _ _ _ _ _)
   | (with_reducible exact ih2 _ _ _ _ _ _ _ _ _ _ _ _ _ _ _)
   | (with_reducible exact ih3 _ _ _ _ _ _ _ _ _ _ _ _ _ _)
   | (with_reducible exact LeO.refl _)
   | (with_reducible exact LeO.none _)
   | (with_reducible refine LeO.ite ?_ ?_)
   | (with_reducible refine LeO.bind ?_ (fun _ => ?_))
   | exact ih0 _ _ _ _ _ _ _ _ _ _ _ _ _ _
   | exact ih1 _ _ _ _ _ _ _ _ _ _ _ _ _
   | exact ih2 _ _ _ _ _ _ _ _ _ _ _ _ _ _ _
   | exact ih3 _ _ _ _ _ _ _ _ _ _ _ _ _ _
   | exact LeO.none _
   | refine LeO.ite ?_ ?_
   | refine LeO.bind ?_ (fun _ => ?_)
  ·intro y0 y1 y2 y3 y4 y5 y6 y7 y8 y9 y10 y11 y12 y13 y14
   unfold impl_HoldStep.j2
   repeat' first
   | (with_reducible exact ih0 _ _ _ _ _ _ _ _ _ _ _ _ _ _)
   | (with_reducible exact ih1 _ _ _ _ _ _ _ _ _ _ _ _ _)
   | (with_reducible exact ih2 _ _ _ _ _ _ _ _ _ _ _ _ _ _ _)
   | (with_reducible exact ih3 _ _ _ _ _ _ _ _ _ _ _ _ _ _)
   | (with_reducible exact LeO.refl _)
   | (with_reducible exact LeO.none _)
   | (with_reducible refine LeO.ite ?_ ?_)
   | (with_reducible refine LeO.bind ?_ (fun _ => ?_))
   | exact ih0 _ _ _ _ _ _ _ _ _ _ _ _ _ _
   | exact ih1 _ _ _ _ _ _ _ _ _ _ _ _ _
   | exact ih2 _ _ _ _ _ _ _ _ _ _ _ _ _ _ _
   | exact ih3 _ _ _ _ _ _ _ _ _ _ _ _ _ _
   | exact LeO.none _
   | refine LeO.ite ?_ ?_
   | refine LeO.bind ?_ (fun _ => ?_)
  ·intro y0 y1 y2 y3 y4 y5 y6 y7 y8 y9 y10 y11 y12 y13
   unfold impl_HoldStep.j3
   repeat' first
   | (with_reducible exact ih0 _ _ _ _ _ _ _ _ _ _ _ _ _ _)
   | (with_reducible exact ih1 _ _ _ _ _ _ _ _ _ _ _ _ _)
   | (with_reducible exact ih2 _ _ _ _ _ _ _ _ _ _ _ _ _ _ _)
   | (with_reducible exact ih3 _ _ _ _ _ _ _ _ _ _ _ _ _ _)
   | (with_reducible exact LeO.refl _)
   | (with_reducible exact LeO.none _)
   | (with_reducible refine LeO.ite ?_ ?_)
   | (with_reducible refine LeO.bind ?_ (fun _ => ?_))
   | exact ih0 _ _ _ _ _ _ _ _ _ _ _ _ _ _
   | exact ih1 _ _ _ _ _ _ _ _ _ _ _ _ _
   | exact ih2 _ _ _ _ _ _ _ _ _ _ _ _ _ _ _
   | exact ih3 _ _ _ _ _ _ _ _ _ _ _ _ _ _
   | exact LeO.none _
   | refine LeO.ite ?_ ?_
   | refine LeO.bind ?_ (fun _ => ?_)
theorem impl_HoldStep.mono : ∀ a0 a1 a2 a3 a4 a5 a6 a7 a8 a9 a10 a11 a12 k, LeO (impl_HoldStep.f k a0 a1 a2 a3 a4 a5 a6 a7 a8 a9 a10 a11 a12) (impl_HoldStep.f (k + 1) a0 a1 a2 a3 a4 a5 a6 a7 a8 a9 a10 a11 a12) := by
 intro a0 a1 a2 a3 a4 a5 a6 a7 a8 a9 a10 a11 a12 k
 obtain ⟨ih0, ih1, ih2, ih3⟩ := impl_HoldStep.mono_l k
 unfold impl_HoldStep.f
 repeat' first
   | (with_reducible exact ih0 _ _ _ _ _ _ _ _ _ _ _ _ _ _)
   | (with_reducible exact ih1 _ _ _ _ _ _ _ _ _ _ _ _ _)
   | (with_reducible exact ih2 _ _ _ _ _ _ _ _ _ _ _ _ _ _ _)
   | (with_reducible exact ih3 _ _ _ _ _ _ _ _ _ _ _ _ _ _)
   | (with_reducible exact LeO.refl _)
   | (with_reducible exact LeO.none _)
   | (with_reducible refine LeO.ite ?_ ?_)
   | (with_reducible refine LeO.bind ?_ (fun _ => ?_))
   | exact ih0 _ _ _ _ _ _ _ _ _ _ _ _ _ _
   | exact ih1 _ _ _ _ _ _ _ _ _ _ _ _ _
   | exact ih2 _ _ _ _ _ _ _ _ _ _ _ _ _ _ _
   | exact ih3 _ _ _ _ _ _ _ _ _ _ _ _ _ _
   | exact LeO.none _
   | refine LeO.ite ?_ ?_
   | refine LeO.bind ?_ (fun _ => ?_)
set_option maxHeartbeats 8000000 in
set_option maxRecDepth 100000 in
theorem impl_HoldStep.calls (k : Nat) (a0_0 : Int) (a0_1 : Int) (a0_2 : Int) (a0_3 : Int) (a0_4 : Int) (a0_5 : Int) (a0_6 : Int) (a1_0 : Bool) (a1_1 : Int) (a1_2 : Int) (a1_3 : Int) (a2 : Int) (a3 : Int) (r1 : Bool) (r2 : Int) (r3 : Int) (r4 : Int) (r5 : Bool) (w : World) (h : impl_HoldStep.f k a0_0 a0_1 a0_2 a0_3 a0_4 a0_5 a0_6 a1_0 a1_1 a1_2 a1_3 a2 a3 = some (r1, r2, r3, r4, r5)) :
  Calls Try.prog 20 #[.agg #[.int .i64 a0_0, .int .i64 a0_1, .int .i64 a0_2, .int .i64 a0_3, .int .i64 a0_4, .int .i64 a0_5, .int .i64 a0_6], .agg #[.bool a1_0, .int .i64 a1_1, .int .i64 a1_2, .int .i64 a1_3], .int .i64 a2, .int .i64 a3] w fun e w' => e = .returned (.tuple #[.agg #[.bool r1, .int .i64 r2, .int .i64 r3, .int .i64 r4], .bool r5]) ∧ Below w.heap.size w w' := by
 have hu30 := Try.underlying30
 have hu27 := Try.underlying27
 have HB := a_ (Below.refl w.heap.size w)
 have H : ((impl_GoodHold.f a0_0 a0_1 a0_2 a0_3 a0_4 a0_5 a0_6 a1_0 a1_1 a1_2 a1_3).bind fun t164 => (if t164 = true then ((impl_within.f a2 1000000).bind fun t165 => (if t165 = true then ((impl_within.f a3 1000000).bind fun t166 => (impl_HoldStep.j0 k a2 a3 (!t166) a0_0 a0_1 a0_2 a0_3 a0_4 a0_5 a0_6 a1_0 a1_1 a1_2 a1_3)) else (impl_HoldStep.j0 k a2 a3 true a0_0 a0_1 a0_2 a0_3 a0_4 a0_5 a0_6 a1_0 a1_1 a1_2 a1_3))) else (impl_HoldStep.j0 k a2 a3 true a0_0 a0_1 a0_2 a0_3 a0_4 a0_5 a0_6 a1_0 a1_1 a1_2 a1_3))) = some (r1, r2, r3, r4, r5) := h
 clear h
 have HC5 := Aside0.mk H
 clear H
 go_enter Try.func20, Try.ntmps20
 go_upto_region 1 with (first | ((with_reducible refine gate_dst (N := 4) rfl ?_); refine box_event ?hg (N := 4) ?hd (cs := #[.int .i64 a0_0, .int .i64 a0_1, .int .i64 a0_2, .int .i64 a0_3, .int .i64 a0_4, .int .i64 a0_5, .int .i64 a0_6]) (t := 30) ?hr ?_; (case hd => rfl); (case hg => rfl); (case hr => first | (go_simp; done) | (go_simp; rfl)); intro gb161 hg w6 hbox hb; have BK161 := a_ (hbox); have GW161 := a_ (bsg hg HB.out); have GE161 := a_ (bsg hg HB.out); replace HB := a_ (below_step (un HB.out) hb); clear hb hbox hg) | ((with_reducible refine gate_dst (N := 5) rfl ?_); refine box_event ?hg (N := 5) ?hd (cs := #[.bool a1_0, .int .i64 a1_1, .int .i64 a1_2, .int .i64 a1_3]) (t := 27) ?hr ?_; (case hd => rfl); (case hg => rfl); (case hr => first | (go_simp; done) | (go_simp; rfl)); intro gb162 hg w7 hbox hb; have BK162 := a_ (hbox); have GW162 := a_ (bsg hg HB.out); have GE162 := a_ (bsg hg HB.out); replace HB := a_ (below_step (by repeat (with_reducible first | exact HB.out | refine bz ?_ (by assumption) | apply bA | apply bN | apply bD)) hb); have NB161_162 := a_ (nel hg BK161.out); have NB162_161 := a_ (nle hg BK161.out); replace BK161 := a_ (blk_below (pk BK161.out) hb); clear hb hbox hg) | ((with_reducible refine gate_dst (N := 8) rfl ?_); refine box_event ?hg (N := 8) ?hd (cs := #[.bool false, .int .i64 0, .int .i64 0, .int .i64 0]) (t := 27) ?hr ?_; (case hd => rfl); (case hg => rfl); (case hr => first | (go_simp; done) | (go_simp; rfl)); intro gb163 hg w8 hbox hb; have BK163 := a_ (hbox); have GW163 := a_ (bsg hg HB.out); have GE163 := a_ (bsg hg HB.out); replace HB := a_ (below_step (by repeat (with_reducible first | exact HB.out | refine bz ?_ (by assumption) | apply bA | apply bN | apply bD)) hb); have NB161_163 := a_ (nel hg BK161.out); have NB163_161 := a_ (nle hg BK161.out); replace BK161 := a_ (blk_below (pk BK161.out) hb); have NB162_163 := a_ (nel hg BK162.out); have NB163_162 := a_ (nle hg BK162.out); replace BK162 := a_ (blk_below (pk BK162.out) hb); clear hb hbox hg))
 (try simp only [Act.put, sB, sC, sD])
 go_cut [28] (fun v28 wc => ∃ (kq : Nat) (x28_4 : Bool), v28 = .bool x28_4 ∧ Aside0 (impl_HoldStep.j0 kq a2 a3 x28_4 a0_0 a0_1 a0_2 a0_3 a0_4 a0_5 a0_6 a1_0 a1_1 a1_2 a1_3 = some (r1, r2, r3, r4, r5)) ∧ Aside0 (kq ≤ k) ∧ Aside0 (wc.heap[gb161]? = some (.cells #[.int .i64 a0_0, .int .i64 a0_1, .int .i64 a0_2, .int .i64 a0_3, .int .i64 a0_4, .int .i64 a0_5, .int .i64 a0_6] 30 (0, 0))) ∧ Aside0 (wc.heap[gb162]? = some (.cells #[.bool a1_0, .int .i64 a1_1, .int .i64 a1_2, .int .i64 a1_3] 27 (0, 0))) ∧ Aside0 (wc.heap[gb163]? = some (.cells #[.bool false, .int .i64 0, .int .i64 0, .int .i64 0] 27 (0, 0))) ∧ Aside0 (Below w.heap.size w wc))
 case first =>
  have H := HC5.out
  clear HC5
  replace H := Option.bind_eq_some_iff.mp H
  obtain ⟨t164, A90, H⟩ := H
  replace H : (if t164 = true then ((impl_within.f a2 1000000).bind fun t165 => (if t165 = true then ((impl_within.f a3 1000000).bind fun t166 => (impl_HoldStep.j0 k a2 a3 (!t166) a0_0 a0_1 a0_2 a0_3 a0_4 a0_5 a0_6 a1_0 a1_1 a1_2 a1_3)) else (impl_HoldStep.j0 k a2 a3 true a0_0 a0_1 a0_2 a0_3 a0_4 a0_5 a0_6 a1_0 a1_1 a1_2 a1_3))) else (impl_HoldStep.j0 k a2 a3 true a0_0 a0_1 a0_2 a0_3 a0_4 a0_5 a0_6 a1_0 a1_1 a1_2 a1_3)) = some (r1, r2, r3, r4, r5) := H
  have A9 := Aside0.mk A90
  clear A90
  by_cases c10 : t164 = true
  ·subst c10
   have H1 : ((impl_within.f a2 1000000).bind fun t165 => (if t165 = true then ((impl_within.f a3 1000000).bind fun t166 => (impl_HoldStep.j0 k a2 a3 (!t166) a0_0 a0_1 a0_2 a0_3 a0_4 a0_5 a0_6 a1_0 a1_1 a1_2 a1_3)) else (impl_HoldStep.j0 k a2 a3 true a0_0 a0_1 a0_2 a0_3 a0_4 a0_5 a0_6 a1_0 a1_1 a1_2 a1_3))) = some (r1, r2, r3, r4, r5) := by rw [if_pos rfl] at H; exact H
   clear H
   have H := H1
   clear H1
   replace H := Option.bind_eq_some_iff.mp H
   obtain ⟨t165, A110, H⟩ := H
   replace H : (if t165 = true then ((impl_within.f a3 1000000).bind fun t166 => (impl_HoldStep.j0 k a2 a3 (!t166) a0_0 a0_1 a0_2 a0_3 a0_4 a0_5 a0_6 a1_0 a1_1 a1_2 a1_3)) else (impl_HoldStep.j0 k a2 a3 true a0_0 a0_1 a0_2 a0_3 a0_4 a0_5 a0_6 a1_0 a1_1 a1_2 a1_3)) = some (r1, r2, r3, r4, r5) := H
   have A11 := Aside0.mk A110
   clear A110
   by_cases c12 : t165 = true
   ·subst c12
    have H1 : ((impl_within.f a3 1000000).bind fun t166 => (impl_HoldStep.j0 k a2 a3 (!t166) a0_0 a0_1 a0_2 a0_3 a0_4 a0_5 a0_6 a1_0 a1_1 a1_2 a1_3)) = some (r1, r2, r3, r4, r5) := by rw [if_pos rfl] at H; exact H
    clear H
    have H := H1
    clear H1
    replace H := Option.bind_eq_some_iff.mp H
    obtain ⟨t166, A130, H⟩ := H
    replace H : (impl_HoldStep.j0 k a2 a3 (!t166) a0_0 a0_1 a0_2 a0_3 a0_4 a0_5 a0_6 a1_0 a1_1 a1_2 a1_3) = some (r1, r2, r3, r4, r5) := H
    have A13 := Aside0.mk A130
    clear A130
    have H' := Aside0.mk H
    clear H
    have hnb14 := NB161_162.out
    have hnc14 := NB162_161.out
    have hnb15 := NB161_163.out
    have hnc15 := NB163_161.out
    have hcz16_0 : _ = some (Value.int .i64 a0_0) := (blk_cell BK161.out 0).trans rfl
    have hcz16_1 : _ = some (Value.int .i64 a0_1) := (blk_cell BK161.out 1).trans rfl
    have hcz16_2 : _ = some (Value.int .i64 a0_2) := (blk_cell BK161.out 2).trans rfl
    have hcz16_3 : _ = some (Value.int .i64 a0_3) := (blk_cell BK161.out 3).trans rfl
    have hcz16_4 : _ = some (Value.int .i64 a0_4) := (blk_cell BK161.out 4).trans rfl
    have hcz16_5 : _ = some (Value.int .i64 a0_5) := (blk_cell BK161.out 5).trans rfl
    have hcz16_6 : _ = some (Value.int .i64 a0_6) := (blk_cell BK161.out 6).trans rfl
    have hfz16_0 := blk_frozen BK161.out 0
    have hfz16_1 := blk_frozen BK161.out 1
    have hfz16_2 := blk_frozen BK161.out 2
    have hfz16_3 := blk_frozen BK161.out 3
    have hfz16_4 := blk_frozen BK161.out 4
    have hfz16_5 := blk_frozen BK161.out 5
    have hfz16_6 := blk_frozen BK161.out 6
    have hnb17 := NB162_163.out
    have hnc17 := NB163_162.out
    have hcz18_0 : _ = some (Value.bool a1_0) := (blk_cell BK162.out 0).trans rfl
    have hcz18_1 : _ = some (Value.int .i64 a1_1) := (blk_cell BK162.out 1).trans rfl
    have hcz18_2 : _ = some (Value.int .i64 a1_2) := (blk_cell BK162.out 2).trans rfl
    have hcz18_3 : _ = some (Value.int .i64 a1_3) := (blk_cell BK162.out 3).trans rfl
    have hfz18_0 := blk_frozen BK162.out 0
    have hfz18_1 := blk_frozen BK162.out 1
    have hfz18_2 := blk_frozen BK162.out 2
    have hfz18_3 := blk_frozen BK162.out 3
    go_wp2_with (first | ((with_reducible refine gate_callee (f := 25) rfl ?_); refine goesL_ (some 17) rfl rfl Try.func25 (by kernel_rfl) rfl #[.agg #[.int .i64 a0_0, .int .i64 a0_1, .int .i64 a0_2, .int .i64 a0_3, .int .i64 a0_4, .int .i64 a0_5, .int .i64 a0_6], .agg #[.bool a1_0, .int .i64 a1_1, .int .i64 a1_2, .int .i64 a1_3]] rfl (by (try simp only [lA, lB, lC]); first | done | rfl | (simp only [lD, lE]; rfl)) ?_; (with_reducible refine (impl_GoodHold.calls a0_0 a0_1 a0_2 a0_3 a0_4 a0_5 a0_6 a1_0 a1_1 a1_2 a1_3 true _ A9.out).mono ?_); rintro e w19 ⟨rfl, hb⟩; refine ⟨_, rfl, ?_⟩; replace BK161 := a_ (blk_below (pk BK161.out) hb); replace BK162 := a_ (blk_below (pk BK162.out) hb); replace BK163 := a_ (blk_below (pk BK163.out) hb); replace HB := a_ (below_step (by repeat (with_reducible first | exact HB.out | refine bz ?_ (by assumption) | apply bA | apply bN | apply bD)) hb); clear hb) | (go_at_call 33; (with_reducible refine (impl_within.calls a2 1000000 true _ A11.out).mono ?_); rintro e w' ⟨rfl, ⟨nd, rfl⟩⟩) | (go_at_call 33; (with_reducible refine (impl_within.calls a3 1000000 t166 _ A13.out).mono ?_); rintro e w' ⟨rfl, ⟨nd, rfl⟩⟩))
    go_meet
    case rel => exact ⟨_, (!t166), (by first | rfl | (simp; done) | (simp [*]; done)), H', ⟨by first | omega | exact Nat.le_refl _⟩, ⟨pk BK161.out⟩, ⟨pk BK162.out⟩, ⟨pk BK163.out⟩, ⟨by repeat (with_reducible first | exact HB.out | refine bz ?_ (by assumption) | apply bA | apply bN | apply bD)⟩⟩
   ·replace c12 := Bool.eq_false_iff.mpr c12
    subst c12
    have H1 : (impl_HoldStep.j0 k a2 a3 true a0_0 a0_1 a0_2 a0_3 a0_4 a0_5 a0_6 a1_0 a1_1 a1_2 a1_3) = some (r1, r2, r3, r4, r5) := by rw [if_neg (show ¬ (false = true) by decide)] at H; exact H
    clear H
    have H := H1
    clear H1
    have H' := Aside0.mk H
    clear H
    have hnb20 := NB161_162.out
    have hnc20 := NB162_161.out
    have hnb21 := NB161_163.out
    have hnc21 := NB163_161.out
    have hcz22_0 : _ = some (Value.int .i64 a0_0) := (blk_cell BK161.out 0).trans rfl
    have hcz22_1 : _ = some (Value.int .i64 a0_1) := (blk_cell BK161.out 1).trans rfl
    have hcz22_2 : _ = some (Value.int .i64 a0_2) := (blk_cell BK161.out 2).trans rfl
    have hcz22_3 : _ = some (Value.int .i64 a0_3) := (blk_cell BK161.out 3).trans rfl
    have hcz22_4 : _ = some (Value.int .i64 a0_4) := (blk_cell BK161.out 4).trans rfl
    have hcz22_5 : _ = some (Value.int .i64 a0_5) := (blk_cell BK161.out 5).trans rfl
    have hcz22_6 : _ = some (Value.int .i64 a0_6) := (blk_cell BK161.out 6).trans rfl
    have hfz22_0 := blk_frozen BK161.out 0
    have hfz22_1 := blk_frozen BK161.out 1
    have hfz22_2 := blk_frozen BK161.out 2
    have hfz22_3 := blk_frozen BK161.out 3
    have hfz22_4 := blk_frozen BK161.out 4
    have hfz22_5 := blk_frozen BK161.out 5
    have hfz22_6 := blk_frozen BK161.out 6
    have hnb23 := NB162_163.out
    have hnc23 := NB163_162.out
    have hcz24_0 : _ = some (Value.bool a1_0) := (blk_cell BK162.out 0).trans rfl
    have hcz24_1 : _ = some (Value.int .i64 a1_1) := (blk_cell BK162.out 1).trans rfl
    have hcz24_2 : _ = some (Value.int .i64 a1_2) := (blk_cell BK162.out 2).trans rfl
    have hcz24_3 : _ = some (Value.int .i64 a1_3) := (blk_cell BK162.out 3).trans rfl
    have hfz24_0 := blk_frozen BK162.out 0
    have hfz24_1 := blk_frozen BK162.out 1
    have hfz24_2 := blk_frozen BK162.out 2
    have hfz24_3 := blk_frozen BK162.out 3
    go_wp2_with (first | ((with_reducible refine gate_callee (f := 25) rfl ?_); refine goesL_ (some 17) rfl rfl Try.func25 (by kernel_rfl) rfl #[.agg #[.int .i64 a0_0, .int .i64 a0_1, .int .i64 a0_2, .int .i64 a0_3, .int .i64 a0_4, .int .i64 a0_5, .int .i64 a0_6], .agg #[.bool a1_0, .int .i64 a1_1, .int .i64 a1_2, .int .i64 a1_3]] rfl (by (try simp only [lA, lB, lC]); first | done | rfl | (simp only [lD, lE]; rfl)) ?_; (with_reducible refine (impl_GoodHold.calls a0_0 a0_1 a0_2 a0_3 a0_4 a0_5 a0_6 a1_0 a1_1 a1_2 a1_3 true _ A9.out).mono ?_); rintro e w25 ⟨rfl, hb⟩; refine ⟨_, rfl, ?_⟩; replace BK161 := a_ (blk_below (pk BK161.out) hb); replace BK162 := a_ (blk_below (pk BK162.out) hb); replace BK163 := a_ (blk_below (pk BK163.out) hb); replace HB := a_ (below_step (by repeat (with_reducible first | exact HB.out | refine bz ?_ (by assumption) | apply bA | apply bN | apply bD)) hb); clear hb) | (go_at_call 33; (with_reducible refine (impl_within.calls a2 1000000 false _ A11.out).mono ?_); rintro e w' ⟨rfl, ⟨nd, rfl⟩⟩))
    go_meet
    case rel => exact ⟨_, (true), (by first | rfl | (simp; done) | (simp [*]; done)), H', ⟨by first | omega | exact Nat.le_refl _⟩, ⟨pk BK161.out⟩, ⟨pk BK162.out⟩, ⟨pk BK163.out⟩, ⟨by repeat (with_reducible first | exact HB.out | refine bz ?_ (by assumption) | apply bA | apply bN | apply bD)⟩⟩
  ·replace c10 := Bool.eq_false_iff.mpr c10
   subst c10
   have H1 : (impl_HoldStep.j0 k a2 a3 true a0_0 a0_1 a0_2 a0_3 a0_4 a0_5 a0_6 a1_0 a1_1 a1_2 a1_3) = some (r1, r2, r3, r4, r5) := by rw [if_neg (show ¬ (false = true) by decide)] at H; exact H
   clear H
   have H := H1
   clear H1
   have H' := Aside0.mk H
   clear H
   have hnb26 := NB161_162.out
   have hnc26 := NB162_161.out
   have hnb27 := NB161_163.out
   have hnc27 := NB163_161.out
   have hcz28_0 : _ = some (Value.int .i64 a0_0) := (blk_cell BK161.out 0).trans rfl
   have hcz28_1 : _ = some (Value.int .i64 a0_1) := (blk_cell BK161.out 1).trans rfl
   have hcz28_2 : _ = some (Value.int .i64 a0_2) := (blk_cell BK161.out 2).trans rfl
   have hcz28_3 : _ = some (Value.int .i64 a0_3) := (blk_cell BK161.out 3).trans rfl
   have hcz28_4 : _ = some (Value.int .i64 a0_4) := (blk_cell BK161.out 4).trans rfl
   have hcz28_5 : _ = some (Value.int .i64 a0_5) := (blk_cell BK161.out 5).trans rfl
   have hcz28_6 : _ = some (Value.int .i64 a0_6) := (blk_cell BK161.out 6).trans rfl
   have hfz28_0 := blk_frozen BK161.out 0
   have hfz28_1 := blk_frozen BK161.out 1
   have hfz28_2 := blk_frozen BK161.out 2
   have hfz28_3 := blk_frozen BK161.out 3
   have hfz28_4 := blk_frozen BK161.out 4
   have hfz28_5 := blk_frozen BK161.out 5
   have hfz28_6 := blk_frozen BK161.out 6
   have hnb29 := NB162_163.out
   have hnc29 := NB163_162.out
   have hcz30_0 : _ = some (Value.bool a1_0) := (blk_cell BK162.out 0).trans rfl
   have hcz30_1 : _ = some (Value.int .i64 a1_1) := (blk_cell BK162.out 1).trans rfl
   have hcz30_2 : _ = some (Value.int .i64 a1_2) := (blk_cell BK162.out 2).trans rfl
   have hcz30_3 : _ = some (Value.int .i64 a1_3) := (blk_cell BK162.out 3).trans rfl
   have hfz30_0 := blk_frozen BK162.out 0
   have hfz30_1 := blk_frozen BK162.out 1
   have hfz30_2 := blk_frozen BK162.out 2
   have hfz30_3 := blk_frozen BK162.out 3
   go_wp2_with (first | ((with_reducible refine gate_callee (f := 25) rfl ?_); refine goesL_ (some 17) rfl rfl Try.func25 (by kernel_rfl) rfl #[.agg #[.int .i64 a0_0, .int .i64 a0_1, .int .i64 a0_2, .int .i64 a0_3, .int .i64 a0_4, .int .i64 a0_5, .int .i64 a0_6], .agg #[.bool a1_0, .int .i64 a1_1, .int .i64 a1_2, .int .i64 a1_3]] rfl (by (try simp only [lA, lB, lC]); first | done | rfl | (simp only [lD, lE]; rfl)) ?_; (with_reducible refine (impl_GoodHold.calls a0_0 a0_1 a0_2 a0_3 a0_4 a0_5 a0_6 a1_0 a1_1 a1_2 a1_3 false _ A9.out).mono ?_); rintro e w31 ⟨rfl, hb⟩; refine ⟨_, rfl, ?_⟩; replace BK161 := a_ (blk_below (pk BK161.out) hb); replace BK162 := a_ (blk_below (pk BK162.out) hb); replace BK163 := a_ (blk_below (pk BK163.out) hb); replace HB := a_ (below_step (by repeat (with_reducible first | exact HB.out | refine bz ?_ (by assumption) | apply bA | apply bN | apply bD)) hb); clear hb))
   go_meet
   case rel => exact ⟨_, (true), (by first | rfl | (simp; done) | (simp [*]; done)), H', ⟨by first | omega | exact Nat.le_refl _⟩, ⟨pk BK161.out⟩, ⟨pk BK162.out⟩, ⟨pk BK163.out⟩, ⟨by repeat (with_reducible first | exact HB.out | refine bz ?_ (by assumption) | apply bA | apply bN | apply bD)⟩⟩
 case rest =>
  clear HC5
  try clear c1; try clear c2; try clear p2; try clear c10; try clear c12; try clear c14; try clear c15; try clear c17; try clear c20; try clear c21; try clear c23; try clear c25; try clear c26; try clear c27; try clear c29; try clear hcz16_0; try clear hcz16_1; try clear hcz16_2; try clear hcz16_3; try clear hcz16_4; try clear hcz16_5; try clear hcz16_6; try clear hcz18_0; try clear hcz18_1; try clear hcz18_2; try clear hcz18_3; try clear hcz22_0; try clear hcz22_1; try clear hcz22_2; try clear hcz22_3; try clear hcz22_4; try clear hcz22_5; try clear hcz22_6; try clear hcz24_0; try clear hcz24_1; try clear hcz24_2; try clear hcz24_3; try clear hcz28_0; try clear hcz28_1; try clear hcz28_2; try clear hcz28_3; try clear hcz28_4; try clear hcz28_5; try clear hcz28_6; try clear hcz30_0; try clear hcz30_1; try clear hcz30_2; try clear hcz30_3; try clear hfz16_0; try clear hfz16_1; try clear hfz16_2; try clear hfz16_3; try clear hfz16_4; try clear hfz16_5; try clear hfz16_6; try clear hfz18_0; try clear hfz18_1; try clear hfz18_2; try clear hfz18_3; try clear hfz22_0; try clear hfz22_1; try clear hfz22_2; try clear hfz22_3; try clear hfz22_4; try clear hfz22_5; try clear hfz22_6; try clear hfz24_0; try clear hfz24_1; try clear hfz24_2; try clear hfz24_3; try clear hfz28_0; try clear hfz28_1; try clear hfz28_2; try clear hfz28_3; try clear hfz28_4; try clear hfz28_5; try clear hfz28_6; try clear hfz30_0; try clear hfz30_1; try clear hfz30_2; try clear hfz30_3
  obtain ⟨kq, x28_4, rfl, HA, HJ4, BK161, BK162, BK163, HB⟩ := hcut
  cases kq with
  | zero => exact absurd HA.out (by simp [impl_HoldStep.j0])
  | succ kj4 =>
   have H := HA.out
   clear HA
   simp only [impl_HoldStep.j0] at H
   by_cases c32 : x28_4 = true
   ·subst c32
    have H1 : (some (false, 0, 0, 0, false)) = some (r1, r2, r3, r4, r5) := by rw [if_pos rfl] at H; exact H
    clear H
    have H := H1
    clear H1
    simp only [Option.some.injEq, Prod.mk.injEq] at H
    obtain ⟨rfl, rfl, rfl, rfl, rfl⟩ := H
    have hnb33 := NB163_161.out
    have hnc33 := NB161_163.out
    have hnb34 := NB163_162.out
    have hnc34 := NB162_163.out
    have hcz35_0 : wc.cell? ⟨gb163, 0, none⟩ = some (.bool false) := (blk_cell BK163.out 0).trans rfl
    have hcz35_1 : wc.cell? ⟨gb163, 1, none⟩ = some (.int .i64 0) := (blk_cell BK163.out 1).trans rfl
    have hcz35_2 : wc.cell? ⟨gb163, 2, none⟩ = some (.int .i64 0) := (blk_cell BK163.out 2).trans rfl
    have hcz35_3 : wc.cell? ⟨gb163, 3, none⟩ = some (.int .i64 0) := (blk_cell BK163.out 3).trans rfl
    have hfz35_0 := blk_frozen BK163.out 0
    have hfz35_1 := blk_frozen BK163.out 1
    have hfz35_2 := blk_frozen BK163.out 2
    have hfz35_3 := blk_frozen BK163.out 3
    go_wp2
    refine bodyPost_ret (results_ct rfl _ _ gb163 27 #[.bool false, .int .i64 0, .int .i64 0, .int .i64 0] (0, 0) _ rfl (by refine pk ?_; refine blk_put (cs := #[.bool false, .int .i64 0, .int .i64 0, .int .i64 0]) ?_ 3 _ rfl; refine pk ?_; refine blk_put (cs := #[.bool false, .int .i64 0, .int .i64 0, .int .i64 0]) ?_ 2 _ rfl; refine pk ?_; refine blk_put (cs := #[.bool false, .int .i64 0, .int .i64 0, .int .i64 0]) ?_ 1 _ rfl; refine pk ?_; refine blk_put (cs := #[.bool false, .int .i64 0, .int .i64 0, .int .i64 0]) ?_ 0 _ rfl; refine pk ?_; exact BK163.out) Try.underlying27 rfl (by kernel_rfl)) rfl ?_
    exact ⟨by first | rfl | (simp [errW_none, errW_some] <;> rfl) | (simp [*, errW_none, errW_some] <;> rfl), by repeat (with_reducible first | exact HB.out | refine bz ?_ (by assumption) | apply bA | apply bN | apply bD)⟩
   ·replace c32 := Bool.eq_false_iff.mpr c32
    subst c32
    have H1 : (if a1_0 = true then (impl_HoldStep.j1 kj4 (wrap64 (a2 - a3)) (wrap64 ((wrap64 (a2 - a3)) - a1_2)) a0_0 a0_1 a0_2 a0_3 a0_4 a0_5 a0_6 a1_0 a1_1 a1_2 a1_3) else (impl_HoldStep.j1 kj4 (wrap64 (a2 - a3)) 0 a0_0 a0_1 a0_2 a0_3 a0_4 a0_5 a0_6 a1_0 a1_1 a1_2 a1_3)) = some (r1, r2, r3, r4, r5) := by rw [if_neg (show ¬ (false = true) by decide)] at H; exact H
    clear H
    have H := H1
    clear H1
    have HC36 := Aside0.mk H
    clear H
    have hnb37 := NB162_161.out
    have hnc37 := NB161_162.out
    have hnb38 := NB162_163.out
    have hnc38 := NB163_162.out
    have hcz39_0 : wc.cell? ⟨gb162, 0, none⟩ = some (.bool a1_0) := (blk_cell BK162.out 0).trans rfl
    have hcz39_1 : wc.cell? ⟨gb162, 1, none⟩ = some (.int .i64 a1_1) := (blk_cell BK162.out 1).trans rfl
    have hcz39_2 : wc.cell? ⟨gb162, 2, none⟩ = some (.int .i64 a1_2) := (blk_cell BK162.out 2).trans rfl
    have hcz39_3 : wc.cell? ⟨gb162, 3, none⟩ = some (.int .i64 a1_3) := (blk_cell BK162.out 3).trans rfl
    have hfz39_0 := blk_frozen BK162.out 0
    have hfz39_1 := blk_frozen BK162.out 1
    have hfz39_2 := blk_frozen BK162.out 2
    have hfz39_3 := blk_frozen BK162.out 3
    go_upto_if 34 with (fail)
    go_cut [11] (fun v11 wc => ∃ (kq : Nat) (x11_35 : Int), v11 = .int .i64 x11_35 ∧ Aside0 (impl_HoldStep.j1 kq (wrap64 (a2 - a3)) x11_35 a0_0 a0_1 a0_2 a0_3 a0_4 a0_5 a0_6 a1_0 a1_1 a1_2 a1_3 = some (r1, r2, r3, r4, r5)) ∧ Aside0 (kq ≤ kj4) ∧ Aside0 (wc.heap[gb161]? = some (.cells #[.int .i64 a0_0, .int .i64 a0_1, .int .i64 a0_2, .int .i64 a0_3, .int .i64 a0_4, .int .i64 a0_5, .int .i64 a0_6] 30 (0, 0))) ∧ Aside0 (wc.heap[gb162]? = some (.cells #[.bool a1_0, .int .i64 a1_1, .int .i64 a1_2, .int .i64 a1_3] 27 (0, 0))) ∧ Aside0 (wc.heap[gb163]? = some (.cells #[.bool false, .int .i64 0, .int .i64 0, .int .i64 0] 27 (0, 0))) ∧ Aside0 (Below w.heap.size w wc))
    case first =>
     have H := HC36.out
     clear HC36
     by_cases c40 : a1_0 = true
     ·subst c40
      have H1 : (impl_HoldStep.j1 kj4 (wrap64 (a2 - a3)) (wrap64 ((wrap64 (a2 - a3)) - a1_2)) a0_0 a0_1 a0_2 a0_3 a0_4 a0_5 a0_6 true a1_1 a1_2 a1_3) = some (r1, r2, r3, r4, r5) := by rw [if_pos rfl] at H; exact H
      clear H
      have H := H1
      clear H1
      have H' := Aside0.mk H
      clear H
      have hnb41 := NB162_161.out
      have hnc41 := NB161_162.out
      have hnb42 := NB162_163.out
      have hnc42 := NB163_162.out
      have hcz43_0 : wc.cell? ⟨gb162, 0, none⟩ = some (.bool true) := (blk_cell BK162.out 0).trans rfl
      have hcz43_1 : wc.cell? ⟨gb162, 1, none⟩ = some (.int .i64 a1_1) := (blk_cell BK162.out 1).trans rfl
      have hcz43_2 : wc.cell? ⟨gb162, 2, none⟩ = some (.int .i64 a1_2) := (blk_cell BK162.out 2).trans rfl
      have hcz43_3 : wc.cell? ⟨gb162, 3, none⟩ = some (.int .i64 a1_3) := (blk_cell BK162.out 3).trans rfl
      have hfz43_0 := blk_frozen BK162.out 0
      have hfz43_1 := blk_frozen BK162.out 1
      have hfz43_2 := blk_frozen BK162.out 2
      have hfz43_3 := blk_frozen BK162.out 3
      go_wp2
      go_meet
      case rel => exact ⟨_, (wrap64 ((wrap64 (a2 - a3)) - a1_2)), (by first | rfl | (simp; done) | (simp [*]; done)), H', ⟨by have := HJ4.out; first | omega | exact Nat.le_refl _⟩, ⟨pk BK161.out⟩, ⟨pk BK162.out⟩, ⟨pk BK163.out⟩, ⟨by repeat (with_reducible first | exact HB.out | refine bz ?_ (by assumption) | apply bA | apply bN | apply bD)⟩⟩
     ·replace c40 := Bool.eq_false_iff.mpr c40
      subst c40
      have H1 : (impl_HoldStep.j1 kj4 (wrap64 (a2 - a3)) 0 a0_0 a0_1 a0_2 a0_3 a0_4 a0_5 a0_6 false a1_1 a1_2 a1_3) = some (r1, r2, r3, r4, r5) := by rw [if_neg (show ¬ (false = true) by decide)] at H; exact H
      clear H
      have H := H1
      clear H1
      have H' := Aside0.mk H
      clear H
      go_wp2
      go_meet
      case rel => exact ⟨_, (0), (by first | rfl | (simp; done) | (simp [*]; done)), H', ⟨by have := HJ4.out; first | omega | exact Nat.le_refl _⟩, ⟨pk BK161.out⟩, ⟨pk BK162.out⟩, ⟨pk BK163.out⟩, ⟨by repeat (with_reducible first | exact HB.out | refine bz ?_ (by assumption) | apply bA | apply bN | apply bD)⟩⟩
    case rest =>
     clear HC36
     try clear c1; try clear c2; try clear p2; try clear c3; try clear c4; try clear p6; try clear c10; try clear c12; try clear c14; try clear c15; try clear c17; try clear c20; try clear c21; try clear c23; try clear c25; try clear c26; try clear c27; try clear c29; try clear c32; try clear c33; try clear c34; try clear c37; try clear c38; try clear c40; try clear c41; try clear c42; try clear hcz16_0; try clear hcz16_1; try clear hcz16_2; try clear hcz16_3; try clear hcz16_4; try clear hcz16_5; try clear hcz16_6; try clear hcz18_0; try clear hcz18_1; try clear hcz18_2; try clear hcz18_3; try clear hcz22_0; try clear hcz22_1; try clear hcz22_2; try clear hcz22_3; try clear hcz22_4; try clear hcz22_5; try clear hcz22_6; try clear hcz24_0; try clear hcz24_1; try clear hcz24_2; try clear hcz24_3; try clear hcz28_0; try clear hcz28_1; try clear hcz28_2; try clear hcz28_3; try clear hcz28_4; try clear hcz28_5; try clear hcz28_6; try clear hcz30_0; try clear hcz30_1; try clear hcz30_2; try clear hcz30_3; try clear hcz35_0; try clear hcz35_1; try clear hcz35_2; try clear hcz35_3; try clear hcz39_0; try clear hcz39_1; try clear hcz39_2; try clear hcz39_3; try clear hcz43_0; try clear hcz43_1; try clear hcz43_2; try clear hcz43_3; try clear hfz16_0; try clear hfz16_1; try clear hfz16_2; try clear hfz16_3; try clear hfz16_4; try clear hfz16_5; try clear hfz16_6; try clear hfz18_0; try clear hfz18_1; try clear hfz18_2; try clear hfz18_3; try clear hfz22_0; try clear hfz22_1; try clear hfz22_2; try clear hfz22_3; try clear hfz22_4; try clear hfz22_5; try clear hfz22_6; try clear hfz24_0; try clear hfz24_1; try clear hfz24_2; try clear hfz24_3; try clear hfz28_0; try clear hfz28_1; try clear hfz28_2; try clear hfz28_3; try clear hfz28_4; try clear hfz28_5; try clear hfz28_6; try clear hfz30_0; try clear hfz30_1; try clear hfz30_2; try clear hfz30_3; try clear hfz35_0; try clear hfz35_1; try clear hfz35_2; try clear hfz35_3; try clear hfz39_0; try clear hfz39_1; try clear hfz39_2; try clear hfz39_3; try clear hfz43_0; try clear hfz43_1; try clear hfz43_2; try clear hfz43_3; try clear p2
     obtain ⟨kq, x11_35, rfl, HA, HJ35, BK161, BK162, BK163, HB⟩ := hcut
     cases kq with
     | zero => exact absurd HA.out (by simp [impl_HoldStep.j1])
     | succ kj35 =>
      have H := HA.out
      clear HA
      simp only [impl_HoldStep.j1] at H
      replace H := Option.bind_eq_some_iff.mp H
      obtain ⟨t167, A440, H⟩ := H
      replace H : ((impl_down.f (wrap64 ((wrap64 ((wrap64 (a0_0 * (wrap64 (a2 - a3)))) + (wrap64 (a0_1 * t167)))) + (wrap64 (a0_2 * x11_35)))) a0_3).bind fun t168 => (if t168 > a0_4 then (if (wrap64 (a2 - a3)) > 0 then (impl_HoldStep.j2 kj35 (wrap64 (a2 - a3)) t167 t168 true a0_0 a0_1 a0_2 a0_3 a0_4 a0_5 a0_6 a1_0 a1_1 a1_2 a1_3) else (if t168 < (wrap64 (-a0_4)) then (impl_HoldStep.j2 kj35 (wrap64 (a2 - a3)) t167 t168 (decide ((wrap64 (a2 - a3)) < 0)) a0_0 a0_1 a0_2 a0_3 a0_4 a0_5 a0_6 a1_0 a1_1 a1_2 a1_3) else (impl_HoldStep.j2 kj35 (wrap64 (a2 - a3)) t167 t168 false a0_0 a0_1 a0_2 a0_3 a0_4 a0_5 a0_6 a1_0 a1_1 a1_2 a1_3))) else (if t168 < (wrap64 (-a0_4)) then (impl_HoldStep.j2 kj35 (wrap64 (a2 - a3)) t167 t168 (decide ((wrap64 (a2 - a3)) < 0)) a0_0 a0_1 a0_2 a0_3 a0_4 a0_5 a0_6 a1_0 a1_1 a1_2 a1_3) else (impl_HoldStep.j2 kj35 (wrap64 (a2 - a3)) t167 t168 false a0_0 a0_1 a0_2 a0_3 a0_4 a0_5 a0_6 a1_0 a1_1 a1_2 a1_3)))) = some (r1, r2, r3, r4, r5) := H
      have A44 := Aside0.mk A440
      clear A440
      replace H := Option.bind_eq_some_iff.mp H
      obtain ⟨t168, A450, H⟩ := H
      replace H : (if t168 > a0_4 then (if (wrap64 (a2 - a3)) > 0 then (impl_HoldStep.j2 kj35 (wrap64 (a2 - a3)) t167 t168 true a0_0 a0_1 a0_2 a0_3 a0_4 a0_5 a0_6 a1_0 a1_1 a1_2 a1_3) else (if t168 < (wrap64 (-a0_4)) then (impl_HoldStep.j2 kj35 (wrap64 (a2 - a3)) t167 t168 (decide ((wrap64 (a2 - a3)) < 0)) a0_0 a0_1 a0_2 a0_3 a0_4 a0_5 a0_6 a1_0 a1_1 a1_2 a1_3) else (impl_HoldStep.j2 kj35 (wrap64 (a2 - a3)) t167 t168 false a0_0 a0_1 a0_2 a0_3 a0_4 a0_5 a0_6 a1_0 a1_1 a1_2 a1_3))) else (if t168 < (wrap64 (-a0_4)) then (impl_HoldStep.j2 kj35 (wrap64 (a2 - a3)) t167 t168 (decide ((wrap64 (a2 - a3)) < 0)) a0_0 a0_1 a0_2 a0_3 a0_4 a0_5 a0_6 a1_0 a1_1 a1_2 a1_3) else (impl_HoldStep.j2 kj35 (wrap64 (a2 - a3)) t167 t168 false a0_0 a0_1 a0_2 a0_3 a0_4 a0_5 a0_6 a1_0 a1_1 a1_2 a1_3))) = some (r1, r2, r3, r4, r5) := H
      have A45 := Aside0.mk A450
      clear A450
      have HC46 := Aside0.mk H
      clear H
      have hnb47 := NB162_161.out
      have hnc47 := NB161_162.out
      have hnb48 := NB162_163.out
      have hnc48 := NB163_162.out
      have hcz49_0 : wc.cell? ⟨gb162, 0, none⟩ = some (.bool a1_0) := (blk_cell BK162.out 0).trans rfl
      have hcz49_1 : wc.cell? ⟨gb162, 1, none⟩ = some (.int .i64 a1_1) := (blk_cell BK162.out 1).trans rfl
      have hcz49_2 : wc.cell? ⟨gb162, 2, none⟩ = some (.int .i64 a1_2) := (blk_cell BK162.out 2).trans rfl
      have hcz49_3 : wc.cell? ⟨gb162, 3, none⟩ = some (.int .i64 a1_3) := (blk_cell BK162.out 3).trans rfl
      have hfz49_0 := blk_frozen BK162.out 0
      have hfz49_1 := blk_frozen BK162.out 1
      have hfz49_2 := blk_frozen BK162.out 2
      have hfz49_3 := blk_frozen BK162.out 3
      have hnb50 := NB161_163.out
      have hnc50 := NB163_161.out
      have hcz51_0 : wc.cell? ⟨gb161, 0, none⟩ = some (.int .i64 a0_0) := (blk_cell BK161.out 0).trans rfl
      have hcz51_1 : wc.cell? ⟨gb161, 1, none⟩ = some (.int .i64 a0_1) := (blk_cell BK161.out 1).trans rfl
      have hcz51_2 : wc.cell? ⟨gb161, 2, none⟩ = some (.int .i64 a0_2) := (blk_cell BK161.out 2).trans rfl
      have hcz51_3 : wc.cell? ⟨gb161, 3, none⟩ = some (.int .i64 a0_3) := (blk_cell BK161.out 3).trans rfl
      have hcz51_4 : wc.cell? ⟨gb161, 4, none⟩ = some (.int .i64 a0_4) := (blk_cell BK161.out 4).trans rfl
      have hcz51_5 : wc.cell? ⟨gb161, 5, none⟩ = some (.int .i64 a0_5) := (blk_cell BK161.out 5).trans rfl
      have hcz51_6 : wc.cell? ⟨gb161, 6, none⟩ = some (.int .i64 a0_6) := (blk_cell BK161.out 6).trans rfl
      have hfz51_0 := blk_frozen BK161.out 0
      have hfz51_1 := blk_frozen BK161.out 1
      have hfz51_2 := blk_frozen BK161.out 2
      have hfz51_3 := blk_frozen BK161.out 3
      have hfz51_4 := blk_frozen BK161.out 4
      have hfz51_5 := blk_frozen BK161.out 5
      have hfz51_6 := blk_frozen BK161.out 6
      go_upto_region 9 with (first | ((with_reducible refine gate_callee (f := 34) rfl ?_); refine goesL_ (some 48) rfl rfl Try.func34 (by kernel_rfl) rfl #[.int .i64 (wrap64 (a1_1 + (wrap64 (a2 - a3)))), .int .i64 (wrap64 (-a0_5)), .int .i64 a0_5] rfl (by (try simp only [lA, lB, lC]); first | done | rfl | (simp only [lD, lE]; rfl)) ?_; (with_reducible refine (impl_cut.calls (wrap64 (a1_1 + (wrap64 (a2 - a3)))) (wrap64 (-a0_5)) a0_5 t167 _ A44.out).mono ?_); rintro e w52 ⟨rfl, hb⟩; refine ⟨_, rfl, ?_⟩; replace BK161 := a_ (blk_below (pk BK161.out) hb); replace BK162 := a_ (blk_below (pk BK162.out) hb); replace BK163 := a_ (blk_below (pk BK163.out) hb); replace HB := a_ (below_step (by repeat (with_reducible first | exact HB.out | refine bz ?_ (by assumption) | apply bA | apply bN | apply bD)) hb); clear hb; have hcz53_0 : _ = some (Value.int .i64 a0_0) := (blk_cell BK161.out 0).trans rfl; have hcz53_1 : _ = some (Value.int .i64 a0_1) := (blk_cell BK161.out 1).trans rfl; have hcz53_2 : _ = some (Value.int .i64 a0_2) := (blk_cell BK161.out 2).trans rfl; have hcz53_3 : _ = some (Value.int .i64 a0_3) := (blk_cell BK161.out 3).trans rfl; have hcz53_4 : _ = some (Value.int .i64 a0_4) := (blk_cell BK161.out 4).trans rfl; have hcz53_5 : _ = some (Value.int .i64 a0_5) := (blk_cell BK161.out 5).trans rfl; have hcz53_6 : _ = some (Value.int .i64 a0_6) := (blk_cell BK161.out 6).trans rfl; have hfz53_0 := blk_frozen BK161.out 0; have hfz53_1 := blk_frozen BK161.out 1; have hfz53_2 := blk_frozen BK161.out 2; have hfz53_3 := blk_frozen BK161.out 3; have hfz53_4 := blk_frozen BK161.out 4; have hfz53_5 := blk_frozen BK161.out 5; have hfz53_6 := blk_frozen BK161.out 6) | ((with_reducible refine gate_callee (f := 35) rfl ?_); refine goesL_ (some 65) rfl rfl Try.func35 (by kernel_rfl) rfl #[.int .i64 (wrap64 ((wrap64 ((wrap64 (a0_0 * (wrap64 (a2 - a3)))) + (wrap64 (a0_1 * t167)))) + (wrap64 (a0_2 * x11_35)))), .int .i64 a0_3] rfl (by (try simp only [lA, lB, lC]); first | done | rfl | (simp only [lD, lE]; rfl)) ?_; (with_reducible refine (impl_down.calls (wrap64 ((wrap64 ((wrap64 (a0_0 * (wrap64 (a2 - a3)))) + (wrap64 (a0_1 * t167)))) + (wrap64 (a0_2 * x11_35)))) a0_3 t168 _ A45.out).mono ?_); rintro e w' ⟨rfl, ⟨nd, rfl⟩⟩; refine ⟨_, rfl, ?_⟩))
      (try simp only [Act.put, sB, sC, sD])
      go_cut [84] (fun v84 wc => ∃ (kq : Nat) (x84_45 : Bool), v84 = .bool x84_45 ∧ Aside0 (impl_HoldStep.j2 kq (wrap64 (a2 - a3)) t167 t168 x84_45 a0_0 a0_1 a0_2 a0_3 a0_4 a0_5 a0_6 a1_0 a1_1 a1_2 a1_3 = some (r1, r2, r3, r4, r5)) ∧ Aside0 (kq ≤ kj35) ∧ Aside0 (wc.heap[gb161]? = some (.cells #[.int .i64 a0_0, .int .i64 a0_1, .int .i64 a0_2, .int .i64 a0_3, .int .i64 a0_4, .int .i64 a0_5, .int .i64 a0_6] 30 (0, 0))) ∧ Aside0 (wc.heap[gb162]? = some (.cells #[.bool a1_0, .int .i64 a1_1, .int .i64 a1_2, .int .i64 a1_3] 27 (0, 0))) ∧ Aside0 (wc.heap[gb163]? = some (.cells #[.bool false, .int .i64 0, .int .i64 0, .int .i64 0] 27 (0, 0))) ∧ Aside0 (Below w.heap.size w wc))
      case first =>
       have H := HC46.out
       clear HC46
       by_cases c54 : t168 > a0_4
       ·rw [if_pos c54] at H
        have c54b0 : decide (a0_4 < t168) = true := decide_eq_true c54
        clear c54
        (first | rw [c54b0] | (simp only [i64_w, i32_w]; rw [c54b0]) | skip)
        by_cases c55 : (wrap64 (a2 - a3)) > 0
        ·rw [if_pos c55] at H
         have c55b0 : decide (0 < (wrap64 (a2 - a3))) = true := decide_eq_true c55
         clear c55
         have H' := Aside0.mk H
         clear H
         have hnb56 := NB161_162.out
         have hnc56 := NB162_161.out
         have hnb57 := NB161_163.out
         have hnc57 := NB163_161.out
         have hcz58_0 : _ = some (Value.int .i64 a0_0) := (blk_cell BK161.out 0).trans rfl
         have hcz58_1 : _ = some (Value.int .i64 a0_1) := (blk_cell BK161.out 1).trans rfl
         have hcz58_2 : _ = some (Value.int .i64 a0_2) := (blk_cell BK161.out 2).trans rfl
         have hcz58_3 : _ = some (Value.int .i64 a0_3) := (blk_cell BK161.out 3).trans rfl
         have hcz58_4 : _ = some (Value.int .i64 a0_4) := (blk_cell BK161.out 4).trans rfl
         have hcz58_5 : _ = some (Value.int .i64 a0_5) := (blk_cell BK161.out 5).trans rfl
         have hcz58_6 : _ = some (Value.int .i64 a0_6) := (blk_cell BK161.out 6).trans rfl
         have hfz58_0 := blk_frozen BK161.out 0
         have hfz58_1 := blk_frozen BK161.out 1
         have hfz58_2 := blk_frozen BK161.out 2
         have hfz58_3 := blk_frozen BK161.out 3
         have hfz58_4 := blk_frozen BK161.out 4
         have hfz58_5 := blk_frozen BK161.out 5
         have hfz58_6 := blk_frozen BK161.out 6
         go_wp2
         go_meet
         case rel => exact ⟨_, (true), (by first | rfl | (simp; done) | (simp [*]; done)), H', ⟨by have := HJ4.out; have := HJ35.out; first | omega | exact Nat.le_refl _⟩, ⟨pk BK161.out⟩, ⟨pk BK162.out⟩, ⟨pk BK163.out⟩, ⟨by repeat (with_reducible first | exact HB.out | refine bz ?_ (by assumption) | apply bA | apply bN | apply bD)⟩⟩
        ·rw [if_neg c55] at H
         have c55b0 : decide (0 < (wrap64 (a2 - a3))) = false := decide_eq_false c55
         clear c55
         by_cases c59 : t168 < (wrap64 (-a0_4))
         ·rw [if_pos c59] at H
          have c59b0 : decide (t168 < (wrap64 (-a0_4))) = true := decide_eq_true c59
          clear c59
          have H' := Aside0.mk H
          clear H
          have hnb60 := NB161_162.out
          have hnc60 := NB162_161.out
          have hnb61 := NB161_163.out
          have hnc61 := NB163_161.out
          have hcz62_0 : _ = some (Value.int .i64 a0_0) := (blk_cell BK161.out 0).trans rfl
          have hcz62_1 : _ = some (Value.int .i64 a0_1) := (blk_cell BK161.out 1).trans rfl
          have hcz62_2 : _ = some (Value.int .i64 a0_2) := (blk_cell BK161.out 2).trans rfl
          have hcz62_3 : _ = some (Value.int .i64 a0_3) := (blk_cell BK161.out 3).trans rfl
          have hcz62_4 : _ = some (Value.int .i64 a0_4) := (blk_cell BK161.out 4).trans rfl
          have hcz62_5 : _ = some (Value.int .i64 a0_5) := (blk_cell BK161.out 5).trans rfl
          have hcz62_6 : _ = some (Value.int .i64 a0_6) := (blk_cell BK161.out 6).trans rfl
          have hfz62_0 := blk_frozen BK161.out 0
          have hfz62_1 := blk_frozen BK161.out 1
          have hfz62_2 := blk_frozen BK161.out 2
          have hfz62_3 := blk_frozen BK161.out 3
          have hfz62_4 := blk_frozen BK161.out 4
          have hfz62_5 := blk_frozen BK161.out 5
          have hfz62_6 := blk_frozen BK161.out 6
          go_wp2
          go_meet
          case rel => exact ⟨_, (decide ((wrap64 (a2 - a3)) < 0)), (by first | rfl | (simp; done) | (simp [*]; done)), H', ⟨by have := HJ4.out; have := HJ35.out; first | omega | exact Nat.le_refl _⟩, ⟨pk BK161.out⟩, ⟨pk BK162.out⟩, ⟨pk BK163.out⟩, ⟨by repeat (with_reducible first | exact HB.out | refine bz ?_ (by assumption) | apply bA | apply bN | apply bD)⟩⟩
         ·rw [if_neg c59] at H
          have c59b0 : decide (t168 < (wrap64 (-a0_4))) = false := decide_eq_false c59
          clear c59
          have H' := Aside0.mk H
          clear H
          have hnb63 := NB161_162.out
          have hnc63 := NB162_161.out
          have hnb64 := NB161_163.out
          have hnc64 := NB163_161.out
          have hcz65_0 : _ = some (Value.int .i64 a0_0) := (blk_cell BK161.out 0).trans rfl
          have hcz65_1 : _ = some (Value.int .i64 a0_1) := (blk_cell BK161.out 1).trans rfl
          have hcz65_2 : _ = some (Value.int .i64 a0_2) := (blk_cell BK161.out 2).trans rfl
          have hcz65_3 : _ = some (Value.int .i64 a0_3) := (blk_cell BK161.out 3).trans rfl
          have hcz65_4 : _ = some (Value.int .i64 a0_4) := (blk_cell BK161.out 4).trans rfl
          have hcz65_5 : _ = some (Value.int .i64 a0_5) := (blk_cell BK161.out 5).trans rfl
          have hcz65_6 : _ = some (Value.int .i64 a0_6) := (blk_cell BK161.out 6).trans rfl
          have hfz65_0 := blk_frozen BK161.out 0
          have hfz65_1 := blk_frozen BK161.out 1
          have hfz65_2 := blk_frozen BK161.out 2
          have hfz65_3 := blk_frozen BK161.out 3
          have hfz65_4 := blk_frozen BK161.out 4
          have hfz65_5 := blk_frozen BK161.out 5
          have hfz65_6 := blk_frozen BK161.out 6
          go_wp2
          go_meet
          case rel => exact ⟨_, (false), (by first | rfl | (simp; done) | (simp [*]; done)), H', ⟨by have := HJ4.out; have := HJ35.out; first | omega | exact Nat.le_refl _⟩, ⟨pk BK161.out⟩, ⟨pk BK162.out⟩, ⟨pk BK163.out⟩, ⟨by repeat (with_reducible first | exact HB.out | refine bz ?_ (by assumption) | apply bA | apply bN | apply bD)⟩⟩
       ·rw [if_neg c54] at H
        have c54b0 : decide (a0_4 < t168) = false := decide_eq_false c54
        clear c54
        (first | rw [c54b0] | (simp only [i64_w, i32_w]; rw [c54b0]) | skip)
        by_cases c66 : t168 < (wrap64 (-a0_4))
        ·rw [if_pos c66] at H
         have c66b0 : decide (t168 < (wrap64 (-a0_4))) = true := decide_eq_true c66
         clear c66
         have H' := Aside0.mk H
         clear H
         have hnb67 := NB161_162.out
         have hnc67 := NB162_161.out
         have hnb68 := NB161_163.out
         have hnc68 := NB163_161.out
         have hcz69_0 : _ = some (Value.int .i64 a0_0) := (blk_cell BK161.out 0).trans rfl
         have hcz69_1 : _ = some (Value.int .i64 a0_1) := (blk_cell BK161.out 1).trans rfl
         have hcz69_2 : _ = some (Value.int .i64 a0_2) := (blk_cell BK161.out 2).trans rfl
         have hcz69_3 : _ = some (Value.int .i64 a0_3) := (blk_cell BK161.out 3).trans rfl
         have hcz69_4 : _ = some (Value.int .i64 a0_4) := (blk_cell BK161.out 4).trans rfl
         have hcz69_5 : _ = some (Value.int .i64 a0_5) := (blk_cell BK161.out 5).trans rfl
         have hcz69_6 : _ = some (Value.int .i64 a0_6) := (blk_cell BK161.out 6).trans rfl
         have hfz69_0 := blk_frozen BK161.out 0
         have hfz69_1 := blk_frozen BK161.out 1
         have hfz69_2 := blk_frozen BK161.out 2
         have hfz69_3 := blk_frozen BK161.out 3
         have hfz69_4 := blk_frozen BK161.out 4
         have hfz69_5 := blk_frozen BK161.out 5
         have hfz69_6 := blk_frozen BK161.out 6
         go_wp2
         go_meet
         case rel => exact ⟨_, (decide ((wrap64 (a2 - a3)) < 0)), (by first | rfl | (simp; done) | (simp [*]; done)), H', ⟨by have := HJ4.out; have := HJ35.out; first | omega | exact Nat.le_refl _⟩, ⟨pk BK161.out⟩, ⟨pk BK162.out⟩, ⟨pk BK163.out⟩, ⟨by repeat (with_reducible first | exact HB.out | refine bz ?_ (by assumption) | apply bA | apply bN | apply bD)⟩⟩
        ·rw [if_neg c66] at H
         have c66b0 : decide (t168 < (wrap64 (-a0_4))) = false := decide_eq_false c66
         clear c66
         have H' := Aside0.mk H
         clear H
         have hnb70 := NB161_162.out
         have hnc70 := NB162_161.out
         have hnb71 := NB161_163.out
         have hnc71 := NB163_161.out
         have hcz72_0 : _ = some (Value.int .i64 a0_0) := (blk_cell BK161.out 0).trans rfl
         have hcz72_1 : _ = some (Value.int .i64 a0_1) := (blk_cell BK161.out 1).trans rfl
         have hcz72_2 : _ = some (Value.int .i64 a0_2) := (blk_cell BK161.out 2).trans rfl
         have hcz72_3 : _ = some (Value.int .i64 a0_3) := (blk_cell BK161.out 3).trans rfl
         have hcz72_4 : _ = some (Value.int .i64 a0_4) := (blk_cell BK161.out 4).trans rfl
         have hcz72_5 : _ = some (Value.int .i64 a0_5) := (blk_cell BK161.out 5).trans rfl
         have hcz72_6 : _ = some (Value.int .i64 a0_6) := (blk_cell BK161.out 6).trans rfl
         have hfz72_0 := blk_frozen BK161.out 0
         have hfz72_1 := blk_frozen BK161.out 1
         have hfz72_2 := blk_frozen BK161.out 2
         have hfz72_3 := blk_frozen BK161.out 3
         have hfz72_4 := blk_frozen BK161.out 4
         have hfz72_5 := blk_frozen BK161.out 5
         have hfz72_6 := blk_frozen BK161.out 6
         go_wp2
         go_meet
         case rel => exact ⟨_, (false), (by first | rfl | (simp; done) | (simp [*]; done)), H', ⟨by have := HJ4.out; have := HJ35.out; first | omega | exact Nat.le_refl _⟩, ⟨pk BK161.out⟩, ⟨pk BK162.out⟩, ⟨pk BK163.out⟩, ⟨by repeat (with_reducible first | exact HB.out | refine bz ?_ (by assumption) | apply bA | apply bN | apply bD)⟩⟩
      case rest =>
       clear HC46
       try clear c1; try clear c2; try clear p2; try clear c3; try clear c4; try clear c5; try clear c6; try clear p6; try clear c7; try clear c10; try clear c12; try clear c14; try clear c15; try clear c17; try clear c20; try clear c21; try clear c23; try clear c25; try clear c26; try clear c27; try clear c29; try clear c32; try clear c33; try clear c34; try clear c35; try clear c37; try clear c38; try clear c40; try clear c41; try clear c42; try clear c47; try clear c48; try clear c50; try clear c54; try clear c54b0; try clear c55; try clear c55b0; try clear c56; try clear c57; try clear c59; try clear c59b0; try clear c60; try clear c61; try clear c63; try clear c64; try clear p64; try clear c66; try clear c66b0; try clear c67; try clear c68; try clear c70; try clear c71; try clear hcz16_0; try clear hcz16_1; try clear hcz16_2; try clear hcz16_3; try clear hcz16_4; try clear hcz16_5; try clear hcz16_6; try clear hcz18_0; try clear hcz18_1; try clear hcz18_2; try clear hcz18_3; try clear hcz22_0; try clear hcz22_1; try clear hcz22_2; try clear hcz22_3; try clear hcz22_4; try clear hcz22_5; try clear hcz22_6; try clear hcz24_0; try clear hcz24_1; try clear hcz24_2; try clear hcz24_3; try clear hcz28_0; try clear hcz28_1; try clear hcz28_2; try clear hcz28_3; try clear hcz28_4; try clear hcz28_5; try clear hcz28_6; try clear hcz30_0; try clear hcz30_1; try clear hcz30_2; try clear hcz30_3; try clear hcz35_0; try clear hcz35_1; try clear hcz35_2; try clear hcz35_3; try clear hcz39_0; try clear hcz39_1; try clear hcz39_2; try clear hcz39_3; try clear hcz43_0; try clear hcz43_1; try clear hcz43_2; try clear hcz43_3; try clear hcz49_0; try clear hcz49_1; try clear hcz49_2; try clear hcz49_3; try clear hcz51_0; try clear hcz51_1; try clear hcz51_2; try clear hcz51_3; try clear hcz51_4; try clear hcz51_5; try clear hcz51_6; try clear hcz53_0; try clear hcz53_1; try clear hcz53_2; try clear hcz53_3; try clear hcz53_4; try clear hcz53_5; try clear hcz53_6; try clear hcz58_0; try clear hcz58_1; try clear hcz58_2; try clear hcz58_3; try clear hcz58_4; try clear hcz58_5; try clear hcz58_6; try clear hcz62_0; try clear hcz62_1; try clear hcz62_2; try clear hcz62_3; try clear hcz62_4; try clear hcz62_5; try clear hcz62_6; try clear hcz65_0; try clear hcz65_1; try clear hcz65_2; try clear hcz65_3; try clear hcz65_4; try clear hcz65_5; try clear hcz65_6; try clear hcz69_0; try clear hcz69_1; try clear hcz69_2; try clear hcz69_3; try clear hcz69_4; try clear hcz69_5; try clear hcz69_6; try clear hcz72_0; try clear hcz72_1; try clear hcz72_2; try clear hcz72_3; try clear hcz72_4; try clear hcz72_5; try clear hcz72_6; try clear hfz16_0; try clear hfz16_1; try clear hfz16_2; try clear hfz16_3; try clear hfz16_4; try clear hfz16_5; try clear hfz16_6; try clear hfz18_0; try clear hfz18_1; try clear hfz18_2; try clear hfz18_3; try clear hfz22_0; try clear hfz22_1; try clear hfz22_2; try clear hfz22_3; try clear hfz22_4; try clear hfz22_5; try clear hfz22_6; try clear hfz24_0; try clear hfz24_1; try clear hfz24_2; try clear hfz24_3; try clear hfz28_0; try clear hfz28_1; try clear hfz28_2; try clear hfz28_3; try clear hfz28_4; try clear hfz28_5; try clear hfz28_6; try clear hfz30_0; try clear hfz30_1; try clear hfz30_2; try clear hfz30_3; try clear hfz35_0; try clear hfz35_1; try clear hfz35_2; try clear hfz35_3; try clear hfz39_0; try clear hfz39_1; try clear hfz39_2; try clear hfz39_3; try clear hfz43_0; try clear hfz43_1; try clear hfz43_2; try clear hfz43_3; try clear hfz49_0; try clear hfz49_1; try clear hfz49_2; try clear hfz49_3; try clear hfz51_0; try clear hfz51_1; try clear hfz51_2; try clear hfz51_3; try clear hfz51_4; try clear hfz51_5; try clear hfz51_6; try clear hfz53_0; try clear hfz53_1; try clear hfz53_2; try clear hfz53_3; try clear hfz53_4; try clear hfz53_5; try clear hfz53_6; try clear hfz58_0; try clear hfz58_1; try clear hfz58_2; try clear hfz58_3; try clear hfz58_4; try clear hfz58_5; try clear hfz58_6; try clear hfz62_0; try clear hfz62_1; try clear hfz62_2; try clear hfz62_3; try clear hfz62_4; try clear hfz62_5; try clear hfz62_6; try clear hfz65_0; try clear hfz65_1; try clear hfz65_2; try clear hfz65_3; try clear hfz65_4; try clear hfz65_5; try clear hfz65_6; try clear hfz69_0; try clear hfz69_1; try clear hfz69_2; try clear hfz69_3; try clear hfz69_4; try clear hfz69_5; try clear hfz69_6; try clear hfz72_0; try clear hfz72_1; try clear hfz72_2; try clear hfz72_3; try clear hfz72_4; try clear hfz72_5; try clear hfz72_6; try clear p2; try clear p6
       obtain ⟨kq, x84_45, rfl, HA, HJ45, BK161, BK162, BK163, HB⟩ := hcut
       cases kq with
       | zero => exact absurd HA.out (by simp [impl_HoldStep.j2])
       | succ kj45 =>
        have H := HA.out
        clear HA
        simp only [impl_HoldStep.j2] at H
        have HC73 := Aside0.mk H
        clear H
        go_upto_if 84 with (fail)
        go_cut [12] (fun v12 wc => ∃ (kq : Nat) (x12_72 : Int), v12 = .int .i64 x12_72 ∧ Aside0 (impl_HoldStep.j3 kq (wrap64 (a2 - a3)) x12_72 t168 a0_0 a0_1 a0_2 a0_3 a0_4 a0_5 a0_6 a1_0 a1_1 a1_2 a1_3 = some (r1, r2, r3, r4, r5)) ∧ Aside0 (kq ≤ kj45) ∧ Aside0 (wc.heap[gb161]? = some (.cells #[.int .i64 a0_0, .int .i64 a0_1, .int .i64 a0_2, .int .i64 a0_3, .int .i64 a0_4, .int .i64 a0_5, .int .i64 a0_6] 30 (0, 0))) ∧ Aside0 (wc.heap[gb162]? = some (.cells #[.bool a1_0, .int .i64 a1_1, .int .i64 a1_2, .int .i64 a1_3] 27 (0, 0))) ∧ Aside0 (wc.heap[gb163]? = some (.cells #[.bool false, .int .i64 0, .int .i64 0, .int .i64 0] 27 (0, 0))) ∧ Aside0 (Below w.heap.size w wc))
        case first =>
         have H := HC73.out
         clear HC73
         by_cases c74 : x84_45 = true
         ·subst c74
          have H1 : (impl_HoldStep.j3 kj45 (wrap64 (a2 - a3)) a1_1 t168 a0_0 a0_1 a0_2 a0_3 a0_4 a0_5 a0_6 a1_0 a1_1 a1_2 a1_3) = some (r1, r2, r3, r4, r5) := by rw [if_pos rfl] at H; exact H
          clear H
          have H := H1
          clear H1
          have H' := Aside0.mk H
          clear H
          have hnb75 := NB162_161.out
          have hnc75 := NB161_162.out
          have hnb76 := NB162_163.out
          have hnc76 := NB163_162.out
          have hcz77_0 : wc.cell? ⟨gb162, 0, none⟩ = some (.bool a1_0) := (blk_cell BK162.out 0).trans rfl
          have hcz77_1 : wc.cell? ⟨gb162, 1, none⟩ = some (.int .i64 a1_1) := (blk_cell BK162.out 1).trans rfl
          have hcz77_2 : wc.cell? ⟨gb162, 2, none⟩ = some (.int .i64 a1_2) := (blk_cell BK162.out 2).trans rfl
          have hcz77_3 : wc.cell? ⟨gb162, 3, none⟩ = some (.int .i64 a1_3) := (blk_cell BK162.out 3).trans rfl
          have hfz77_0 := blk_frozen BK162.out 0
          have hfz77_1 := blk_frozen BK162.out 1
          have hfz77_2 := blk_frozen BK162.out 2
          have hfz77_3 := blk_frozen BK162.out 3
          go_wp2
          go_meet
          case rel => exact ⟨_, (a1_1), (by first | rfl | (simp; done) | (simp [*]; done)), H', ⟨by have := HJ4.out; have := HJ35.out; have := HJ45.out; first | omega | exact Nat.le_refl _⟩, ⟨pk BK161.out⟩, ⟨pk BK162.out⟩, ⟨pk BK163.out⟩, ⟨by repeat (with_reducible first | exact HB.out | refine bz ?_ (by assumption) | apply bA | apply bN | apply bD)⟩⟩
         ·replace c74 := Bool.eq_false_iff.mpr c74
          subst c74
          have H1 : (impl_HoldStep.j3 kj45 (wrap64 (a2 - a3)) t167 t168 a0_0 a0_1 a0_2 a0_3 a0_4 a0_5 a0_6 a1_0 a1_1 a1_2 a1_3) = some (r1, r2, r3, r4, r5) := by rw [if_neg (show ¬ (false = true) by decide)] at H; exact H
          clear H
          have H := H1
          clear H1
          have H' := Aside0.mk H
          clear H
          go_wp2
          go_meet
          case rel => exact ⟨_, (t167), (by first | rfl | (simp; done) | (simp [*]; done)), H', ⟨by have := HJ4.out; have := HJ35.out; have := HJ45.out; first | omega | exact Nat.le_refl _⟩, ⟨pk BK161.out⟩, ⟨pk BK162.out⟩, ⟨pk BK163.out⟩, ⟨by repeat (with_reducible first | exact HB.out | refine bz ?_ (by assumption) | apply bA | apply bN | apply bD)⟩⟩
        case rest =>
         clear HC73
         try clear c1; try clear c2; try clear p2; try clear c3; try clear c4; try clear c5; try clear c6; try clear p6; try clear c7; try clear c10; try clear c12; try clear c14; try clear c15; try clear c17; try clear c20; try clear c21; try clear c23; try clear c25; try clear c26; try clear c27; try clear c29; try clear c32; try clear c33; try clear c34; try clear c35; try clear c37; try clear c38; try clear c40; try clear c41; try clear c42; try clear c47; try clear c48; try clear c50; try clear c54; try clear c54b0; try clear c55; try clear c55b0; try clear c56; try clear c57; try clear c59; try clear c59b0; try clear c60; try clear c61; try clear c63; try clear c64; try clear p64; try clear c66; try clear c66b0; try clear c67; try clear c68; try clear c70; try clear c71; try clear c74; try clear c75; try clear c76; try clear hcz16_0; try clear hcz16_1; try clear hcz16_2; try clear hcz16_3; try clear hcz16_4; try clear hcz16_5; try clear hcz16_6; try clear hcz18_0; try clear hcz18_1; try clear hcz18_2; try clear hcz18_3; try clear hcz22_0; try clear hcz22_1; try clear hcz22_2; try clear hcz22_3; try clear hcz22_4; try clear hcz22_5; try clear hcz22_6; try clear hcz24_0; try clear hcz24_1; try clear hcz24_2; try clear hcz24_3; try clear hcz28_0; try clear hcz28_1; try clear hcz28_2; try clear hcz28_3; try clear hcz28_4; try clear hcz28_5; try clear hcz28_6; try clear hcz30_0; try clear hcz30_1; try clear hcz30_2; try clear hcz30_3; try clear hcz35_0; try clear hcz35_1; try clear hcz35_2; try clear hcz35_3; try clear hcz39_0; try clear hcz39_1; try clear hcz39_2; try clear hcz39_3; try clear hcz43_0; try clear hcz43_1; try clear hcz43_2; try clear hcz43_3; try clear hcz49_0; try clear hcz49_1; try clear hcz49_2; try clear hcz49_3; try clear hcz51_0; try clear hcz51_1; try clear hcz51_2; try clear hcz51_3; try clear hcz51_4; try clear hcz51_5; try clear hcz51_6; try clear hcz53_0; try clear hcz53_1; try clear hcz53_2; try clear hcz53_3; try clear hcz53_4; try clear hcz53_5; try clear hcz53_6; try clear hcz58_0; try clear hcz58_1; try clear hcz58_2; try clear hcz58_3; try clear hcz58_4; try clear hcz58_5; try clear hcz58_6; try clear hcz62_0; try clear hcz62_1; try clear hcz62_2; try clear hcz62_3; try clear hcz62_4; try clear hcz62_5; try clear hcz62_6; try clear hcz65_0; try clear hcz65_1; try clear hcz65_2; try clear hcz65_3; try clear hcz65_4; try clear hcz65_5; try clear hcz65_6; try clear hcz69_0; try clear hcz69_1; try clear hcz69_2; try clear hcz69_3; try clear hcz69_4; try clear hcz69_5; try clear hcz69_6; try clear hcz72_0; try clear hcz72_1; try clear hcz72_2; try clear hcz72_3; try clear hcz72_4; try clear hcz72_5; try clear hcz72_6; try clear hcz77_0; try clear hcz77_1; try clear hcz77_2; try clear hcz77_3; try clear hfz16_0; try clear hfz16_1; try clear hfz16_2; try clear hfz16_3; try clear hfz16_4; try clear hfz16_5; try clear hfz16_6; try clear hfz18_0; try clear hfz18_1; try clear hfz18_2; try clear hfz18_3; try clear hfz22_0; try clear hfz22_1; try clear hfz22_2; try clear hfz22_3; try clear hfz22_4; try clear hfz22_5; try clear hfz22_6; try clear hfz24_0; try clear hfz24_1; try clear hfz24_2; try clear hfz24_3; try clear hfz28_0; try clear hfz28_1; try clear hfz28_2; try clear hfz28_3; try clear hfz28_4; try clear hfz28_5; try clear hfz28_6; try clear hfz30_0; try clear hfz30_1; try clear hfz30_2; try clear hfz30_3; try clear hfz35_0; try clear hfz35_1; try clear hfz35_2; try clear hfz35_3; try clear hfz39_0; try clear hfz39_1; try clear hfz39_2; try clear hfz39_3; try clear hfz43_0; try clear hfz43_1; try clear hfz43_2; try clear hfz43_3; try clear hfz49_0; try clear hfz49_1; try clear hfz49_2; try clear hfz49_3; try clear hfz51_0; try clear hfz51_1; try clear hfz51_2; try clear hfz51_3; try clear hfz51_4; try clear hfz51_5; try clear hfz51_6; try clear hfz53_0; try clear hfz53_1; try clear hfz53_2; try clear hfz53_3; try clear hfz53_4; try clear hfz53_5; try clear hfz53_6; try clear hfz58_0; try clear hfz58_1; try clear hfz58_2; try clear hfz58_3; try clear hfz58_4; try clear hfz58_5; try clear hfz58_6; try clear hfz62_0; try clear hfz62_1; try clear hfz62_2; try clear hfz62_3; try clear hfz62_4; try clear hfz62_5; try clear hfz62_6; try clear hfz65_0; try clear hfz65_1; try clear hfz65_2; try clear hfz65_3; try clear hfz65_4; try clear hfz65_5; try clear hfz65_6; try clear hfz69_0; try clear hfz69_1; try clear hfz69_2; try clear hfz69_3; try clear hfz69_4; try clear hfz69_5; try clear hfz69_6; try clear hfz72_0; try clear hfz72_1; try clear hfz72_2; try clear hfz72_3; try clear hfz72_4; try clear hfz72_5; try clear hfz72_6; try clear hfz77_0; try clear hfz77_1; try clear hfz77_2; try clear hfz77_3; try clear p2; try clear p6; try clear p64
         obtain ⟨kq, x12_72, rfl, HA, HJ72, BK161, BK162, BK163, HB⟩ := hcut
         cases kq with
         | zero => exact absurd HA.out (by simp [impl_HoldStep.j3])
         | succ kj72 =>
          have H := HA.out
          clear HA
          simp only [impl_HoldStep.j3] at H
          replace H := Option.bind_eq_some_iff.mp H
          obtain ⟨t169, A780, H⟩ := H
          replace H : (if a1_0 = true then (if a0_6 > 0 then ((impl_cut.f t169 (wrap64 (a1_3 - a0_6)) (wrap64 (a1_3 + a0_6))).bind fun t170 => (some (true, x12_72, (wrap64 (a2 - a3)), t170, true))) else (some (true, x12_72, (wrap64 (a2 - a3)), t169, true))) else (some (true, x12_72, (wrap64 (a2 - a3)), t169, true))) = some (r1, r2, r3, r4, r5) := H
          have A78 := Aside0.mk A780
          clear A780
          by_cases c79 : a1_0 = true
          ·subst c79
           have H1 : (if a0_6 > 0 then ((impl_cut.f t169 (wrap64 (a1_3 - a0_6)) (wrap64 (a1_3 + a0_6))).bind fun t170 => (some (true, x12_72, (wrap64 (a2 - a3)), t170, true))) else (some (true, x12_72, (wrap64 (a2 - a3)), t169, true))) = some (r1, r2, r3, r4, r5) := by rw [if_pos rfl] at H; exact H
           clear H
           have H := H1
           clear H1
           by_cases c80 : a0_6 > 0
           ·rw [if_pos c80] at H
            have c80b0 : decide (0 < a0_6) = true := decide_eq_true c80
            clear c80
            replace H := Option.bind_eq_some_iff.mp H
            obtain ⟨t170, A810, H⟩ := H
            replace H : (some (true, x12_72, (wrap64 (a2 - a3)), t170, true)) = some (r1, r2, r3, r4, r5) := H
            have A81 := Aside0.mk A810
            clear A810
            simp only [Option.some.injEq, Prod.mk.injEq] at H
            obtain ⟨rfl, rfl, rfl, rfl, rfl⟩ := H
            have hnb82 := NB161_162.out
            have hnc82 := NB162_161.out
            have hnb83 := NB161_163.out
            have hnc83 := NB163_161.out
            have hcz84_0 : wc.cell? ⟨gb161, 0, none⟩ = some (.int .i64 a0_0) := (blk_cell BK161.out 0).trans rfl
            have hcz84_1 : wc.cell? ⟨gb161, 1, none⟩ = some (.int .i64 a0_1) := (blk_cell BK161.out 1).trans rfl
            have hcz84_2 : wc.cell? ⟨gb161, 2, none⟩ = some (.int .i64 a0_2) := (blk_cell BK161.out 2).trans rfl
            have hcz84_3 : wc.cell? ⟨gb161, 3, none⟩ = some (.int .i64 a0_3) := (blk_cell BK161.out 3).trans rfl
            have hcz84_4 : wc.cell? ⟨gb161, 4, none⟩ = some (.int .i64 a0_4) := (blk_cell BK161.out 4).trans rfl
            have hcz84_5 : wc.cell? ⟨gb161, 5, none⟩ = some (.int .i64 a0_5) := (blk_cell BK161.out 5).trans rfl
            have hcz84_6 : wc.cell? ⟨gb161, 6, none⟩ = some (.int .i64 a0_6) := (blk_cell BK161.out 6).trans rfl
            have hfz84_0 := blk_frozen BK161.out 0
            have hfz84_1 := blk_frozen BK161.out 1
            have hfz84_2 := blk_frozen BK161.out 2
            have hfz84_3 := blk_frozen BK161.out 3
            have hfz84_4 := blk_frozen BK161.out 4
            have hfz84_5 := blk_frozen BK161.out 5
            have hfz84_6 := blk_frozen BK161.out 6
            go_wp2_with (first | ((with_reducible refine gate_callee (f := 34) rfl ?_); refine goesL_ (some 93) rfl rfl Try.func34 (by kernel_rfl) rfl #[.int .i64 t168, .int .i64 (wrap64 (-a0_4)), .int .i64 a0_4] rfl (by (try simp only [lA, lB, lC]); first | done | rfl | (simp only [lD, lE]; rfl)) ?_; (with_reducible refine (impl_cut.calls t168 (wrap64 (-a0_4)) a0_4 t169 _ A78.out).mono ?_); rintro e w85 ⟨rfl, hb⟩; refine ⟨_, rfl, ?_⟩; replace BK161 := a_ (blk_below (pk BK161.out) hb); replace BK162 := a_ (blk_below (pk BK162.out) hb); replace BK163 := a_ (blk_below (pk BK163.out) hb); replace HB := a_ (below_step (by repeat (with_reducible first | exact HB.out | refine bz ?_ (by assumption) | apply bA | apply bN | apply bD)) hb); clear hb; have hnb86 := NB162_163.out; have hnc86 := NB163_162.out; have hcz87_0 : _ = some (Value.bool true) := (blk_cell BK162.out 0).trans rfl; have hcz87_1 : _ = some (Value.int .i64 a1_1) := (blk_cell BK162.out 1).trans rfl; have hcz87_2 : _ = some (Value.int .i64 a1_2) := (blk_cell BK162.out 2).trans rfl; have hcz87_3 : _ = some (Value.int .i64 a1_3) := (blk_cell BK162.out 3).trans rfl; have hfz87_0 := blk_frozen BK162.out 0; have hfz87_1 := blk_frozen BK162.out 1; have hfz87_2 := blk_frozen BK162.out 2; have hfz87_3 := blk_frozen BK162.out 3; have hcz88_0 : _ = some (Value.int .i64 a0_0) := (blk_cell BK161.out 0).trans rfl; have hcz88_1 : _ = some (Value.int .i64 a0_1) := (blk_cell BK161.out 1).trans rfl; have hcz88_2 : _ = some (Value.int .i64 a0_2) := (blk_cell BK161.out 2).trans rfl; have hcz88_3 : _ = some (Value.int .i64 a0_3) := (blk_cell BK161.out 3).trans rfl; have hcz88_4 : _ = some (Value.int .i64 a0_4) := (blk_cell BK161.out 4).trans rfl; have hcz88_5 : _ = some (Value.int .i64 a0_5) := (blk_cell BK161.out 5).trans rfl; have hcz88_6 : _ = some (Value.int .i64 a0_6) := (blk_cell BK161.out 6).trans rfl; have hfz88_0 := blk_frozen BK161.out 0; have hfz88_1 := blk_frozen BK161.out 1; have hfz88_2 := blk_frozen BK161.out 2; have hfz88_3 := blk_frozen BK161.out 3; have hfz88_4 := blk_frozen BK161.out 4; have hfz88_5 := blk_frozen BK161.out 5; have hfz88_6 := blk_frozen BK161.out 6) | ((with_reducible refine gate_callee (f := 34) rfl ?_); refine goesL_ (some 112) rfl rfl Try.func34 (by kernel_rfl) rfl #[.int .i64 t169, .int .i64 (wrap64 (a1_3 - a0_6)), .int .i64 (wrap64 (a1_3 + a0_6))] rfl (by (try simp only [lA, lB, lC]); first | done | rfl | (simp only [lD, lE]; rfl)) ?_; (with_reducible refine (impl_cut.calls t169 (wrap64 (a1_3 - a0_6)) (wrap64 (a1_3 + a0_6)) t170 _ A81.out).mono ?_); rintro e w89 ⟨rfl, hb⟩; refine ⟨_, rfl, ?_⟩; replace BK161 := a_ (blk_below (pk BK161.out) hb); replace BK162 := a_ (blk_below (pk BK162.out) hb); replace BK163 := a_ (blk_below (pk BK163.out) hb); replace HB := a_ (below_step (by repeat (with_reducible first | exact HB.out | refine bz ?_ (by assumption) | apply bA | apply bN | apply bD)) hb); clear hb; have hcz90_0 : _ = some (Value.bool false) := (blk_cell BK163.out 0).trans rfl; have hcz90_1 : _ = some (Value.int .i64 0) := (blk_cell BK163.out 1).trans rfl; have hcz90_2 : _ = some (Value.int .i64 0) := (blk_cell BK163.out 2).trans rfl; have hcz90_3 : _ = some (Value.int .i64 0) := (blk_cell BK163.out 3).trans rfl; have hfz90_0 := blk_frozen BK163.out 0; have hfz90_1 := blk_frozen BK163.out 1; have hfz90_2 := blk_frozen BK163.out 2; have hfz90_3 := blk_frozen BK163.out 3))
            refine bodyPost_ret (results_ct rfl _ _ gb163 27 #[.bool true, .int .i64 x12_72, .int .i64 (wrap64 (a2 - a3)), .int .i64 t170] (0, 0) _ rfl (by refine pk ?_; refine blk_put (cs := #[.bool true, .int .i64 x12_72, .int .i64 (wrap64 (a2 - a3)), .int .i64 0]) ?_ 3 _ rfl; refine pk ?_; refine blk_put (cs := #[.bool true, .int .i64 x12_72, .int .i64 0, .int .i64 0]) ?_ 2 _ rfl; refine pk ?_; refine blk_put (cs := #[.bool true, .int .i64 0, .int .i64 0, .int .i64 0]) ?_ 1 _ rfl; refine pk ?_; refine blk_put (cs := #[.bool false, .int .i64 0, .int .i64 0, .int .i64 0]) ?_ 0 _ rfl; refine pk ?_; exact BK163.out) Try.underlying27 rfl (by kernel_rfl)) rfl ?_
            exact ⟨by first | rfl | (simp [errW_none, errW_some] <;> rfl) | (simp [*, errW_none, errW_some] <;> rfl), by repeat (with_reducible first | exact HB.out | refine bz ?_ (by assumption) | apply bA | apply bN | apply bD)⟩
           ·rw [if_neg c80] at H
            have c80b0 : decide (0 < a0_6) = false := decide_eq_false c80
            clear c80
            simp only [Option.some.injEq, Prod.mk.injEq] at H
            obtain ⟨rfl, rfl, rfl, rfl, rfl⟩ := H
            have hnb91 := NB161_162.out
            have hnc91 := NB162_161.out
            have hnb92 := NB161_163.out
            have hnc92 := NB163_161.out
            have hcz93_0 : wc.cell? ⟨gb161, 0, none⟩ = some (.int .i64 a0_0) := (blk_cell BK161.out 0).trans rfl
            have hcz93_1 : wc.cell? ⟨gb161, 1, none⟩ = some (.int .i64 a0_1) := (blk_cell BK161.out 1).trans rfl
            have hcz93_2 : wc.cell? ⟨gb161, 2, none⟩ = some (.int .i64 a0_2) := (blk_cell BK161.out 2).trans rfl
            have hcz93_3 : wc.cell? ⟨gb161, 3, none⟩ = some (.int .i64 a0_3) := (blk_cell BK161.out 3).trans rfl
            have hcz93_4 : wc.cell? ⟨gb161, 4, none⟩ = some (.int .i64 a0_4) := (blk_cell BK161.out 4).trans rfl
            have hcz93_5 : wc.cell? ⟨gb161, 5, none⟩ = some (.int .i64 a0_5) := (blk_cell BK161.out 5).trans rfl
            have hcz93_6 : wc.cell? ⟨gb161, 6, none⟩ = some (.int .i64 a0_6) := (blk_cell BK161.out 6).trans rfl
            have hfz93_0 := blk_frozen BK161.out 0
            have hfz93_1 := blk_frozen BK161.out 1
            have hfz93_2 := blk_frozen BK161.out 2
            have hfz93_3 := blk_frozen BK161.out 3
            have hfz93_4 := blk_frozen BK161.out 4
            have hfz93_5 := blk_frozen BK161.out 5
            have hfz93_6 := blk_frozen BK161.out 6
            go_wp2_with (first | ((with_reducible refine gate_callee (f := 34) rfl ?_); refine goesL_ (some 93) rfl rfl Try.func34 (by kernel_rfl) rfl #[.int .i64 t168, .int .i64 (wrap64 (-a0_4)), .int .i64 a0_4] rfl (by (try simp only [lA, lB, lC]); first | done | rfl | (simp only [lD, lE]; rfl)) ?_; (with_reducible refine (impl_cut.calls t168 (wrap64 (-a0_4)) a0_4 t169 _ A78.out).mono ?_); rintro e w94 ⟨rfl, hb⟩; refine ⟨_, rfl, ?_⟩; replace BK161 := a_ (blk_below (pk BK161.out) hb); replace BK162 := a_ (blk_below (pk BK162.out) hb); replace BK163 := a_ (blk_below (pk BK163.out) hb); replace HB := a_ (below_step (by repeat (with_reducible first | exact HB.out | refine bz ?_ (by assumption) | apply bA | apply bN | apply bD)) hb); clear hb; have hnb95 := NB162_163.out; have hnc95 := NB163_162.out; have hcz96_0 : _ = some (Value.bool true) := (blk_cell BK162.out 0).trans rfl; have hcz96_1 : _ = some (Value.int .i64 a1_1) := (blk_cell BK162.out 1).trans rfl; have hcz96_2 : _ = some (Value.int .i64 a1_2) := (blk_cell BK162.out 2).trans rfl; have hcz96_3 : _ = some (Value.int .i64 a1_3) := (blk_cell BK162.out 3).trans rfl; have hfz96_0 := blk_frozen BK162.out 0; have hfz96_1 := blk_frozen BK162.out 1; have hfz96_2 := blk_frozen BK162.out 2; have hfz96_3 := blk_frozen BK162.out 3; have hcz97_0 : _ = some (Value.int .i64 a0_0) := (blk_cell BK161.out 0).trans rfl; have hcz97_1 : _ = some (Value.int .i64 a0_1) := (blk_cell BK161.out 1).trans rfl; have hcz97_2 : _ = some (Value.int .i64 a0_2) := (blk_cell BK161.out 2).trans rfl; have hcz97_3 : _ = some (Value.int .i64 a0_3) := (blk_cell BK161.out 3).trans rfl; have hcz97_4 : _ = some (Value.int .i64 a0_4) := (blk_cell BK161.out 4).trans rfl; have hcz97_5 : _ = some (Value.int .i64 a0_5) := (blk_cell BK161.out 5).trans rfl; have hcz97_6 : _ = some (Value.int .i64 a0_6) := (blk_cell BK161.out 6).trans rfl; have hfz97_0 := blk_frozen BK161.out 0; have hfz97_1 := blk_frozen BK161.out 1; have hfz97_2 := blk_frozen BK161.out 2; have hfz97_3 := blk_frozen BK161.out 3; have hfz97_4 := blk_frozen BK161.out 4; have hfz97_5 := blk_frozen BK161.out 5; have hfz97_6 := blk_frozen BK161.out 6; have hcz98_0 : _ = some (Value.bool false) := (blk_cell BK163.out 0).trans rfl; have hcz98_1 : _ = some (Value.int .i64 0) := (blk_cell BK163.out 1).trans rfl; have hcz98_2 : _ = some (Value.int .i64 0) := (blk_cell BK163.out 2).trans rfl; have hcz98_3 : _ = some (Value.int .i64 0) := (blk_cell BK163.out 3).trans rfl; have hfz98_0 := blk_frozen BK163.out 0; have hfz98_1 := blk_frozen BK163.out 1; have hfz98_2 := blk_frozen BK163.out 2; have hfz98_3 := blk_frozen BK163.out 3))
            refine bodyPost_ret (results_ct rfl _ _ gb163 27 #[.bool true, .int .i64 x12_72, .int .i64 (wrap64 (a2 - a3)), .int .i64 t169] (0, 0) _ rfl (by refine pk ?_; refine blk_put (cs := #[.bool true, .int .i64 x12_72, .int .i64 (wrap64 (a2 - a3)), .int .i64 0]) ?_ 3 _ rfl; refine pk ?_; refine blk_put (cs := #[.bool true, .int .i64 x12_72, .int .i64 0, .int .i64 0]) ?_ 2 _ rfl; refine pk ?_; refine blk_put (cs := #[.bool true, .int .i64 0, .int .i64 0, .int .i64 0]) ?_ 1 _ rfl; refine pk ?_; refine blk_put (cs := #[.bool false, .int .i64 0, .int .i64 0, .int .i64 0]) ?_ 0 _ rfl; refine pk ?_; exact BK163.out) Try.underlying27 rfl (by kernel_rfl)) rfl ?_
            exact ⟨by first | rfl | (simp [errW_none, errW_some] <;> rfl) | (simp [*, errW_none, errW_some] <;> rfl), by repeat (with_reducible first | exact HB.out | refine bz ?_ (by assumption) | apply bA | apply bN | apply bD)⟩
          ·replace c79 := Bool.eq_false_iff.mpr c79
           subst c79
           have H1 : (some (true, x12_72, (wrap64 (a2 - a3)), t169, true)) = some (r1, r2, r3, r4, r5) := by rw [if_neg (show ¬ (false = true) by decide)] at H; exact H
           clear H
           have H := H1
           clear H1
           simp only [Option.some.injEq, Prod.mk.injEq] at H
           obtain ⟨rfl, rfl, rfl, rfl, rfl⟩ := H
           have hnb99 := NB161_162.out
           have hnc99 := NB162_161.out
           have hnb100 := NB161_163.out
           have hnc100 := NB163_161.out
           have hcz101_0 : wc.cell? ⟨gb161, 0, none⟩ = some (.int .i64 a0_0) := (blk_cell BK161.out 0).trans rfl
           have hcz101_1 : wc.cell? ⟨gb161, 1, none⟩ = some (.int .i64 a0_1) := (blk_cell BK161.out 1).trans rfl
           have hcz101_2 : wc.cell? ⟨gb161, 2, none⟩ = some (.int .i64 a0_2) := (blk_cell BK161.out 2).trans rfl
           have hcz101_3 : wc.cell? ⟨gb161, 3, none⟩ = some (.int .i64 a0_3) := (blk_cell BK161.out 3).trans rfl
           have hcz101_4 : wc.cell? ⟨gb161, 4, none⟩ = some (.int .i64 a0_4) := (blk_cell BK161.out 4).trans rfl
           have hcz101_5 : wc.cell? ⟨gb161, 5, none⟩ = some (.int .i64 a0_5) := (blk_cell BK161.out 5).trans rfl
           have hcz101_6 : wc.cell? ⟨gb161, 6, none⟩ = some (.int .i64 a0_6) := (blk_cell BK161.out 6).trans rfl
           have hfz101_0 := blk_frozen BK161.out 0
           have hfz101_1 := blk_frozen BK161.out 1
           have hfz101_2 := blk_frozen BK161.out 2
           have hfz101_3 := blk_frozen BK161.out 3
           have hfz101_4 := blk_frozen BK161.out 4
           have hfz101_5 := blk_frozen BK161.out 5
           have hfz101_6 := blk_frozen BK161.out 6
           go_wp2_with (first | ((with_reducible refine gate_callee (f := 34) rfl ?_); refine goesL_ (some 93) rfl rfl Try.func34 (by kernel_rfl) rfl #[.int .i64 t168, .int .i64 (wrap64 (-a0_4)), .int .i64 a0_4] rfl (by (try simp only [lA, lB, lC]); first | done | rfl | (simp only [lD, lE]; rfl)) ?_; (with_reducible refine (impl_cut.calls t168 (wrap64 (-a0_4)) a0_4 t169 _ A78.out).mono ?_); rintro e w102 ⟨rfl, hb⟩; refine ⟨_, rfl, ?_⟩; replace BK161 := a_ (blk_below (pk BK161.out) hb); replace BK162 := a_ (blk_below (pk BK162.out) hb); replace BK163 := a_ (blk_below (pk BK163.out) hb); replace HB := a_ (below_step (by repeat (with_reducible first | exact HB.out | refine bz ?_ (by assumption) | apply bA | apply bN | apply bD)) hb); clear hb; have hnb103 := NB162_163.out; have hnc103 := NB163_162.out; have hcz104_0 : _ = some (Value.bool false) := (blk_cell BK162.out 0).trans rfl; have hcz104_1 : _ = some (Value.int .i64 a1_1) := (blk_cell BK162.out 1).trans rfl; have hcz104_2 : _ = some (Value.int .i64 a1_2) := (blk_cell BK162.out 2).trans rfl; have hcz104_3 : _ = some (Value.int .i64 a1_3) := (blk_cell BK162.out 3).trans rfl; have hfz104_0 := blk_frozen BK162.out 0; have hfz104_1 := blk_frozen BK162.out 1; have hfz104_2 := blk_frozen BK162.out 2; have hfz104_3 := blk_frozen BK162.out 3; have hcz105_0 : _ = some (Value.bool false) := (blk_cell BK163.out 0).trans rfl; have hcz105_1 : _ = some (Value.int .i64 0) := (blk_cell BK163.out 1).trans rfl; have hcz105_2 : _ = some (Value.int .i64 0) := (blk_cell BK163.out 2).trans rfl; have hcz105_3 : _ = some (Value.int .i64 0) := (blk_cell BK163.out 3).trans rfl; have hfz105_0 := blk_frozen BK163.out 0; have hfz105_1 := blk_frozen BK163.out 1; have hfz105_2 := blk_frozen BK163.out 2; have hfz105_3 := blk_frozen BK163.out 3))
           refine bodyPost_ret (results_ct rfl _ _ gb163 27 #[.bool true, .int .i64 x12_72, .int .i64 (wrap64 (a2 - a3)), .int .i64 t169] (0, 0) _ rfl (by refine pk ?_; refine blk_put (cs := #[.bool true, .int .i64 x12_72, .int .i64 (wrap64 (a2 - a3)), .int .i64 0]) ?_ 3 _ rfl; refine pk ?_; refine blk_put (cs := #[.bool true, .int .i64 x12_72, .int .i64 0, .int .i64 0]) ?_ 2 _ rfl; refine pk ?_; refine blk_put (cs := #[.bool true, .int .i64 0, .int .i64 0, .int .i64 0]) ?_ 1 _ rfl; refine pk ?_; refine blk_put (cs := #[.bool false, .int .i64 0, .int .i64 0, .int .i64 0]) ?_ 0 _ rfl; refine pk ?_; exact BK163.out) Try.underlying27 rfl (by kernel_rfl)) rfl ?_
           exact ⟨by first | rfl | (simp [errW_none, errW_some] <;> rfl) | (simp [*, errW_none, errW_some] <;> rfl), by repeat (with_reducible first | exact HB.out | refine bz ?_ (by assumption) | apply bA | apply bN | apply bD)⟩

end Go.Proofs.Ytineniimpdjpnaa.PFnExactRunHold
