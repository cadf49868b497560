-- Written by a program of this session out of the loaded functions' print; helper lemmas as print.sh lays them.
import Derived.Test.YtineniimpdjpnaaUp
import Derived.Test.YtineniimpdjpnaaRFnHoldx0
import Derived.Test.YtineniimpdjpnaaRFnHoldx2
import Derived.Test.YtineniimpdjpnaaRFnHoldx10
namespace Go.Proofs.Ytineniimpdjpnaa.PFnHold
open Go.RowKit Go.Proofs.YtineniimpdjpnaaW.PrintWords Go.Proofs.YtineniimpdjpnaaW.PrintLast Go.Proofs.YtineniimpdjpnaaW.PrintMore
attribute [local go_sem] max2_int min2_int max_two min_two max_three min_three max_four min_four  -- for this text's walks alone
set_option linter.unusedVariables false
set_option linter.unusedSimpArgs false

/-! ### spec_HoldFine: function 23 -/
mutual
def spec_HoldFine.j0 : Nat → Int → Bool → Int → Int → Int → Int → Int → Int → Int → Bool → Int → Int → Int → Bool → Int → Int → Int → Option (Bool)
 | 0, _, _, _, _, _, _, _, _, _, _, _, _, _, _, _, _, _ => none
 | k + 1, x3, x39, x342000, x342001, x342002, x342003, x342004, x342005, x342006, x343000, x343001, x343002, x343003, x344000, x344001, x344002, x344003 => if x39 = true then (some false) else (if x343000 = true then (spec_HoldFine.j1 k x3 (wrap64 (x3 - x343002)) x342000 x342001 x342002 x342003 x342004 x342005 x342006 x343000 x343001 x343002 x343003 x344000 x344001 x344002 x344003) else (spec_HoldFine.j1 k x3 0 x342000 x342001 x342002 x342003 x342004 x342005 x342006 x343000 x343001 x343002 x343003 x344000 x344001 x344002 x344003))
def spec_HoldFine.j1 : Nat → Int → Int → Int → Int → Int → Int → Int → Int → Int → Bool → Int → Int → Int → Bool → Int → Int → Int → Option (Bool)
 | 0, _, _, _, _, _, _, _, _, _, _, _, _, _, _, _, _, _ => none
 | k + 1, x3, x9, x342000, x342001, x342002, x342003, x342004, x342005, x342006, x343000, x343001, x343002, x343003, x344000, x344001, x344002, x344003 => (spec_l13Cut.f (wrap64 (x343001 + x3)) (wrap64 (-x342005)) x342005).bind fun t345 => ((spec_l13Down.f (wrap64 ((wrap64 ((wrap64 (x342000 * x3)) + (wrap64 (x342001 * t345)))) + (wrap64 (x342002 * x9)))) x342003).bind fun t346 => (if t346 > x342004 then (if x3 > 0 then (some (x344001 == x343001)) else (if t346 < (wrap64 (-x342004)) then (if x3 < 0 then (some (x344001 == x343001)) else (some true)) else (some true))) else (if t346 < (wrap64 (-x342004)) then (if x3 < 0 then (some (x344001 == x343001)) else (some true)) else (some true))))
end
def spec_HoldFine.f (k : Nat) (a0_0 : Int) (a0_1 : Int) (a0_2 : Int) (a0_3 : Int) (a0_4 : Int) (a0_5 : Int) (a0_6 : Int) (a1_0 : Bool) (a1_1 : Int) (a1_2 : Int) (a1_3 : Int) (a2_0 : Bool) (a2_1 : Int) (a2_2 : Int) (a2_3 : Int) (a3 : Int) : Option (Bool) := if a2_0 = true then (if a2_2 = a3 then (if a1_0 = true then (if a0_6 > 0 then ((spec_l4Abs.f (wrap64 (a2_3 - a1_3))).bind fun t344 => (spec_HoldFine.j0 k a3 (decide (t344 > a0_6)) a0_0 a0_1 a0_2 a0_3 a0_4 a0_5 a0_6 a1_0 a1_1 a1_2 a1_3 a2_0 a2_1 a2_2 a2_3)) else (spec_HoldFine.j0 k a3 false a0_0 a0_1 a0_2 a0_3 a0_4 a0_5 a0_6 a1_0 a1_1 a1_2 a1_3 a2_0 a2_1 a2_2 a2_3)) else (spec_HoldFine.j0 k a3 false a0_0 a0_1 a0_2 a0_3 a0_4 a0_5 a0_6 a1_0 a1_1 a1_2 a1_3 a2_0 a2_1 a2_2 a2_3)) else (spec_HoldFine.j0 k a3 true a0_0 a0_1 a0_2 a0_3 a0_4 a0_5 a0_6 a1_0 a1_1 a1_2 a1_3 a2_0 a2_1 a2_2 a2_3)) else (spec_HoldFine.j0 k a3 true a0_0 a0_1 a0_2 a0_3 a0_4 a0_5 a0_6 a1_0 a1_1 a1_2 a1_3 a2_0 a2_1 a2_2 a2_3)
theorem spec_HoldFine.mono_l : ∀ k, (∀ y0 y1 y2 y3 y4 y5 y6 y7 y8 y9 y10 y11 y12 y13 y14 y15 y16, LeO (spec_HoldFine.j0 k y0 y1 y2 y3 y4 y5 y6 y7 y8 y9 y10 y11 y12 y13 y14 y15 y16) (spec_HoldFine.j0 (k + 1) y0 y1 y2 y3 y4 y5 y6 y7 y8 y9 y10 y11 y12 y13 y14 y15 y16)) ∧ (∀ y0 y1 y2 y3 y4 y5 y6 y7 y8 y9 y10 y11 y12 y13 y14 y15 y16, LeO (spec_HoldFine.j1 k y0 y1 y2 y3 y4 y5 y6 y7 y8 y9 y10 y11 y12 y13 y14 y15 y16) (spec_HoldFine.j1 (k + 1) y0 y1 y2 y3 y4 y5 y6 y7 y8 y9 y10 y11 y12 y13 y14 y15 y16))
 | 0 => ⟨fun _ _ _ _ _ _ _ _ _ _ _ _ _ _ _ _ _ r h => by simp [spec_HoldFine.j0] at h, fun _ _ _ _ _ _ _ _ _ _ _ _ _ _ _ _ _ r h => by simp [spec_HoldFine.j1] at h⟩
 | k + 1 => by
  obtain ⟨ih0, ih1⟩ := spec_HoldFine.mono_l k
  refine ⟨?_, ?_⟩
  ·intro y0 y1 y2 y3 y4 y5 y6 y7 y8 y9 y10 y11 y12 y13 y14 y15 y16
   unfold spec_HoldFine.j0
   repeat' first
   | (with_reducible exact ih0 _ _ _ _ _ _ _ _ _ _ _ _ _ _ _ _ _)
   | (with_reducible exact ih1 _ _ _ _ _ _ _ _ _ _ _ _ _ _ _ _ _)
   | (with_reducible exact LeO.refl _)
   | (with_reducible exact LeO.none _)
   | (with_reducible refine LeO.ite ?_ ?_)
   | (with_reducible refine LeO.bind ?_ (fun _ => ?_))
   | exact ih0 _ _ _ _ _ _ _ _ _ _ _ _ _ _ _ _ _
   | exact ih1 _ _ _ _ _ _ _ _ _ _ _ _ _ _ _ _ _
   | exact LeO.none _
   | refine LeO.ite ?_ ?_
   | refine LeO.bind ?_ (fun _ => ?_)
  ·intro y0 y1 y2 y3 y4 y5 y6 y7 y8 y9 y10 y11 y12 y13 y14 y15 y16
   unfold spec_HoldFine.j1
   repeat' first
   | (with_reducible exact ih0 _ _ _ _ _ _ _ _ _ _ _ _ _ _ _ _ _)
   | (with_reducible exact ih1 _ _ _ _ _ _ _ _ _ _ _ _ _ _ _ _ _)
   | (with_reducible exact LeO.refl _)
   | (with_reducible exact LeO.none _)
   | (with_reducible refine LeO.ite ?_ ?_)
   | (with_reducible refine LeO.bind ?_ (fun _ => ?_))
   | exact ih0 _ _ _ _ _ _ _ _ _ _ _ _ _ _ _ _ _
   | exact ih1 _ _ _ _ _ _ _ _ _ _ _ _ _ _ _ _ _
   | exact LeO.none _
   | refine LeO.ite ?_ ?_
   | refine LeO.bind ?_ (fun _ => ?_)
theorem spec_HoldFine.mono : ∀ a0 a1 a2 a3 a4 a5 a6 a7 a8 a9 a10 a11 a12 a13 a14 a15 k, LeO (spec_HoldFine.f k a0 a1 a2 a3 a4 a5 a6 a7 a8 a9 a10 a11 a12 a13 a14 a15) (spec_HoldFine.f (k + 1) a0 a1 a2 a3 a4 a5 a6 a7 a8 a9 a10 a11 a12 a13 a14 a15) := by
 intro a0 a1 a2 a3 a4 a5 a6 a7 a8 a9 a10 a11 a12 a13 a14 a15 k
 obtain ⟨ih0, ih1⟩ := spec_HoldFine.mono_l k
 unfold spec_HoldFine.f
 repeat' first
   | (with_reducible exact ih0 _ _ _ _ _ _ _ _ _ _ _ _ _ _ _ _ _)
   | (with_reducible exact ih1 _ _ _ _ _ _ _ _ _ _ _ _ _ _ _ _ _)
   | (with_reducible exact LeO.refl _)
   | (with_reducible exact LeO.none _)
   | (with_reducible refine LeO.ite ?_ ?_)
   | (with_reducible refine LeO.bind ?_ (fun _ => ?_))
   | exact ih0 _ _ _ _ _ _ _ _ _ _ _ _ _ _ _ _ _
   | exact ih1 _ _ _ _ _ _ _ _ _ _ _ _ _ _ _ _ _
   | exact LeO.none _
   | refine LeO.ite ?_ ?_
   | refine LeO.bind ?_ (fun _ => ?_)
set_option maxHeartbeats 8000000 in
set_option maxRecDepth 100000 in
theorem spec_HoldFine.calls (k : Nat) (a0_0 : Int) (a0_1 : Int) (a0_2 : Int) (a0_3 : Int) (a0_4 : Int) (a0_5 : Int) (a0_6 : Int) (a1_0 : Bool) (a1_1 : Int) (a1_2 : Int) (a1_3 : Int) (a2_0 : Bool) (a2_1 : Int) (a2_2 : Int) (a2_3 : Int) (a3 : Int) (r : Bool) (w : World) (h : spec_HoldFine.f k a0_0 a0_1 a0_2 a0_3 a0_4 a0_5 a0_6 a1_0 a1_1 a1_2 a1_3 a2_0 a2_1 a2_2 a2_3 a3 = some r) :
  Calls Try.prog 23 #[.agg #[.int .i64 a0_0, .int .i64 a0_1, .int .i64 a0_2, .int .i64 a0_3, .int .i64 a0_4, .int .i64 a0_5, .int .i64 a0_6], .agg #[.bool a1_0, .int .i64 a1_1, .int .i64 a1_2, .int .i64 a1_3], .agg #[.bool a2_0, .int .i64 a2_1, .int .i64 a2_2, .int .i64 a2_3], .int .i64 a3] w fun e w' => e = .returned (.bool r) ∧ Below w.heap.size w w' := by
 have hu30 := Try.underlying30
 have hu27 := Try.underlying27
 have HB := a_ (Below.refl w.heap.size w)
 have H : (if a2_0 = true then (if a2_2 = a3 then (if a1_0 = true then (if a0_6 > 0 then ((spec_l4Abs.f (wrap64 (a2_3 - a1_3))).bind fun t344 => (spec_HoldFine.j0 k a3 (decide (t344 > a0_6)) a0_0 a0_1 a0_2 a0_3 a0_4 a0_5 a0_6 a1_0 a1_1 a1_2 a1_3 a2_0 a2_1 a2_2 a2_3)) else (spec_HoldFine.j0 k a3 false a0_0 a0_1 a0_2 a0_3 a0_4 a0_5 a0_6 a1_0 a1_1 a1_2 a1_3 a2_0 a2_1 a2_2 a2_3)) else (spec_HoldFine.j0 k a3 false a0_0 a0_1 a0_2 a0_3 a0_4 a0_5 a0_6 a1_0 a1_1 a1_2 a1_3 a2_0 a2_1 a2_2 a2_3)) else (spec_HoldFine.j0 k a3 true a0_0 a0_1 a0_2 a0_3 a0_4 a0_5 a0_6 a1_0 a1_1 a1_2 a1_3 a2_0 a2_1 a2_2 a2_3)) else (spec_HoldFine.j0 k a3 true a0_0 a0_1 a0_2 a0_3 a0_4 a0_5 a0_6 a1_0 a1_1 a1_2 a1_3 a2_0 a2_1 a2_2 a2_3)) = some r := h
 clear h
 have HC5 := Aside0.mk H
 clear H
 go_enter Try.func23, Try.ntmps23
 go_upto_region 1 with (first | ((with_reducible refine gate_dst (N := 4) rfl ?_); refine box_event ?hg (N := 4) ?hd (cs := #[.int .i64 a0_0, .int .i64 a0_1, .int .i64 a0_2, .int .i64 a0_3, .int .i64 a0_4, .int .i64 a0_5, .int .i64 a0_6]) (t := 30) ?hr ?_; (case hd => rfl); (case hg => rfl); (case hr => first | (go_simp; done) | (go_simp; rfl)); intro gb341 hg w6 hbox hb; have BK341 := a_ (hbox); have GW341 := a_ (bsg hg HB.out); have GE341 := a_ (bsg hg HB.out); replace HB := a_ (below_step (un HB.out) hb); clear hb hbox hg) | ((with_reducible refine gate_dst (N := 5) rfl ?_); refine box_event ?hg (N := 5) ?hd (cs := #[.bool a1_0, .int .i64 a1_1, .int .i64 a1_2, .int .i64 a1_3]) (t := 27) ?hr ?_; (case hd => rfl); (case hg => rfl); (case hr => first | (go_simp; done) | (go_simp; rfl)); intro gb342 hg w7 hbox hb; have BK342 := a_ (hbox); have GW342 := a_ (bsg hg HB.out); have GE342 := a_ (bsg hg HB.out); replace HB := a_ (below_step (by repeat first | (with_reducible first | exact HB.out | refine bz ?_ (by assumption) | apply bA | apply bN | apply bD) | exact HB.out) hb); have NB341_342 := a_ (nel hg BK341.out); have NB342_341 := a_ (nle hg BK341.out); replace BK341 := a_ (blk_below (pk BK341.out) hb); clear hb hbox hg) | ((with_reducible refine gate_dst (N := 6) rfl ?_); refine box_event ?hg (N := 6) ?hd (cs := #[.bool a2_0, .int .i64 a2_1, .int .i64 a2_2, .int .i64 a2_3]) (t := 27) ?hr ?_; (case hd => rfl); (case hg => rfl); (case hr => first | (go_simp; done) | (go_simp; rfl)); intro gb343 hg w8 hbox hb; have BK343 := a_ (hbox); have GW343 := a_ (bsg hg HB.out); have GE343 := a_ (bsg hg HB.out); replace HB := a_ (below_step (by repeat first | (with_reducible first | exact HB.out | refine bz ?_ (by assumption) | apply bA | apply bN | apply bD) | exact HB.out) hb); have NB341_343 := a_ (nel hg BK341.out); have NB343_341 := a_ (nle hg BK341.out); replace BK341 := a_ (blk_below (pk BK341.out) hb); have NB342_343 := a_ (nel hg BK342.out); have NB343_342 := a_ (nle hg BK342.out); replace BK342 := a_ (blk_below (pk BK342.out) hb); clear hb hbox hg))
 repeat (go_quiet (first | ((with_reducible refine gate_dst (N := 4) rfl ?_); refine box_event ?hg (N := 4) ?hd (cs := #[.int .i64 a0_0, .int .i64 a0_1, .int .i64 a0_2, .int .i64 a0_3, .int .i64 a0_4, .int .i64 a0_5, .int .i64 a0_6]) (t := 30) ?hr ?_; (case hd => rfl); (case hg => rfl); (case hr => first | (go_simp; done) | (go_simp; rfl)); intro gb341 hg w6 hbox hb; have BK341 := a_ (hbox); have GW341 := a_ (bsg hg HB.out); have GE341 := a_ (bsg hg HB.out); replace HB := a_ (below_step (un HB.out) hb); clear hb hbox hg) | ((with_reducible refine gate_dst (N := 5) rfl ?_); refine box_event ?hg (N := 5) ?hd (cs := #[.bool a1_0, .int .i64 a1_1, .int .i64 a1_2, .int .i64 a1_3]) (t := 27) ?hr ?_; (case hd => rfl); (case hg => rfl); (case hr => first | (go_simp; done) | (go_simp; rfl)); intro gb342 hg w7 hbox hb; have BK342 := a_ (hbox); have GW342 := a_ (bsg hg HB.out); have GE342 := a_ (bsg hg HB.out); replace HB := a_ (below_step (by repeat first | (with_reducible first | exact HB.out | refine bz ?_ (by assumption) | apply bA | apply bN | apply bD) | exact HB.out) hb); have NB341_342 := a_ (nel hg BK341.out); have NB342_341 := a_ (nle hg BK341.out); replace BK341 := a_ (blk_below (pk BK341.out) hb); clear hb hbox hg) | ((with_reducible refine gate_dst (N := 6) rfl ?_); refine box_event ?hg (N := 6) ?hd (cs := #[.bool a2_0, .int .i64 a2_1, .int .i64 a2_2, .int .i64 a2_3]) (t := 27) ?hr ?_; (case hd => rfl); (case hg => rfl); (case hr => first | (go_simp; done) | (go_simp; rfl)); intro gb343 hg w8 hbox hb; have BK343 := a_ (hbox); have GW343 := a_ (bsg hg HB.out); have GE343 := a_ (bsg hg HB.out); replace HB := a_ (below_step (by repeat first | (with_reducible first | exact HB.out | refine bz ?_ (by assumption) | apply bA | apply bN | apply bD) | exact HB.out) hb); have NB341_343 := a_ (nel hg BK341.out); have NB343_341 := a_ (nle hg BK341.out); replace BK341 := a_ (blk_below (pk BK341.out) hb); have NB342_343 := a_ (nel hg BK342.out); have NB343_342 := a_ (nle hg BK342.out); replace BK342 := a_ (blk_below (pk BK342.out) hb); clear hb hbox hg)); go_upto_region 1 with (first | ((with_reducible refine gate_dst (N := 4) rfl ?_); refine box_event ?hg (N := 4) ?hd (cs := #[.int .i64 a0_0, .int .i64 a0_1, .int .i64 a0_2, .int .i64 a0_3, .int .i64 a0_4, .int .i64 a0_5, .int .i64 a0_6]) (t := 30) ?hr ?_; (case hd => rfl); (case hg => rfl); (case hr => first | (go_simp; done) | (go_simp; rfl)); intro gb341 hg w6 hbox hb; have BK341 := a_ (hbox); have GW341 := a_ (bsg hg HB.out); have GE341 := a_ (bsg hg HB.out); replace HB := a_ (below_step (un HB.out) hb); clear hb hbox hg) | ((with_reducible refine gate_dst (N := 5) rfl ?_); refine box_event ?hg (N := 5) ?hd (cs := #[.bool a1_0, .int .i64 a1_1, .int .i64 a1_2, .int .i64 a1_3]) (t := 27) ?hr ?_; (case hd => rfl); (case hg => rfl); (case hr => first | (go_simp; done) | (go_simp; rfl)); intro gb342 hg w7 hbox hb; have BK342 := a_ (hbox); have GW342 := a_ (bsg hg HB.out); have GE342 := a_ (bsg hg HB.out); replace HB := a_ (below_step (by repeat first | (with_reducible first | exact HB.out | refine bz ?_ (by assumption) | apply bA | apply bN | apply bD) | exact HB.out) hb); have NB341_342 := a_ (nel hg BK341.out); have NB342_341 := a_ (nle hg BK341.out); replace BK341 := a_ (blk_below (pk BK341.out) hb); clear hb hbox hg) | ((with_reducible refine gate_dst (N := 6) rfl ?_); refine box_event ?hg (N := 6) ?hd (cs := #[.bool a2_0, .int .i64 a2_1, .int .i64 a2_2, .int .i64 a2_3]) (t := 27) ?hr ?_; (case hd => rfl); (case hg => rfl); (case hr => first | (go_simp; done) | (go_simp; rfl)); intro gb343 hg w8 hbox hb; have BK343 := a_ (hbox); have GW343 := a_ (bsg hg HB.out); have GE343 := a_ (bsg hg HB.out); replace HB := a_ (below_step (by repeat first | (with_reducible first | exact HB.out | refine bz ?_ (by assumption) | apply bA | apply bN | apply bD) | exact HB.out) hb); have NB341_343 := a_ (nel hg BK341.out); have NB343_341 := a_ (nle hg BK341.out); replace BK341 := a_ (blk_below (pk BK341.out) hb); have NB342_343 := a_ (nel hg BK342.out); have NB343_342 := a_ (nle hg BK342.out); replace BK342 := a_ (blk_below (pk BK342.out) hb); clear hb hbox hg)))
 (try simp only [Act.put, List.setIfInBounds_toArray, List.set_cons_zero, List.set_cons_succ])
 go_cut [39] (fun v39 wc => ∃ (kq : Nat) (x39_4 : Bool), v39 = .bool x39_4 ∧ Aside0 (spec_HoldFine.j0 kq a3 x39_4 a0_0 a0_1 a0_2 a0_3 a0_4 a0_5 a0_6 a1_0 a1_1 a1_2 a1_3 a2_0 a2_1 a2_2 a2_3 = some r) ∧ Aside0 (kq ≤ k) ∧ Aside0 (wc.heap[gb341]? = some (.cells #[.int .i64 a0_0, .int .i64 a0_1, .int .i64 a0_2, .int .i64 a0_3, .int .i64 a0_4, .int .i64 a0_5, .int .i64 a0_6] 30 (0, 0))) ∧ Aside0 (wc.heap[gb342]? = some (.cells #[.bool a1_0, .int .i64 a1_1, .int .i64 a1_2, .int .i64 a1_3] 27 (0, 0))) ∧ Aside0 (wc.heap[gb343]? = some (.cells #[.bool a2_0, .int .i64 a2_1, .int .i64 a2_2, .int .i64 a2_3] 27 (0, 0))) ∧ Aside0 (Below w.heap.size w wc))
 case first =>
  have H := HC5.out
  clear HC5
  by_cases c9 : a2_0 = true
  ·subst c9
   have H1 : (if a2_2 = a3 then (if a1_0 = true then (if a0_6 > 0 then ((spec_l4Abs.f (wrap64 (a2_3 - a1_3))).bind fun t344 => (spec_HoldFine.j0 k a3 (decide (t344 > a0_6)) a0_0 a0_1 a0_2 a0_3 a0_4 a0_5 a0_6 a1_0 a1_1 a1_2 a1_3 true a2_1 a2_2 a2_3)) else (spec_HoldFine.j0 k a3 false a0_0 a0_1 a0_2 a0_3 a0_4 a0_5 a0_6 a1_0 a1_1 a1_2 a1_3 true a2_1 a2_2 a2_3)) else (spec_HoldFine.j0 k a3 false a0_0 a0_1 a0_2 a0_3 a0_4 a0_5 a0_6 a1_0 a1_1 a1_2 a1_3 true a2_1 a2_2 a2_3)) else (spec_HoldFine.j0 k a3 true a0_0 a0_1 a0_2 a0_3 a0_4 a0_5 a0_6 a1_0 a1_1 a1_2 a1_3 true a2_1 a2_2 a2_3)) = some r := by rw [if_pos rfl] at H; exact H
   clear H
   have H := H1
   clear H1
   by_cases c10 : a2_2 = a3
   ·rw [if_pos c10] at H
    have c10b0 : (a2_2 == a3) = true := beq_iff_eq.mpr c10
    have c10b1 : (a2_2 != a3) = false := bne_eq_false_iff_eq.mpr c10
    clear c10
    (first | rw [c10b0] | (simp only [i64_w, i32_w]; rw [c10b0]) | skip)
    by_cases c11 : a1_0 = true
    ·subst c11
     have H1 : (if a0_6 > 0 then ((spec_l4Abs.f (wrap64 (a2_3 - a1_3))).bind fun t344 => (spec_HoldFine.j0 k a3 (decide (t344 > a0_6)) a0_0 a0_1 a0_2 a0_3 a0_4 a0_5 a0_6 true a1_1 a1_2 a1_3 true a2_1 a2_2 a2_3)) else (spec_HoldFine.j0 k a3 false a0_0 a0_1 a0_2 a0_3 a0_4 a0_5 a0_6 true a1_1 a1_2 a1_3 true a2_1 a2_2 a2_3)) = some r := by rw [if_pos rfl] at H; exact H
     clear H
     have H := H1
     clear H1
     by_cases c12 : a0_6 > 0
     ·rw [if_pos c12] at H
      have c12b0 : decide (0 < a0_6) = true := decide_eq_true c12
      clear c12
      replace H := Option.bind_eq_some_iff.mp H
      obtain ⟨t344, A130, H⟩ := H
      have A13 := Aside0.mk A130
      clear A130
      have H' := Aside0.mk H
      clear H
      have hnb14 := NB343_341.out
      have hnc14 := NB341_343.out
      have hnb15 := NB343_342.out
      have hnc15 := NB342_343.out
      have hcz16_0 : _ = some (Value.bool true) := (blk_cell BK343.out 0).trans rfl
      have hcz16_1 : _ = some (Value.int .i64 a2_1) := (blk_cell BK343.out 1).trans rfl
      have hcz16_2 : _ = some (Value.int .i64 a2_2) := (blk_cell BK343.out 2).trans rfl
      have hcz16_3 : _ = some (Value.int .i64 a2_3) := (blk_cell BK343.out 3).trans rfl
      have hfz16_0 := blk_frozen BK343.out 0
      have hfz16_1 := blk_frozen BK343.out 1
      have hfz16_2 := blk_frozen BK343.out 2
      have hfz16_3 := blk_frozen BK343.out 3
      have hnb17 := NB342_341.out
      have hnc17 := NB341_342.out
      have hcz18_0 : _ = some (Value.bool true) := (blk_cell BK342.out 0).trans rfl
      have hcz18_1 : _ = some (Value.int .i64 a1_1) := (blk_cell BK342.out 1).trans rfl
      have hcz18_2 : _ = some (Value.int .i64 a1_2) := (blk_cell BK342.out 2).trans rfl
      have hcz18_3 : _ = some (Value.int .i64 a1_3) := (blk_cell BK342.out 3).trans rfl
      have hfz18_0 := blk_frozen BK342.out 0
      have hfz18_1 := blk_frozen BK342.out 1
      have hfz18_2 := blk_frozen BK342.out 2
      have hfz18_3 := blk_frozen BK342.out 3
      have hcz19_0 : _ = some (Value.int .i64 a0_0) := (blk_cell BK341.out 0).trans rfl
      have hcz19_1 : _ = some (Value.int .i64 a0_1) := (blk_cell BK341.out 1).trans rfl
      have hcz19_2 : _ = some (Value.int .i64 a0_2) := (blk_cell BK341.out 2).trans rfl
      have hcz19_3 : _ = some (Value.int .i64 a0_3) := (blk_cell BK341.out 3).trans rfl
      have hcz19_4 : _ = some (Value.int .i64 a0_4) := (blk_cell BK341.out 4).trans rfl
      have hcz19_5 : _ = some (Value.int .i64 a0_5) := (blk_cell BK341.out 5).trans rfl
      have hcz19_6 : _ = some (Value.int .i64 a0_6) := (blk_cell BK341.out 6).trans rfl
      have hfz19_0 := blk_frozen BK341.out 0
      have hfz19_1 := blk_frozen BK341.out 1
      have hfz19_2 := blk_frozen BK341.out 2
      have hfz19_3 := blk_frozen BK341.out 3
      have hfz19_4 := blk_frozen BK341.out 4
      have hfz19_5 := blk_frozen BK341.out 5
      have hfz19_6 := blk_frozen BK341.out 6
      go_wp2_with (first | (go_at_call 38; (with_reducible refine (spec_l4Abs.calls (wrap64 (a2_3 - a1_3)) t344 _ A13.out).mono ?_); rintro e w' ⟨rfl, ⟨nd, rfl⟩⟩; (try first | exact ⟨rfl, _, World.drewN_drewN _ _ _⟩ | exact ⟨rfl, _, Eq.trans (World.drewN_drewN _ _ _) (congrArg (World.drewN _) (Nat.add_assoc _ _ _))⟩)))
      repeat (go_quiet (first | (go_at_call 38; (with_reducible refine (spec_l4Abs.calls (wrap64 (a2_3 - a1_3)) t344 _ A13.out).mono ?_); rintro e w' ⟨rfl, ⟨nd, rfl⟩⟩; (try first | exact ⟨rfl, _, World.drewN_drewN _ _ _⟩ | exact ⟨rfl, _, Eq.trans (World.drewN_drewN _ _ _) (congrArg (World.drewN _) (Nat.add_assoc _ _ _))⟩))); try go_wp2_with (first | (go_at_call 38; (with_reducible refine (spec_l4Abs.calls (wrap64 (a2_3 - a1_3)) t344 _ A13.out).mono ?_); rintro e w' ⟨rfl, ⟨nd, rfl⟩⟩; (try first | exact ⟨rfl, _, World.drewN_drewN _ _ _⟩ | exact ⟨rfl, _, Eq.trans (World.drewN_drewN _ _ _) (congrArg (World.drewN _) (Nat.add_assoc _ _ _))⟩))))
      go_meet
      case rel => exact ⟨_, (decide (t344 > a0_6)), (by first | rfl | (simp; done) | (simp [*]; done)), H', ⟨by first | omega | exact Nat.le_refl _⟩, ⟨pk BK341.out⟩, ⟨pk BK342.out⟩, ⟨pk BK343.out⟩, ⟨by repeat first | (with_reducible first | exact HB.out | refine bz ?_ (by assumption) | apply bA | apply bN | apply bD) | exact HB.out⟩⟩
     ·rw [if_neg c12] at H
      have c12b0 : decide (0 < a0_6) = false := decide_eq_false c12
      clear c12
      have H' := Aside0.mk H
      clear H
      have hnb20 := NB343_341.out
      have hnc20 := NB341_343.out
      have hnb21 := NB343_342.out
      have hnc21 := NB342_343.out
      have hcz22_0 : _ = some (Value.bool true) := (blk_cell BK343.out 0).trans rfl
      have hcz22_1 : _ = some (Value.int .i64 a2_1) := (blk_cell BK343.out 1).trans rfl
      have hcz22_2 : _ = some (Value.int .i64 a2_2) := (blk_cell BK343.out 2).trans rfl
      have hcz22_3 : _ = some (Value.int .i64 a2_3) := (blk_cell BK343.out 3).trans rfl
      have hfz22_0 := blk_frozen BK343.out 0
      have hfz22_1 := blk_frozen BK343.out 1
      have hfz22_2 := blk_frozen BK343.out 2
      have hfz22_3 := blk_frozen BK343.out 3
      have hnb23 := NB342_341.out
      have hnc23 := NB341_342.out
      have hcz24_0 : _ = some (Value.bool true) := (blk_cell BK342.out 0).trans rfl
      have hcz24_1 : _ = some (Value.int .i64 a1_1) := (blk_cell BK342.out 1).trans rfl
      have hcz24_2 : _ = some (Value.int .i64 a1_2) := (blk_cell BK342.out 2).trans rfl
      have hcz24_3 : _ = some (Value.int .i64 a1_3) := (blk_cell BK342.out 3).trans rfl
      have hfz24_0 := blk_frozen BK342.out 0
      have hfz24_1 := blk_frozen BK342.out 1
      have hfz24_2 := blk_frozen BK342.out 2
      have hfz24_3 := blk_frozen BK342.out 3
      have hcz25_0 : _ = some (Value.int .i64 a0_0) := (blk_cell BK341.out 0).trans rfl
      have hcz25_1 : _ = some (Value.int .i64 a0_1) := (blk_cell BK341.out 1).trans rfl
      have hcz25_2 : _ = some (Value.int .i64 a0_2) := (blk_cell BK341.out 2).trans rfl
      have hcz25_3 : _ = some (Value.int .i64 a0_3) := (blk_cell BK341.out 3).trans rfl
      have hcz25_4 : _ = some (Value.int .i64 a0_4) := (blk_cell BK341.out 4).trans rfl
      have hcz25_5 : _ = some (Value.int .i64 a0_5) := (blk_cell BK341.out 5).trans rfl
      have hcz25_6 : _ = some (Value.int .i64 a0_6) := (blk_cell BK341.out 6).trans rfl
      have hfz25_0 := blk_frozen BK341.out 0
      have hfz25_1 := blk_frozen BK341.out 1
      have hfz25_2 := blk_frozen BK341.out 2
      have hfz25_3 := blk_frozen BK341.out 3
      have hfz25_4 := blk_frozen BK341.out 4
      have hfz25_5 := blk_frozen BK341.out 5
      have hfz25_6 := blk_frozen BK341.out 6
      go_wp2
      repeat (go_quiet (fail); try go_wp2)
      go_meet
      case rel => exact ⟨_, (false), (by first | rfl | (simp; done) | (simp [*]; done)), H', ⟨by first | omega | exact Nat.le_refl _⟩, ⟨pk BK341.out⟩, ⟨pk BK342.out⟩, ⟨pk BK343.out⟩, ⟨by repeat first | (with_reducible first | exact HB.out | refine bz ?_ (by assumption) | apply bA | apply bN | apply bD) | exact HB.out⟩⟩
    ·replace c11 := Bool.eq_false_iff.mpr c11
     subst c11
     have H1 : (spec_HoldFine.j0 k a3 false a0_0 a0_1 a0_2 a0_3 a0_4 a0_5 a0_6 false a1_1 a1_2 a1_3 true a2_1 a2_2 a2_3) = some r := by rw [if_neg (show ¬ (false = true) by decide)] at H; exact H
     clear H
     have H := H1
     clear H1
     have H' := Aside0.mk H
     clear H
     have hnb26 := NB343_341.out
     have hnc26 := NB341_343.out
     have hnb27 := NB343_342.out
     have hnc27 := NB342_343.out
     have hcz28_0 : _ = some (Value.bool true) := (blk_cell BK343.out 0).trans rfl
     have hcz28_1 : _ = some (Value.int .i64 a2_1) := (blk_cell BK343.out 1).trans rfl
     have hcz28_2 : _ = some (Value.int .i64 a2_2) := (blk_cell BK343.out 2).trans rfl
     have hcz28_3 : _ = some (Value.int .i64 a2_3) := (blk_cell BK343.out 3).trans rfl
     have hfz28_0 := blk_frozen BK343.out 0
     have hfz28_1 := blk_frozen BK343.out 1
     have hfz28_2 := blk_frozen BK343.out 2
     have hfz28_3 := blk_frozen BK343.out 3
     have hnb29 := NB342_341.out
     have hnc29 := NB341_342.out
     have hcz30_0 : _ = some (Value.bool false) := (blk_cell BK342.out 0).trans rfl
     have hcz30_1 : _ = some (Value.int .i64 a1_1) := (blk_cell BK342.out 1).trans rfl
     have hcz30_2 : _ = some (Value.int .i64 a1_2) := (blk_cell BK342.out 2).trans rfl
     have hcz30_3 : _ = some (Value.int .i64 a1_3) := (blk_cell BK342.out 3).trans rfl
     have hfz30_0 := blk_frozen BK342.out 0
     have hfz30_1 := blk_frozen BK342.out 1
     have hfz30_2 := blk_frozen BK342.out 2
     have hfz30_3 := blk_frozen BK342.out 3
     go_wp2
     repeat (go_quiet (fail); try go_wp2)
     go_meet
     case rel => exact ⟨_, (false), (by first | rfl | (simp; done) | (simp [*]; done)), H', ⟨by first | omega | exact Nat.le_refl _⟩, ⟨pk BK341.out⟩, ⟨pk BK342.out⟩, ⟨pk BK343.out⟩, ⟨by repeat first | (with_reducible first | exact HB.out | refine bz ?_ (by assumption) | apply bA | apply bN | apply bD) | exact HB.out⟩⟩
   ·rw [if_neg c10] at H
    have c10b0 : (a2_2 == a3) = false := beq_eq_false_iff_ne.mpr c10
    have c10b1 : (a2_2 != a3) = true := bne_iff_ne.mpr c10
    (first | rw [c10b0] | (simp only [i64_w, i32_w]; rw [c10b0]) | skip)
    have H' := Aside0.mk H
    clear H
    have hnb31 := NB343_341.out
    have hnc31 := NB341_343.out
    have hnb32 := NB343_342.out
    have hnc32 := NB342_343.out
    have hcz33_0 : _ = some (Value.bool true) := (blk_cell BK343.out 0).trans rfl
    have hcz33_1 : _ = some (Value.int .i64 a2_1) := (blk_cell BK343.out 1).trans rfl
    have hcz33_2 : _ = some (Value.int .i64 a2_2) := (blk_cell BK343.out 2).trans rfl
    have hcz33_3 : _ = some (Value.int .i64 a2_3) := (blk_cell BK343.out 3).trans rfl
    have hfz33_0 := blk_frozen BK343.out 0
    have hfz33_1 := blk_frozen BK343.out 1
    have hfz33_2 := blk_frozen BK343.out 2
    have hfz33_3 := blk_frozen BK343.out 3
    go_wp2
    repeat (go_quiet (fail); try go_wp2)
    go_meet
    case rel => exact ⟨_, (true), (by first | rfl | (simp; done) | (simp [*]; done)), H', ⟨by first | omega | exact Nat.le_refl _⟩, ⟨pk BK341.out⟩, ⟨pk BK342.out⟩, ⟨pk BK343.out⟩, ⟨by repeat first | (with_reducible first | exact HB.out | refine bz ?_ (by assumption) | apply bA | apply bN | apply bD) | exact HB.out⟩⟩
  ·replace c9 := Bool.eq_false_iff.mpr c9
   subst c9
   have H1 : (spec_HoldFine.j0 k a3 true a0_0 a0_1 a0_2 a0_3 a0_4 a0_5 a0_6 a1_0 a1_1 a1_2 a1_3 false a2_1 a2_2 a2_3) = some r := by rw [if_neg (show ¬ (false = true) by decide)] at H; exact H
   clear H
   have H := H1
   clear H1
   have H' := Aside0.mk H
   clear H
   have hnb34 := NB343_341.out
   have hnc34 := NB341_343.out
   have hnb35 := NB343_342.out
   have hnc35 := NB342_343.out
   have hcz36_0 : _ = some (Value.bool false) := (blk_cell BK343.out 0).trans rfl
   have hcz36_1 : _ = some (Value.int .i64 a2_1) := (blk_cell BK343.out 1).trans rfl
   have hcz36_2 : _ = some (Value.int .i64 a2_2) := (blk_cell BK343.out 2).trans rfl
   have hcz36_3 : _ = some (Value.int .i64 a2_3) := (blk_cell BK343.out 3).trans rfl
   have hfz36_0 := blk_frozen BK343.out 0
   have hfz36_1 := blk_frozen BK343.out 1
   have hfz36_2 := blk_frozen BK343.out 2
   have hfz36_3 := blk_frozen BK343.out 3
   go_wp2
   repeat (go_quiet (fail); try go_wp2)
   go_meet
   case rel => exact ⟨_, (true), (by first | rfl | (simp; done) | (simp [*]; done)), H', ⟨by first | omega | exact Nat.le_refl _⟩, ⟨pk BK341.out⟩, ⟨pk BK342.out⟩, ⟨pk BK343.out⟩, ⟨by repeat first | (with_reducible first | exact HB.out | refine bz ?_ (by assumption) | apply bA | apply bN | apply bD) | exact HB.out⟩⟩
 case rest =>
  clear HC5
  try clear c1
  try clear c2
  try clear p2
  try clear c3
  try clear p6
  try clear c9
  try clear c10
  try clear c10b0
  try clear c10b1
  try clear c11
  try clear c12
  try clear c12b0
  try clear c14
  try clear c15
  try clear c17
  try clear c20
  try clear c21
  try clear c23
  try clear c26
  try clear c27
  try clear c29
  try clear c31
  try clear c32
  try clear c34
  try clear c35
  try clear hcz16_0
  try clear hcz16_1
  try clear hcz16_2
  try clear hcz16_3
  try clear hcz18_0
  try clear hcz18_1
  try clear hcz18_2
  try clear hcz18_3
  try clear hcz19_0
  try clear hcz19_1
  try clear hcz19_2
  try clear hcz19_3
  try clear hcz19_4
  try clear hcz19_5
  try clear hcz19_6
  try clear hcz22_0
  try clear hcz22_1
  try clear hcz22_2
  try clear hcz22_3
  try clear hcz24_0
  try clear hcz24_1
  try clear hcz24_2
  try clear hcz24_3
  try clear hcz25_0
  try clear hcz25_1
  try clear hcz25_2
  try clear hcz25_3
  try clear hcz25_4
  try clear hcz25_5
  try clear hcz25_6
  try clear hcz28_0
  try clear hcz28_1
  try clear hcz28_2
  try clear hcz28_3
  try clear hcz30_0
  try clear hcz30_1
  try clear hcz30_2
  try clear hcz30_3
  try clear hcz33_0
  try clear hcz33_1
  try clear hcz33_2
  try clear hcz33_3
  try clear hcz36_0
  try clear hcz36_1
  try clear hcz36_2
  try clear hcz36_3
  try clear hfz16_0
  try clear hfz16_1
  try clear hfz16_2
  try clear hfz16_3
  try clear hfz18_0
  try clear hfz18_1
  try clear hfz18_2
  try clear hfz18_3
  try clear hfz19_0
  try clear hfz19_1
  try clear hfz19_2
  try clear hfz19_3
  try clear hfz19_4
  try clear hfz19_5
  try clear hfz19_6
  try clear hfz22_0
  try clear hfz22_1
  try clear hfz22_2
  try clear hfz22_3
  try clear hfz24_0
  try clear hfz24_1
  try clear hfz24_2
  try clear hfz24_3
  try clear hfz25_0
  try clear hfz25_1
  try clear hfz25_2
  try clear hfz25_3
  try clear hfz25_4
  try clear hfz25_5
  try clear hfz25_6
  try clear hfz28_0
  try clear hfz28_1
  try clear hfz28_2
  try clear hfz28_3
  try clear hfz30_0
  try clear hfz30_1
  try clear hfz30_2
  try clear hfz30_3
  try clear hfz33_0
  try clear hfz33_1
  try clear hfz33_2
  try clear hfz33_3
  try clear hfz36_0
  try clear hfz36_1
  try clear hfz36_2
  try clear hfz36_3
  obtain ⟨kq, x39_4, rfl, HA, HJ4, BK341, BK342, BK343, HB⟩ := hcut
  cases kq with
  | zero => exact absurd HA.out (by simp [spec_HoldFine.j0])
  | succ kj4 =>
   have H := HA.out
   clear HA
   simp only [spec_HoldFine.j0] at H
   by_cases c37 : x39_4 = true
   ·subst c37
    have H1 : (some false) = some r := by rw [if_pos rfl] at H; exact H
    clear H
    have H := H1
    clear H1
    obtain rfl := Option.some.inj H
    go_wp2
    repeat (go_quiet (fail); try go_wp2)
    go_ret
    exact ⟨by first | rfl | (simp [errW_none, errW_some] <;> rfl) | (simp [*, errW_none, errW_some] <;> rfl), by repeat first | (with_reducible first | exact HB.out | refine bz ?_ (by assumption) | apply bA | apply bN | apply bD) | exact HB.out⟩
   ·replace c37 := Bool.eq_false_iff.mpr c37
    subst c37
    have H1 : (if a1_0 = true then (spec_HoldFine.j1 kj4 a3 (wrap64 (a3 - a1_2)) a0_0 a0_1 a0_2 a0_3 a0_4 a0_5 a0_6 a1_0 a1_1 a1_2 a1_3 a2_0 a2_1 a2_2 a2_3) else (spec_HoldFine.j1 kj4 a3 0 a0_0 a0_1 a0_2 a0_3 a0_4 a0_5 a0_6 a1_0 a1_1 a1_2 a1_3 a2_0 a2_1 a2_2 a2_3)) = some r := by rw [if_neg (show ¬ (false = true) by decide)] at H; exact H
    clear H
    have H := H1
    clear H1
    have HC38 := Aside0.mk H
    clear H
    have hnb39 := NB342_341.out
    have hnc39 := NB341_342.out
    have hnb40 := NB342_343.out
    have hnc40 := NB343_342.out
    have hcz41_0 : wc.cell? ⟨gb342, 0, none⟩ = some (.bool a1_0) := (blk_cell BK342.out 0).trans rfl
    have hcz41_1 : wc.cell? ⟨gb342, 1, none⟩ = some (.int .i64 a1_1) := (blk_cell BK342.out 1).trans rfl
    have hcz41_2 : wc.cell? ⟨gb342, 2, none⟩ = some (.int .i64 a1_2) := (blk_cell BK342.out 2).trans rfl
    have hcz41_3 : wc.cell? ⟨gb342, 3, none⟩ = some (.int .i64 a1_3) := (blk_cell BK342.out 3).trans rfl
    have hfz41_0 := blk_frozen BK342.out 0
    have hfz41_1 := blk_frozen BK342.out 1
    have hfz41_2 := blk_frozen BK342.out 2
    have hfz41_3 := blk_frozen BK342.out 3
    go_upto_if 41 with (fail)
    repeat (go_quiet (fail); go_upto_if 41 with (fail))
    go_cut [9] (fun v9 wc => ∃ (kq : Nat) (x9_37 : Int), v9 = .int .i64 x9_37 ∧ Aside0 (spec_HoldFine.j1 kq a3 x9_37 a0_0 a0_1 a0_2 a0_3 a0_4 a0_5 a0_6 a1_0 a1_1 a1_2 a1_3 a2_0 a2_1 a2_2 a2_3 = some r) ∧ Aside0 (kq ≤ kj4) ∧ Aside0 (wc.heap[gb341]? = some (.cells #[.int .i64 a0_0, .int .i64 a0_1, .int .i64 a0_2, .int .i64 a0_3, .int .i64 a0_4, .int .i64 a0_5, .int .i64 a0_6] 30 (0, 0))) ∧ Aside0 (wc.heap[gb342]? = some (.cells #[.bool a1_0, .int .i64 a1_1, .int .i64 a1_2, .int .i64 a1_3] 27 (0, 0))) ∧ Aside0 (wc.heap[gb343]? = some (.cells #[.bool a2_0, .int .i64 a2_1, .int .i64 a2_2, .int .i64 a2_3] 27 (0, 0))) ∧ Aside0 (Below w.heap.size w wc))
    case first =>
     have H := HC38.out
     clear HC38
     by_cases c42 : a1_0 = true
     ·subst c42
      have H1 : (spec_HoldFine.j1 kj4 a3 (wrap64 (a3 - a1_2)) a0_0 a0_1 a0_2 a0_3 a0_4 a0_5 a0_6 true a1_1 a1_2 a1_3 a2_0 a2_1 a2_2 a2_3) = some r := by rw [if_pos rfl] at H; exact H
      clear H
      have H := H1
      clear H1
      have H' := Aside0.mk H
      clear H
      have hnb43 := NB342_341.out
      have hnc43 := NB341_342.out
      have hnb44 := NB342_343.out
      have hnc44 := NB343_342.out
      have hcz45_0 : wc.cell? ⟨gb342, 0, none⟩ = some (.bool true) := (blk_cell BK342.out 0).trans rfl
      have hcz45_1 : wc.cell? ⟨gb342, 1, none⟩ = some (.int .i64 a1_1) := (blk_cell BK342.out 1).trans rfl
      have hcz45_2 : wc.cell? ⟨gb342, 2, none⟩ = some (.int .i64 a1_2) := (blk_cell BK342.out 2).trans rfl
      have hcz45_3 : wc.cell? ⟨gb342, 3, none⟩ = some (.int .i64 a1_3) := (blk_cell BK342.out 3).trans rfl
      have hfz45_0 := blk_frozen BK342.out 0
      have hfz45_1 := blk_frozen BK342.out 1
      have hfz45_2 := blk_frozen BK342.out 2
      have hfz45_3 := blk_frozen BK342.out 3
      go_wp2
      repeat (go_quiet (fail); try go_wp2)
      go_meet
      case rel => exact ⟨_, (wrap64 (a3 - a1_2)), (by first | rfl | (simp; done) | (simp [*]; done)), H', ⟨by have := HJ4.out; first | omega | exact Nat.le_refl _⟩, ⟨pk BK341.out⟩, ⟨pk BK342.out⟩, ⟨pk BK343.out⟩, ⟨by repeat first | (with_reducible first | exact HB.out | refine bz ?_ (by assumption) | apply bA | apply bN | apply bD) | exact HB.out⟩⟩
     ·replace c42 := Bool.eq_false_iff.mpr c42
      subst c42
      have H1 : (spec_HoldFine.j1 kj4 a3 0 a0_0 a0_1 a0_2 a0_3 a0_4 a0_5 a0_6 false a1_1 a1_2 a1_3 a2_0 a2_1 a2_2 a2_3) = some r := by rw [if_neg (show ¬ (false = true) by decide)] at H; exact H
      clear H
      have H := H1
      clear H1
      have H' := Aside0.mk H
      clear H
      go_wp2
      repeat (go_quiet (fail); try go_wp2)
      go_meet
      case rel => exact ⟨_, (0), (by first | rfl | (simp; done) | (simp [*]; done)), H', ⟨by have := HJ4.out; first | omega | exact Nat.le_refl _⟩, ⟨pk BK341.out⟩, ⟨pk BK342.out⟩, ⟨pk BK343.out⟩, ⟨by repeat first | (with_reducible first | exact HB.out | refine bz ?_ (by assumption) | apply bA | apply bN | apply bD) | exact HB.out⟩⟩
    case rest =>
     clear HC38
     try clear c1
     try clear c2
     try clear p2
     try clear c3
     try clear c4
     try clear p6
     try clear c9
     try clear c10
     try clear c10b0
     try clear c10b1
     try clear c11
     try clear c12
     try clear c12b0
     try clear c14
     try clear c15
     try clear c17
     try clear c20
     try clear c21
     try clear c23
     try clear c26
     try clear c27
     try clear c29
     try clear c31
     try clear c32
     try clear c34
     try clear c35
     try clear c37
     try clear c39
     try clear c40
     try clear c42
     try clear c43
     try clear c44
     try clear hcz16_0
     try clear hcz16_1
     try clear hcz16_2
     try clear hcz16_3
     try clear hcz18_0
     try clear hcz18_1
     try clear hcz18_2
     try clear hcz18_3
     try clear hcz19_0
     try clear hcz19_1
     try clear hcz19_2
     try clear hcz19_3
     try clear hcz19_4
     try clear hcz19_5
     try clear hcz19_6
     try clear hcz22_0
     try clear hcz22_1
     try clear hcz22_2
     try clear hcz22_3
     try clear hcz24_0
     try clear hcz24_1
     try clear hcz24_2
     try clear hcz24_3
     try clear hcz25_0
     try clear hcz25_1
     try clear hcz25_2
     try clear hcz25_3
     try clear hcz25_4
     try clear hcz25_5
     try clear hcz25_6
     try clear hcz28_0
     try clear hcz28_1
     try clear hcz28_2
     try clear hcz28_3
     try clear hcz30_0
     try clear hcz30_1
     try clear hcz30_2
     try clear hcz30_3
     try clear hcz33_0
     try clear hcz33_1
     try clear hcz33_2
     try clear hcz33_3
     try clear hcz36_0
     try clear hcz36_1
     try clear hcz36_2
     try clear hcz36_3
     try clear hcz41_0
     try clear hcz41_1
     try clear hcz41_2
     try clear hcz41_3
     try clear hcz45_0
     try clear hcz45_1
     try clear hcz45_2
     try clear hcz45_3
     try clear hfz16_0
     try clear hfz16_1
     try clear hfz16_2
     try clear hfz16_3
     try clear hfz18_0
     try clear hfz18_1
     try clear hfz18_2
     try clear hfz18_3
     try clear hfz19_0
     try clear hfz19_1
     try clear hfz19_2
     try clear hfz19_3
     try clear hfz19_4
     try clear hfz19_5
     try clear hfz19_6
     try clear hfz22_0
     try clear hfz22_1
     try clear hfz22_2
     try clear hfz22_3
     try clear hfz24_0
     try clear hfz24_1
     try clear hfz24_2
     try clear hfz24_3
     try clear hfz25_0
     try clear hfz25_1
     try clear hfz25_2
     try clear hfz25_3
     try clear hfz25_4
     try clear hfz25_5
     try clear hfz25_6
     try clear hfz28_0
     try clear hfz28_1
     try clear hfz28_2
     try clear hfz28_3
     try clear hfz30_0
     try clear hfz30_1
     try clear hfz30_2
     try clear hfz30_3
     try clear hfz33_0
     try clear hfz33_1
     try clear hfz33_2
     try clear hfz33_3
     try clear hfz36_0
     try clear hfz36_1
     try clear hfz36_2
     try clear hfz36_3
     try clear hfz41_0
     try clear hfz41_1
     try clear hfz41_2
     try clear hfz41_3
     try clear hfz45_0
     try clear hfz45_1
     try clear hfz45_2
     try clear hfz45_3
     try clear p2
     try clear p6
     obtain ⟨kq, x9_37, rfl, HA, HJ37, BK341, BK342, BK343, HB⟩ := hcut
     cases kq with
     | zero => exact absurd HA.out (by simp [spec_HoldFine.j1])
     | succ kj37 =>
      have H := HA.out
      clear HA
      simp only [spec_HoldFine.j1] at H
      replace H := Option.bind_eq_some_iff.mp H
      obtain ⟨t345, A460, H⟩ := H
      have A46 := Aside0.mk A460
      clear A460
      replace H := Option.bind_eq_some_iff.mp H
      obtain ⟨t346, A470, H⟩ := H
      have A47 := Aside0.mk A470
      clear A470
      by_cases c48 : t346 > a0_4
      ·rw [if_pos c48] at H
       have c48b0 : decide (a0_4 < t346) = true := decide_eq_true c48
       clear c48
       by_cases c49 : a3 > 0
       ·rw [if_pos c49] at H
        have c49b0 : decide (0 < a3) = true := decide_eq_true c49
        clear c49
        obtain rfl := Option.some.inj H
        have hnb50 := NB341_342.out
        have hnc50 := NB342_341.out
        have hnb51 := NB341_343.out
        have hnc51 := NB343_341.out
        have hcz52_0 : wc.cell? ⟨gb341, 0, none⟩ = some (.int .i64 a0_0) := (blk_cell BK341.out 0).trans rfl
        have hcz52_1 : wc.cell? ⟨gb341, 1, none⟩ = some (.int .i64 a0_1) := (blk_cell BK341.out 1).trans rfl
        have hcz52_2 : wc.cell? ⟨gb341, 2, none⟩ = some (.int .i64 a0_2) := (blk_cell BK341.out 2).trans rfl
        have hcz52_3 : wc.cell? ⟨gb341, 3, none⟩ = some (.int .i64 a0_3) := (blk_cell BK341.out 3).trans rfl
        have hcz52_4 : wc.cell? ⟨gb341, 4, none⟩ = some (.int .i64 a0_4) := (blk_cell BK341.out 4).trans rfl
        have hcz52_5 : wc.cell? ⟨gb341, 5, none⟩ = some (.int .i64 a0_5) := (blk_cell BK341.out 5).trans rfl
        have hcz52_6 : wc.cell? ⟨gb341, 6, none⟩ = some (.int .i64 a0_6) := (blk_cell BK341.out 6).trans rfl
        have hfz52_0 := blk_frozen BK341.out 0
        have hfz52_1 := blk_frozen BK341.out 1
        have hfz52_2 := blk_frozen BK341.out 2
        have hfz52_3 := blk_frozen BK341.out 3
        have hfz52_4 := blk_frozen BK341.out 4
        have hfz52_5 := blk_frozen BK341.out 5
        have hfz52_6 := blk_frozen BK341.out 6
        have hnb53 := NB342_343.out
        have hnc53 := NB343_342.out
        have hcz54_0 : wc.cell? ⟨gb342, 0, none⟩ = some (.bool a1_0) := (blk_cell BK342.out 0).trans rfl
        have hcz54_1 : wc.cell? ⟨gb342, 1, none⟩ = some (.int .i64 a1_1) := (blk_cell BK342.out 1).trans rfl
        have hcz54_2 : wc.cell? ⟨gb342, 2, none⟩ = some (.int .i64 a1_2) := (blk_cell BK342.out 2).trans rfl
        have hcz54_3 : wc.cell? ⟨gb342, 3, none⟩ = some (.int .i64 a1_3) := (blk_cell BK342.out 3).trans rfl
        have hfz54_0 := blk_frozen BK342.out 0
        have hfz54_1 := blk_frozen BK342.out 1
        have hfz54_2 := blk_frozen BK342.out 2
        have hfz54_3 := blk_frozen BK342.out 3
        have hcz55_0 : wc.cell? ⟨gb343, 0, none⟩ = some (.bool a2_0) := (blk_cell BK343.out 0).trans rfl
        have hcz55_1 : wc.cell? ⟨gb343, 1, none⟩ = some (.int .i64 a2_1) := (blk_cell BK343.out 1).trans rfl
        have hcz55_2 : wc.cell? ⟨gb343, 2, none⟩ = some (.int .i64 a2_2) := (blk_cell BK343.out 2).trans rfl
        have hcz55_3 : wc.cell? ⟨gb343, 3, none⟩ = some (.int .i64 a2_3) := (blk_cell BK343.out 3).trans rfl
        have hfz55_0 := blk_frozen BK343.out 0
        have hfz55_1 := blk_frozen BK343.out 1
        have hfz55_2 := blk_frozen BK343.out 2
        have hfz55_3 := blk_frozen BK343.out 3
        go_wp2_with (first | (go_at_call 40; (with_reducible refine (spec_l13Cut.calls (wrap64 (a1_1 + a3)) (wrap64 (-a0_5)) a0_5 t345 _ A46.out).mono ?_); rintro e w' ⟨rfl, ⟨nd, rfl⟩⟩; (try first | exact ⟨rfl, _, World.drewN_drewN _ _ _⟩ | exact ⟨rfl, _, Eq.trans (World.drewN_drewN _ _ _) (congrArg (World.drewN _) (Nat.add_assoc _ _ _))⟩)) | (go_at_call 39; (with_reducible refine (spec_l13Down.calls (wrap64 ((wrap64 ((wrap64 (a0_0 * a3)) + (wrap64 (a0_1 * t345)))) + (wrap64 (a0_2 * x9_37)))) a0_3 t346 _ A47.out).mono ?_); rintro e w' ⟨rfl, ⟨nd, rfl⟩⟩; (try first | exact ⟨rfl, _, World.drewN_drewN _ _ _⟩ | exact ⟨rfl, _, Eq.trans (World.drewN_drewN _ _ _) (congrArg (World.drewN _) (Nat.add_assoc _ _ _))⟩)))
        repeat (go_quiet (first | (go_at_call 40; (with_reducible refine (spec_l13Cut.calls (wrap64 (a1_1 + a3)) (wrap64 (-a0_5)) a0_5 t345 _ A46.out).mono ?_); rintro e w' ⟨rfl, ⟨nd, rfl⟩⟩; (try first | exact ⟨rfl, _, World.drewN_drewN _ _ _⟩ | exact ⟨rfl, _, Eq.trans (World.drewN_drewN _ _ _) (congrArg (World.drewN _) (Nat.add_assoc _ _ _))⟩)) | (go_at_call 39; (with_reducible refine (spec_l13Down.calls (wrap64 ((wrap64 ((wrap64 (a0_0 * a3)) + (wrap64 (a0_1 * t345)))) + (wrap64 (a0_2 * x9_37)))) a0_3 t346 _ A47.out).mono ?_); rintro e w' ⟨rfl, ⟨nd, rfl⟩⟩; (try first | exact ⟨rfl, _, World.drewN_drewN _ _ _⟩ | exact ⟨rfl, _, Eq.trans (World.drewN_drewN _ _ _) (congrArg (World.drewN _) (Nat.add_assoc _ _ _))⟩))); try go_wp2_with (first | (go_at_call 40; (with_reducible refine (spec_l13Cut.calls (wrap64 (a1_1 + a3)) (wrap64 (-a0_5)) a0_5 t345 _ A46.out).mono ?_); rintro e w' ⟨rfl, ⟨nd, rfl⟩⟩; (try first | exact ⟨rfl, _, World.drewN_drewN _ _ _⟩ | exact ⟨rfl, _, Eq.trans (World.drewN_drewN _ _ _) (congrArg (World.drewN _) (Nat.add_assoc _ _ _))⟩)) | (go_at_call 39; (with_reducible refine (spec_l13Down.calls (wrap64 ((wrap64 ((wrap64 (a0_0 * a3)) + (wrap64 (a0_1 * t345)))) + (wrap64 (a0_2 * x9_37)))) a0_3 t346 _ A47.out).mono ?_); rintro e w' ⟨rfl, ⟨nd, rfl⟩⟩; (try first | exact ⟨rfl, _, World.drewN_drewN _ _ _⟩ | exact ⟨rfl, _, Eq.trans (World.drewN_drewN _ _ _) (congrArg (World.drewN _) (Nat.add_assoc _ _ _))⟩))))
        go_ret
        exact ⟨by first | rfl | (simp [errW_none, errW_some] <;> rfl) | (simp [*, errW_none, errW_some] <;> rfl), by repeat first | (with_reducible first | exact HB.out | refine bz ?_ (by assumption) | apply bA | apply bN | apply bD) | exact HB.out⟩
       ·rw [if_neg c49] at H
        have c49b0 : decide (0 < a3) = false := decide_eq_false c49
        clear c49
        by_cases c56 : t346 < (wrap64 (-a0_4))
        ·rw [if_pos c56] at H
         have c56b0 : decide (t346 < (wrap64 (-a0_4))) = true := decide_eq_true c56
         clear c56
         by_cases c57 : a3 < 0
         ·rw [if_pos c57] at H
          have c57b0 : decide (a3 < 0) = true := decide_eq_true c57
          clear c57
          obtain rfl := Option.some.inj H
          have hnb58 := NB341_342.out
          have hnc58 := NB342_341.out
          have hnb59 := NB341_343.out
          have hnc59 := NB343_341.out
          have hcz60_0 : wc.cell? ⟨gb341, 0, none⟩ = some (.int .i64 a0_0) := (blk_cell BK341.out 0).trans rfl
          have hcz60_1 : wc.cell? ⟨gb341, 1, none⟩ = some (.int .i64 a0_1) := (blk_cell BK341.out 1).trans rfl
          have hcz60_2 : wc.cell? ⟨gb341, 2, none⟩ = some (.int .i64 a0_2) := (blk_cell BK341.out 2).trans rfl
          have hcz60_3 : wc.cell? ⟨gb341, 3, none⟩ = some (.int .i64 a0_3) := (blk_cell BK341.out 3).trans rfl
          have hcz60_4 : wc.cell? ⟨gb341, 4, none⟩ = some (.int .i64 a0_4) := (blk_cell BK341.out 4).trans rfl
          have hcz60_5 : wc.cell? ⟨gb341, 5, none⟩ = some (.int .i64 a0_5) := (blk_cell BK341.out 5).trans rfl
          have hcz60_6 : wc.cell? ⟨gb341, 6, none⟩ = some (.int .i64 a0_6) := (blk_cell BK341.out 6).trans rfl
          have hfz60_0 := blk_frozen BK341.out 0
          have hfz60_1 := blk_frozen BK341.out 1
          have hfz60_2 := blk_frozen BK341.out 2
          have hfz60_3 := blk_frozen BK341.out 3
          have hfz60_4 := blk_frozen BK341.out 4
          have hfz60_5 := blk_frozen BK341.out 5
          have hfz60_6 := blk_frozen BK341.out 6
          have hnb61 := NB342_343.out
          have hnc61 := NB343_342.out
          have hcz62_0 : wc.cell? ⟨gb342, 0, none⟩ = some (.bool a1_0) := (blk_cell BK342.out 0).trans rfl
          have hcz62_1 : wc.cell? ⟨gb342, 1, none⟩ = some (.int .i64 a1_1) := (blk_cell BK342.out 1).trans rfl
          have hcz62_2 : wc.cell? ⟨gb342, 2, none⟩ = some (.int .i64 a1_2) := (blk_cell BK342.out 2).trans rfl
          have hcz62_3 : wc.cell? ⟨gb342, 3, none⟩ = some (.int .i64 a1_3) := (blk_cell BK342.out 3).trans rfl
          have hfz62_0 := blk_frozen BK342.out 0
          have hfz62_1 := blk_frozen BK342.out 1
          have hfz62_2 := blk_frozen BK342.out 2
          have hfz62_3 := blk_frozen BK342.out 3
          have hcz63_0 : wc.cell? ⟨gb343, 0, none⟩ = some (.bool a2_0) := (blk_cell BK343.out 0).trans rfl
          have hcz63_1 : wc.cell? ⟨gb343, 1, none⟩ = some (.int .i64 a2_1) := (blk_cell BK343.out 1).trans rfl
          have hcz63_2 : wc.cell? ⟨gb343, 2, none⟩ = some (.int .i64 a2_2) := (blk_cell BK343.out 2).trans rfl
          have hcz63_3 : wc.cell? ⟨gb343, 3, none⟩ = some (.int .i64 a2_3) := (blk_cell BK343.out 3).trans rfl
          have hfz63_0 := blk_frozen BK343.out 0
          have hfz63_1 := blk_frozen BK343.out 1
          have hfz63_2 := blk_frozen BK343.out 2
          have hfz63_3 := blk_frozen BK343.out 3
          go_wp2_with (first | (go_at_call 40; (with_reducible refine (spec_l13Cut.calls (wrap64 (a1_1 + a3)) (wrap64 (-a0_5)) a0_5 t345 _ A46.out).mono ?_); rintro e w' ⟨rfl, ⟨nd, rfl⟩⟩; (try first | exact ⟨rfl, _, World.drewN_drewN _ _ _⟩ | exact ⟨rfl, _, Eq.trans (World.drewN_drewN _ _ _) (congrArg (World.drewN _) (Nat.add_assoc _ _ _))⟩)) | (go_at_call 39; (with_reducible refine (spec_l13Down.calls (wrap64 ((wrap64 ((wrap64 (a0_0 * a3)) + (wrap64 (a0_1 * t345)))) + (wrap64 (a0_2 * x9_37)))) a0_3 t346 _ A47.out).mono ?_); rintro e w' ⟨rfl, ⟨nd, rfl⟩⟩; (try first | exact ⟨rfl, _, World.drewN_drewN _ _ _⟩ | exact ⟨rfl, _, Eq.trans (World.drewN_drewN _ _ _) (congrArg (World.drewN _) (Nat.add_assoc _ _ _))⟩)))
          repeat (go_quiet (first | (go_at_call 40; (with_reducible refine (spec_l13Cut.calls (wrap64 (a1_1 + a3)) (wrap64 (-a0_5)) a0_5 t345 _ A46.out).mono ?_); rintro e w' ⟨rfl, ⟨nd, rfl⟩⟩; (try first | exact ⟨rfl, _, World.drewN_drewN _ _ _⟩ | exact ⟨rfl, _, Eq.trans (World.drewN_drewN _ _ _) (congrArg (World.drewN _) (Nat.add_assoc _ _ _))⟩)) | (go_at_call 39; (with_reducible refine (spec_l13Down.calls (wrap64 ((wrap64 ((wrap64 (a0_0 * a3)) + (wrap64 (a0_1 * t345)))) + (wrap64 (a0_2 * x9_37)))) a0_3 t346 _ A47.out).mono ?_); rintro e w' ⟨rfl, ⟨nd, rfl⟩⟩; (try first | exact ⟨rfl, _, World.drewN_drewN _ _ _⟩ | exact ⟨rfl, _, Eq.trans (World.drewN_drewN _ _ _) (congrArg (World.drewN _) (Nat.add_assoc _ _ _))⟩))); try go_wp2_with (first | (go_at_call 40; (with_reducible refine (spec_l13Cut.calls (wrap64 (a1_1 + a3)) (wrap64 (-a0_5)) a0_5 t345 _ A46.out).mono ?_); rintro e w' ⟨rfl, ⟨nd, rfl⟩⟩; (try first | exact ⟨rfl, _, World.drewN_drewN _ _ _⟩ | exact ⟨rfl, _, Eq.trans (World.drewN_drewN _ _ _) (congrArg (World.drewN _) (Nat.add_assoc _ _ _))⟩)) | (go_at_call 39; (with_reducible refine (spec_l13Down.calls (wrap64 ((wrap64 ((wrap64 (a0_0 * a3)) + (wrap64 (a0_1 * t345)))) + (wrap64 (a0_2 * x9_37)))) a0_3 t346 _ A47.out).mono ?_); rintro e w' ⟨rfl, ⟨nd, rfl⟩⟩; (try first | exact ⟨rfl, _, World.drewN_drewN _ _ _⟩ | exact ⟨rfl, _, Eq.trans (World.drewN_drewN _ _ _) (congrArg (World.drewN _) (Nat.add_assoc _ _ _))⟩))))
          go_ret
          exact ⟨by first | rfl | (simp [errW_none, errW_some] <;> rfl) | (simp [*, errW_none, errW_some] <;> rfl), by repeat first | (with_reducible first | exact HB.out | refine bz ?_ (by assumption) | apply bA | apply bN | apply bD) | exact HB.out⟩
         ·rw [if_neg c57] at H
          have c57b0 : decide (a3 < 0) = false := decide_eq_false c57
          clear c57
          obtain rfl := Option.some.inj H
          have hnb64 := NB341_342.out
          have hnc64 := NB342_341.out
          have hnb65 := NB341_343.out
          have hnc65 := NB343_341.out
          have hcz66_0 : wc.cell? ⟨gb341, 0, none⟩ = some (.int .i64 a0_0) := (blk_cell BK341.out 0).trans rfl
          have hcz66_1 : wc.cell? ⟨gb341, 1, none⟩ = some (.int .i64 a0_1) := (blk_cell BK341.out 1).trans rfl
          have hcz66_2 : wc.cell? ⟨gb341, 2, none⟩ = some (.int .i64 a0_2) := (blk_cell BK341.out 2).trans rfl
          have hcz66_3 : wc.cell? ⟨gb341, 3, none⟩ = some (.int .i64 a0_3) := (blk_cell BK341.out 3).trans rfl
          have hcz66_4 : wc.cell? ⟨gb341, 4, none⟩ = some (.int .i64 a0_4) := (blk_cell BK341.out 4).trans rfl
          have hcz66_5 : wc.cell? ⟨gb341, 5, none⟩ = some (.int .i64 a0_5) := (blk_cell BK341.out 5).trans rfl
          have hcz66_6 : wc.cell? ⟨gb341, 6, none⟩ = some (.int .i64 a0_6) := (blk_cell BK341.out 6).trans rfl
          have hfz66_0 := blk_frozen BK341.out 0
          have hfz66_1 := blk_frozen BK341.out 1
          have hfz66_2 := blk_frozen BK341.out 2
          have hfz66_3 := blk_frozen BK341.out 3
          have hfz66_4 := blk_frozen BK341.out 4
          have hfz66_5 := blk_frozen BK341.out 5
          have hfz66_6 := blk_frozen BK341.out 6
          have hnb67 := NB342_343.out
          have hnc67 := NB343_342.out
          have hcz68_0 : wc.cell? ⟨gb342, 0, none⟩ = some (.bool a1_0) := (blk_cell BK342.out 0).trans rfl
          have hcz68_1 : wc.cell? ⟨gb342, 1, none⟩ = some (.int .i64 a1_1) := (blk_cell BK342.out 1).trans rfl
          have hcz68_2 : wc.cell? ⟨gb342, 2, none⟩ = some (.int .i64 a1_2) := (blk_cell BK342.out 2).trans rfl
          have hcz68_3 : wc.cell? ⟨gb342, 3, none⟩ = some (.int .i64 a1_3) := (blk_cell BK342.out 3).trans rfl
          have hfz68_0 := blk_frozen BK342.out 0
          have hfz68_1 := blk_frozen BK342.out 1
          have hfz68_2 := blk_frozen BK342.out 2
          have hfz68_3 := blk_frozen BK342.out 3
          go_wp2_with (first | (go_at_call 40; (with_reducible refine (spec_l13Cut.calls (wrap64 (a1_1 + a3)) (wrap64 (-a0_5)) a0_5 t345 _ A46.out).mono ?_); rintro e w' ⟨rfl, ⟨nd, rfl⟩⟩; (try first | exact ⟨rfl, _, World.drewN_drewN _ _ _⟩ | exact ⟨rfl, _, Eq.trans (World.drewN_drewN _ _ _) (congrArg (World.drewN _) (Nat.add_assoc _ _ _))⟩)) | (go_at_call 39; (with_reducible refine (spec_l13Down.calls (wrap64 ((wrap64 ((wrap64 (a0_0 * a3)) + (wrap64 (a0_1 * t345)))) + (wrap64 (a0_2 * x9_37)))) a0_3 t346 _ A47.out).mono ?_); rintro e w' ⟨rfl, ⟨nd, rfl⟩⟩; (try first | exact ⟨rfl, _, World.drewN_drewN _ _ _⟩ | exact ⟨rfl, _, Eq.trans (World.drewN_drewN _ _ _) (congrArg (World.drewN _) (Nat.add_assoc _ _ _))⟩)))
          repeat (go_quiet (first | (go_at_call 40; (with_reducible refine (spec_l13Cut.calls (wrap64 (a1_1 + a3)) (wrap64 (-a0_5)) a0_5 t345 _ A46.out).mono ?_); rintro e w' ⟨rfl, ⟨nd, rfl⟩⟩; (try first | exact ⟨rfl, _, World.drewN_drewN _ _ _⟩ | exact ⟨rfl, _, Eq.trans (World.drewN_drewN _ _ _) (congrArg (World.drewN _) (Nat.add_assoc _ _ _))⟩)) | (go_at_call 39; (with_reducible refine (spec_l13Down.calls (wrap64 ((wrap64 ((wrap64 (a0_0 * a3)) + (wrap64 (a0_1 * t345)))) + (wrap64 (a0_2 * x9_37)))) a0_3 t346 _ A47.out).mono ?_); rintro e w' ⟨rfl, ⟨nd, rfl⟩⟩; (try first | exact ⟨rfl, _, World.drewN_drewN _ _ _⟩ | exact ⟨rfl, _, Eq.trans (World.drewN_drewN _ _ _) (congrArg (World.drewN _) (Nat.add_assoc _ _ _))⟩))); try go_wp2_with (first | (go_at_call 40; (with_reducible refine (spec_l13Cut.calls (wrap64 (a1_1 + a3)) (wrap64 (-a0_5)) a0_5 t345 _ A46.out).mono ?_); rintro e w' ⟨rfl, ⟨nd, rfl⟩⟩; (try first | exact ⟨rfl, _, World.drewN_drewN _ _ _⟩ | exact ⟨rfl, _, Eq.trans (World.drewN_drewN _ _ _) (congrArg (World.drewN _) (Nat.add_assoc _ _ _))⟩)) | (go_at_call 39; (with_reducible refine (spec_l13Down.calls (wrap64 ((wrap64 ((wrap64 (a0_0 * a3)) + (wrap64 (a0_1 * t345)))) + (wrap64 (a0_2 * x9_37)))) a0_3 t346 _ A47.out).mono ?_); rintro e w' ⟨rfl, ⟨nd, rfl⟩⟩; (try first | exact ⟨rfl, _, World.drewN_drewN _ _ _⟩ | exact ⟨rfl, _, Eq.trans (World.drewN_drewN _ _ _) (congrArg (World.drewN _) (Nat.add_assoc _ _ _))⟩))))
          go_ret
          exact ⟨by first | rfl | (simp [errW_none, errW_some] <;> rfl) | (simp [*, errW_none, errW_some] <;> rfl), by repeat first | (with_reducible first | exact HB.out | refine bz ?_ (by assumption) | apply bA | apply bN | apply bD) | exact HB.out⟩
        ·rw [if_neg c56] at H
         have c56b0 : decide (t346 < (wrap64 (-a0_4))) = false := decide_eq_false c56
         clear c56
         obtain rfl := Option.some.inj H
         have hnb69 := NB341_342.out
         have hnc69 := NB342_341.out
         have hnb70 := NB341_343.out
         have hnc70 := NB343_341.out
         have hcz71_0 : wc.cell? ⟨gb341, 0, none⟩ = some (.int .i64 a0_0) := (blk_cell BK341.out 0).trans rfl
         have hcz71_1 : wc.cell? ⟨gb341, 1, none⟩ = some (.int .i64 a0_1) := (blk_cell BK341.out 1).trans rfl
         have hcz71_2 : wc.cell? ⟨gb341, 2, none⟩ = some (.int .i64 a0_2) := (blk_cell BK341.out 2).trans rfl
         have hcz71_3 : wc.cell? ⟨gb341, 3, none⟩ = some (.int .i64 a0_3) := (blk_cell BK341.out 3).trans rfl
         have hcz71_4 : wc.cell? ⟨gb341, 4, none⟩ = some (.int .i64 a0_4) := (blk_cell BK341.out 4).trans rfl
         have hcz71_5 : wc.cell? ⟨gb341, 5, none⟩ = some (.int .i64 a0_5) := (blk_cell BK341.out 5).trans rfl
         have hcz71_6 : wc.cell? ⟨gb341, 6, none⟩ = some (.int .i64 a0_6) := (blk_cell BK341.out 6).trans rfl
         have hfz71_0 := blk_frozen BK341.out 0
         have hfz71_1 := blk_frozen BK341.out 1
         have hfz71_2 := blk_frozen BK341.out 2
         have hfz71_3 := blk_frozen BK341.out 3
         have hfz71_4 := blk_frozen BK341.out 4
         have hfz71_5 := blk_frozen BK341.out 5
         have hfz71_6 := blk_frozen BK341.out 6
         have hnb72 := NB342_343.out
         have hnc72 := NB343_342.out
         have hcz73_0 : wc.cell? ⟨gb342, 0, none⟩ = some (.bool a1_0) := (blk_cell BK342.out 0).trans rfl
         have hcz73_1 : wc.cell? ⟨gb342, 1, none⟩ = some (.int .i64 a1_1) := (blk_cell BK342.out 1).trans rfl
         have hcz73_2 : wc.cell? ⟨gb342, 2, none⟩ = some (.int .i64 a1_2) := (blk_cell BK342.out 2).trans rfl
         have hcz73_3 : wc.cell? ⟨gb342, 3, none⟩ = some (.int .i64 a1_3) := (blk_cell BK342.out 3).trans rfl
         have hfz73_0 := blk_frozen BK342.out 0
         have hfz73_1 := blk_frozen BK342.out 1
         have hfz73_2 := blk_frozen BK342.out 2
         have hfz73_3 := blk_frozen BK342.out 3
         go_wp2_with (first | (go_at_call 40; (with_reducible refine (spec_l13Cut.calls (wrap64 (a1_1 + a3)) (wrap64 (-a0_5)) a0_5 t345 _ A46.out).mono ?_); rintro e w' ⟨rfl, ⟨nd, rfl⟩⟩; (try first | exact ⟨rfl, _, World.drewN_drewN _ _ _⟩ | exact ⟨rfl, _, Eq.trans (World.drewN_drewN _ _ _) (congrArg (World.drewN _) (Nat.add_assoc _ _ _))⟩)) | (go_at_call 39; (with_reducible refine (spec_l13Down.calls (wrap64 ((wrap64 ((wrap64 (a0_0 * a3)) + (wrap64 (a0_1 * t345)))) + (wrap64 (a0_2 * x9_37)))) a0_3 t346 _ A47.out).mono ?_); rintro e w' ⟨rfl, ⟨nd, rfl⟩⟩; (try first | exact ⟨rfl, _, World.drewN_drewN _ _ _⟩ | exact ⟨rfl, _, Eq.trans (World.drewN_drewN _ _ _) (congrArg (World.drewN _) (Nat.add_assoc _ _ _))⟩)))
         repeat (go_quiet (first | (go_at_call 40; (with_reducible refine (spec_l13Cut.calls (wrap64 (a1_1 + a3)) (wrap64 (-a0_5)) a0_5 t345 _ A46.out).mono ?_); rintro e w' ⟨rfl, ⟨nd, rfl⟩⟩; (try first | exact ⟨rfl, _, World.drewN_drewN _ _ _⟩ | exact ⟨rfl, _, Eq.trans (World.drewN_drewN _ _ _) (congrArg (World.drewN _) (Nat.add_assoc _ _ _))⟩)) | (go_at_call 39; (with_reducible refine (spec_l13Down.calls (wrap64 ((wrap64 ((wrap64 (a0_0 * a3)) + (wrap64 (a0_1 * t345)))) + (wrap64 (a0_2 * x9_37)))) a0_3 t346 _ A47.out).mono ?_); rintro e w' ⟨rfl, ⟨nd, rfl⟩⟩; (try first | exact ⟨rfl, _, World.drewN_drewN _ _ _⟩ | exact ⟨rfl, _, Eq.trans (World.drewN_drewN _ _ _) (congrArg (World.drewN _) (Nat.add_assoc _ _ _))⟩))); try go_wp2_with (first | (go_at_call 40; (with_reducible refine (spec_l13Cut.calls (wrap64 (a1_1 + a3)) (wrap64 (-a0_5)) a0_5 t345 _ A46.out).mono ?_); rintro e w' ⟨rfl, ⟨nd, rfl⟩⟩; (try first | exact ⟨rfl, _, World.drewN_drewN _ _ _⟩ | exact ⟨rfl, _, Eq.trans (World.drewN_drewN _ _ _) (congrArg (World.drewN _) (Nat.add_assoc _ _ _))⟩)) | (go_at_call 39; (with_reducible refine (spec_l13Down.calls (wrap64 ((wrap64 ((wrap64 (a0_0 * a3)) + (wrap64 (a0_1 * t345)))) + (wrap64 (a0_2 * x9_37)))) a0_3 t346 _ A47.out).mono ?_); rintro e w' ⟨rfl, ⟨nd, rfl⟩⟩; (try first | exact ⟨rfl, _, World.drewN_drewN _ _ _⟩ | exact ⟨rfl, _, Eq.trans (World.drewN_drewN _ _ _) (congrArg (World.drewN _) (Nat.add_assoc _ _ _))⟩))))
         go_ret
         exact ⟨by first | rfl | (simp [errW_none, errW_some] <;> rfl) | (simp [*, errW_none, errW_some] <;> rfl), by repeat first | (with_reducible first | exact HB.out | refine bz ?_ (by assumption) | apply bA | apply bN | apply bD) | exact HB.out⟩
      ·rw [if_neg c48] at H
       have c48b0 : decide (a0_4 < t346) = false := decide_eq_false c48
       clear c48
       by_cases c74 : t346 < (wrap64 (-a0_4))
       ·rw [if_pos c74] at H
        have c74b0 : decide (t346 < (wrap64 (-a0_4))) = true := decide_eq_true c74
        clear c74
        by_cases c75 : a3 < 0
        ·rw [if_pos c75] at H
         have c75b0 : decide (a3 < 0) = true := decide_eq_true c75
         clear c75
         obtain rfl := Option.some.inj H
         have hnb76 := NB341_342.out
         have hnc76 := NB342_341.out
         have hnb77 := NB341_343.out
         have hnc77 := NB343_341.out
         have hcz78_0 : wc.cell? ⟨gb341, 0, none⟩ = some (.int .i64 a0_0) := (blk_cell BK341.out 0).trans rfl
         have hcz78_1 : wc.cell? ⟨gb341, 1, none⟩ = some (.int .i64 a0_1) := (blk_cell BK341.out 1).trans rfl
         have hcz78_2 : wc.cell? ⟨gb341, 2, none⟩ = some (.int .i64 a0_2) := (blk_cell BK341.out 2).trans rfl
         have hcz78_3 : wc.cell? ⟨gb341, 3, none⟩ = some (.int .i64 a0_3) := (blk_cell BK341.out 3).trans rfl
         have hcz78_4 : wc.cell? ⟨gb341, 4, none⟩ = some (.int .i64 a0_4) := (blk_cell BK341.out 4).trans rfl
         have hcz78_5 : wc.cell? ⟨gb341, 5, none⟩ = some (.int .i64 a0_5) := (blk_cell BK341.out 5).trans rfl
         have hcz78_6 : wc.cell? ⟨gb341, 6, none⟩ = some (.int .i64 a0_6) := (blk_cell BK341.out 6).trans rfl
         have hfz78_0 := blk_frozen BK341.out 0
         have hfz78_1 := blk_frozen BK341.out 1
         have hfz78_2 := blk_frozen BK341.out 2
         have hfz78_3 := blk_frozen BK341.out 3
         have hfz78_4 := blk_frozen BK341.out 4
         have hfz78_5 := blk_frozen BK341.out 5
         have hfz78_6 := blk_frozen BK341.out 6
         have hnb79 := NB342_343.out
         have hnc79 := NB343_342.out
         have hcz80_0 : wc.cell? ⟨gb342, 0, none⟩ = some (.bool a1_0) := (blk_cell BK342.out 0).trans rfl
         have hcz80_1 : wc.cell? ⟨gb342, 1, none⟩ = some (.int .i64 a1_1) := (blk_cell BK342.out 1).trans rfl
         have hcz80_2 : wc.cell? ⟨gb342, 2, none⟩ = some (.int .i64 a1_2) := (blk_cell BK342.out 2).trans rfl
         have hcz80_3 : wc.cell? ⟨gb342, 3, none⟩ = some (.int .i64 a1_3) := (blk_cell BK342.out 3).trans rfl
         have hfz80_0 := blk_frozen BK342.out 0
         have hfz80_1 := blk_frozen BK342.out 1
         have hfz80_2 := blk_frozen BK342.out 2
         have hfz80_3 := blk_frozen BK342.out 3
         have hcz81_0 : wc.cell? ⟨gb343, 0, none⟩ = some (.bool a2_0) := (blk_cell BK343.out 0).trans rfl
         have hcz81_1 : wc.cell? ⟨gb343, 1, none⟩ = some (.int .i64 a2_1) := (blk_cell BK343.out 1).trans rfl
         have hcz81_2 : wc.cell? ⟨gb343, 2, none⟩ = some (.int .i64 a2_2) := (blk_cell BK343.out 2).trans rfl
         have hcz81_3 : wc.cell? ⟨gb343, 3, none⟩ = some (.int .i64 a2_3) := (blk_cell BK343.out 3).trans rfl
         have hfz81_0 := blk_frozen BK343.out 0
         have hfz81_1 := blk_frozen BK343.out 1
         have hfz81_2 := blk_frozen BK343.out 2
         have hfz81_3 := blk_frozen BK343.out 3
         go_wp2_with (first | (go_at_call 40; (with_reducible refine (spec_l13Cut.calls (wrap64 (a1_1 + a3)) (wrap64 (-a0_5)) a0_5 t345 _ A46.out).mono ?_); rintro e w' ⟨rfl, ⟨nd, rfl⟩⟩; (try first | exact ⟨rfl, _, World.drewN_drewN _ _ _⟩ | exact ⟨rfl, _, Eq.trans (World.drewN_drewN _ _ _) (congrArg (World.drewN _) (Nat.add_assoc _ _ _))⟩)) | (go_at_call 39; (with_reducible refine (spec_l13Down.calls (wrap64 ((wrap64 ((wrap64 (a0_0 * a3)) + (wrap64 (a0_1 * t345)))) + (wrap64 (a0_2 * x9_37)))) a0_3 t346 _ A47.out).mono ?_); rintro e w' ⟨rfl, ⟨nd, rfl⟩⟩; (try first | exact ⟨rfl, _, World.drewN_drewN _ _ _⟩ | exact ⟨rfl, _, Eq.trans (World.drewN_drewN _ _ _) (congrArg (World.drewN _) (Nat.add_assoc _ _ _))⟩)))
         repeat (go_quiet (first | (go_at_call 40; (with_reducible refine (spec_l13Cut.calls (wrap64 (a1_1 + a3)) (wrap64 (-a0_5)) a0_5 t345 _ A46.out).mono ?_); rintro e w' ⟨rfl, ⟨nd, rfl⟩⟩; (try first | exact ⟨rfl, _, World.drewN_drewN _ _ _⟩ | exact ⟨rfl, _, Eq.trans (World.drewN_drewN _ _ _) (congrArg (World.drewN _) (Nat.add_assoc _ _ _))⟩)) | (go_at_call 39; (with_reducible refine (spec_l13Down.calls (wrap64 ((wrap64 ((wrap64 (a0_0 * a3)) + (wrap64 (a0_1 * t345)))) + (wrap64 (a0_2 * x9_37)))) a0_3 t346 _ A47.out).mono ?_); rintro e w' ⟨rfl, ⟨nd, rfl⟩⟩; (try first | exact ⟨rfl, _, World.drewN_drewN _ _ _⟩ | exact ⟨rfl, _, Eq.trans (World.drewN_drewN _ _ _) (congrArg (World.drewN _) (Nat.add_assoc _ _ _))⟩))); try go_wp2_with (first | (go_at_call 40; (with_reducible refine (spec_l13Cut.calls (wrap64 (a1_1 + a3)) (wrap64 (-a0_5)) a0_5 t345 _ A46.out).mono ?_); rintro e w' ⟨rfl, ⟨nd, rfl⟩⟩; (try first | exact ⟨rfl, _, World.drewN_drewN _ _ _⟩ | exact ⟨rfl, _, Eq.trans (World.drewN_drewN _ _ _) (congrArg (World.drewN _) (Nat.add_assoc _ _ _))⟩)) | (go_at_call 39; (with_reducible refine (spec_l13Down.calls (wrap64 ((wrap64 ((wrap64 (a0_0 * a3)) + (wrap64 (a0_1 * t345)))) + (wrap64 (a0_2 * x9_37)))) a0_3 t346 _ A47.out).mono ?_); rintro e w' ⟨rfl, ⟨nd, rfl⟩⟩; (try first | exact ⟨rfl, _, World.drewN_drewN _ _ _⟩ | exact ⟨rfl, _, Eq.trans (World.drewN_drewN _ _ _) (congrArg (World.drewN _) (Nat.add_assoc _ _ _))⟩))))
         go_ret
         exact ⟨by first | rfl | (simp [errW_none, errW_some] <;> rfl) | (simp [*, errW_none, errW_some] <;> rfl), by repeat first | (with_reducible first | exact HB.out | refine bz ?_ (by assumption) | apply bA | apply bN | apply bD) | exact HB.out⟩
        ·rw [if_neg c75] at H
         have c75b0 : decide (a3 < 0) = false := decide_eq_false c75
         clear c75
         obtain rfl := Option.some.inj H
         have hnb82 := NB341_342.out
         have hnc82 := NB342_341.out
         have hnb83 := NB341_343.out
         have hnc83 := NB343_341.out
         have hcz84_0 : wc.cell? ⟨gb341, 0, none⟩ = some (.int .i64 a0_0) := (blk_cell BK341.out 0).trans rfl
         have hcz84_1 : wc.cell? ⟨gb341, 1, none⟩ = some (.int .i64 a0_1) := (blk_cell BK341.out 1).trans rfl
         have hcz84_2 : wc.cell? ⟨gb341, 2, none⟩ = some (.int .i64 a0_2) := (blk_cell BK341.out 2).trans rfl
         have hcz84_3 : wc.cell? ⟨gb341, 3, none⟩ = some (.int .i64 a0_3) := (blk_cell BK341.out 3).trans rfl
         have hcz84_4 : wc.cell? ⟨gb341, 4, none⟩ = some (.int .i64 a0_4) := (blk_cell BK341.out 4).trans rfl
         have hcz84_5 : wc.cell? ⟨gb341, 5, none⟩ = some (.int .i64 a0_5) := (blk_cell BK341.out 5).trans rfl
         have hcz84_6 : wc.cell? ⟨gb341, 6, none⟩ = some (.int .i64 a0_6) := (blk_cell BK341.out 6).trans rfl
         have hfz84_0 := blk_frozen BK341.out 0
         have hfz84_1 := blk_frozen BK341.out 1
         have hfz84_2 := blk_frozen BK341.out 2
         have hfz84_3 := blk_frozen BK341.out 3
         have hfz84_4 := blk_frozen BK341.out 4
         have hfz84_5 := blk_frozen BK341.out 5
         have hfz84_6 := blk_frozen BK341.out 6
         have hnb85 := NB342_343.out
         have hnc85 := NB343_342.out
         have hcz86_0 : wc.cell? ⟨gb342, 0, none⟩ = some (.bool a1_0) := (blk_cell BK342.out 0).trans rfl
         have hcz86_1 : wc.cell? ⟨gb342, 1, none⟩ = some (.int .i64 a1_1) := (blk_cell BK342.out 1).trans rfl
         have hcz86_2 : wc.cell? ⟨gb342, 2, none⟩ = some (.int .i64 a1_2) := (blk_cell BK342.out 2).trans rfl
         have hcz86_3 : wc.cell? ⟨gb342, 3, none⟩ = some (.int .i64 a1_3) := (blk_cell BK342.out 3).trans rfl
         have hfz86_0 := blk_frozen BK342.out 0
         have hfz86_1 := blk_frozen BK342.out 1
         have hfz86_2 := blk_frozen BK342.out 2
         have hfz86_3 := blk_frozen BK342.out 3
         go_wp2_with (first | (go_at_call 40; (with_reducible refine (spec_l13Cut.calls (wrap64 (a1_1 + a3)) (wrap64 (-a0_5)) a0_5 t345 _ A46.out).mono ?_); rintro e w' ⟨rfl, ⟨nd, rfl⟩⟩; (try first | exact ⟨rfl, _, World.drewN_drewN _ _ _⟩ | exact ⟨rfl, _, Eq.trans (World.drewN_drewN _ _ _) (congrArg (World.drewN _) (Nat.add_assoc _ _ _))⟩)) | (go_at_call 39; (with_reducible refine (spec_l13Down.calls (wrap64 ((wrap64 ((wrap64 (a0_0 * a3)) + (wrap64 (a0_1 * t345)))) + (wrap64 (a0_2 * x9_37)))) a0_3 t346 _ A47.out).mono ?_); rintro e w' ⟨rfl, ⟨nd, rfl⟩⟩; (try first | exact ⟨rfl, _, World.drewN_drewN _ _ _⟩ | exact ⟨rfl, _, Eq.trans (World.drewN_drewN _ _ _) (congrArg (World.drewN _) (Nat.add_assoc _ _ _))⟩)))
         repeat (go_quiet (first | (go_at_call 40; (with_reducible refine (spec_l13Cut.calls (wrap64 (a1_1 + a3)) (wrap64 (-a0_5)) a0_5 t345 _ A46.out).mono ?_); rintro e w' ⟨rfl, ⟨nd, rfl⟩⟩; (try first | exact ⟨rfl, _, World.drewN_drewN _ _ _⟩ | exact ⟨rfl, _, Eq.trans (World.drewN_drewN _ _ _) (congrArg (World.drewN _) (Nat.add_assoc _ _ _))⟩)) | (go_at_call 39; (with_reducible refine (spec_l13Down.calls (wrap64 ((wrap64 ((wrap64 (a0_0 * a3)) + (wrap64 (a0_1 * t345)))) + (wrap64 (a0_2 * x9_37)))) a0_3 t346 _ A47.out).mono ?_); rintro e w' ⟨rfl, ⟨nd, rfl⟩⟩; (try first | exact ⟨rfl, _, World.drewN_drewN _ _ _⟩ | exact ⟨rfl, _, Eq.trans (World.drewN_drewN _ _ _) (congrArg (World.drewN _) (Nat.add_assoc _ _ _))⟩))); try go_wp2_with (first | (go_at_call 40; (with_reducible refine (spec_l13Cut.calls (wrap64 (a1_1 + a3)) (wrap64 (-a0_5)) a0_5 t345 _ A46.out).mono ?_); rintro e w' ⟨rfl, ⟨nd, rfl⟩⟩; (try first | exact ⟨rfl, _, World.drewN_drewN _ _ _⟩ | exact ⟨rfl, _, Eq.trans (World.drewN_drewN _ _ _) (congrArg (World.drewN _) (Nat.add_assoc _ _ _))⟩)) | (go_at_call 39; (with_reducible refine (spec_l13Down.calls (wrap64 ((wrap64 ((wrap64 (a0_0 * a3)) + (wrap64 (a0_1 * t345)))) + (wrap64 (a0_2 * x9_37)))) a0_3 t346 _ A47.out).mono ?_); rintro e w' ⟨rfl, ⟨nd, rfl⟩⟩; (try first | exact ⟨rfl, _, World.drewN_drewN _ _ _⟩ | exact ⟨rfl, _, Eq.trans (World.drewN_drewN _ _ _) (congrArg (World.drewN _) (Nat.add_assoc _ _ _))⟩))))
         go_ret
         exact ⟨by first | rfl | (simp [errW_none, errW_some] <;> rfl) | (simp [*, errW_none, errW_some] <;> rfl), by repeat first | (with_reducible first | exact HB.out | refine bz ?_ (by assumption) | apply bA | apply bN | apply bD) | exact HB.out⟩
       ·rw [if_neg c74] at H
        have c74b0 : decide (t346 < (wrap64 (-a0_4))) = false := decide_eq_false c74
        clear c74
        obtain rfl := Option.some.inj H
        have hnb87 := NB341_342.out
        have hnc87 := NB342_341.out
        have hnb88 := NB341_343.out
        have hnc88 := NB343_341.out
        have hcz89_0 : wc.cell? ⟨gb341, 0, none⟩ = some (.int .i64 a0_0) := (blk_cell BK341.out 0).trans rfl
        have hcz89_1 : wc.cell? ⟨gb341, 1, none⟩ = some (.int .i64 a0_1) := (blk_cell BK341.out 1).trans rfl
        have hcz89_2 : wc.cell? ⟨gb341, 2, none⟩ = some (.int .i64 a0_2) := (blk_cell BK341.out 2).trans rfl
        have hcz89_3 : wc.cell? ⟨gb341, 3, none⟩ = some (.int .i64 a0_3) := (blk_cell BK341.out 3).trans rfl
        have hcz89_4 : wc.cell? ⟨gb341, 4, none⟩ = some (.int .i64 a0_4) := (blk_cell BK341.out 4).trans rfl
        have hcz89_5 : wc.cell? ⟨gb341, 5, none⟩ = some (.int .i64 a0_5) := (blk_cell BK341.out 5).trans rfl
        have hcz89_6 : wc.cell? ⟨gb341, 6, none⟩ = some (.int .i64 a0_6) := (blk_cell BK341.out 6).trans rfl
        have hfz89_0 := blk_frozen BK341.out 0
        have hfz89_1 := blk_frozen BK341.out 1
        have hfz89_2 := blk_frozen BK341.out 2
        have hfz89_3 := blk_frozen BK341.out 3
        have hfz89_4 := blk_frozen BK341.out 4
        have hfz89_5 := blk_frozen BK341.out 5
        have hfz89_6 := blk_frozen BK341.out 6
        have hnb90 := NB342_343.out
        have hnc90 := NB343_342.out
        have hcz91_0 : wc.cell? ⟨gb342, 0, none⟩ = some (.bool a1_0) := (blk_cell BK342.out 0).trans rfl
        have hcz91_1 : wc.cell? ⟨gb342, 1, none⟩ = some (.int .i64 a1_1) := (blk_cell BK342.out 1).trans rfl
        have hcz91_2 : wc.cell? ⟨gb342, 2, none⟩ = some (.int .i64 a1_2) := (blk_cell BK342.out 2).trans rfl
        have hcz91_3 : wc.cell? ⟨gb342, 3, none⟩ = some (.int .i64 a1_3) := (blk_cell BK342.out 3).trans rfl
        have hfz91_0 := blk_frozen BK342.out 0
        have hfz91_1 := blk_frozen BK342.out 1
        have hfz91_2 := blk_frozen BK342.out 2
        have hfz91_3 := blk_frozen BK342.out 3
        go_wp2_with (first | (go_at_call 40; (with_reducible refine (spec_l13Cut.calls (wrap64 (a1_1 + a3)) (wrap64 (-a0_5)) a0_5 t345 _ A46.out).mono ?_); rintro e w' ⟨rfl, ⟨nd, rfl⟩⟩; (try first | exact ⟨rfl, _, World.drewN_drewN _ _ _⟩ | exact ⟨rfl, _, Eq.trans (World.drewN_drewN _ _ _) (congrArg (World.drewN _) (Nat.add_assoc _ _ _))⟩)) | (go_at_call 39; (with_reducible refine (spec_l13Down.calls (wrap64 ((wrap64 ((wrap64 (a0_0 * a3)) + (wrap64 (a0_1 * t345)))) + (wrap64 (a0_2 * x9_37)))) a0_3 t346 _ A47.out).mono ?_); rintro e w' ⟨rfl, ⟨nd, rfl⟩⟩; (try first | exact ⟨rfl, _, World.drewN_drewN _ _ _⟩ | exact ⟨rfl, _, Eq.trans (World.drewN_drewN _ _ _) (congrArg (World.drewN _) (Nat.add_assoc _ _ _))⟩)))
        repeat (go_quiet (first | (go_at_call 40; (with_reducible refine (spec_l13Cut.calls (wrap64 (a1_1 + a3)) (wrap64 (-a0_5)) a0_5 t345 _ A46.out).mono ?_); rintro e w' ⟨rfl, ⟨nd, rfl⟩⟩; (try first | exact ⟨rfl, _, World.drewN_drewN _ _ _⟩ | exact ⟨rfl, _, Eq.trans (World.drewN_drewN _ _ _) (congrArg (World.drewN _) (Nat.add_assoc _ _ _))⟩)) | (go_at_call 39; (with_reducible refine (spec_l13Down.calls (wrap64 ((wrap64 ((wrap64 (a0_0 * a3)) + (wrap64 (a0_1 * t345)))) + (wrap64 (a0_2 * x9_37)))) a0_3 t346 _ A47.out).mono ?_); rintro e w' ⟨rfl, ⟨nd, rfl⟩⟩; (try first | exact ⟨rfl, _, World.drewN_drewN _ _ _⟩ | exact ⟨rfl, _, Eq.trans (World.drewN_drewN _ _ _) (congrArg (World.drewN _) (Nat.add_assoc _ _ _))⟩))); try go_wp2_with (first | (go_at_call 40; (with_reducible refine (spec_l13Cut.calls (wrap64 (a1_1 + a3)) (wrap64 (-a0_5)) a0_5 t345 _ A46.out).mono ?_); rintro e w' ⟨rfl, ⟨nd, rfl⟩⟩; (try first | exact ⟨rfl, _, World.drewN_drewN _ _ _⟩ | exact ⟨rfl, _, Eq.trans (World.drewN_drewN _ _ _) (congrArg (World.drewN _) (Nat.add_assoc _ _ _))⟩)) | (go_at_call 39; (with_reducible refine (spec_l13Down.calls (wrap64 ((wrap64 ((wrap64 (a0_0 * a3)) + (wrap64 (a0_1 * t345)))) + (wrap64 (a0_2 * x9_37)))) a0_3 t346 _ A47.out).mono ?_); rintro e w' ⟨rfl, ⟨nd, rfl⟩⟩; (try first | exact ⟨rfl, _, World.drewN_drewN _ _ _⟩ | exact ⟨rfl, _, Eq.trans (World.drewN_drewN _ _ _) (congrArg (World.drewN _) (Nat.add_assoc _ _ _))⟩))))
        go_ret
        exact ⟨by first | rfl | (simp [errW_none, errW_some] <;> rfl) | (simp [*, errW_none, errW_some] <;> rfl), by repeat first | (with_reducible first | exact HB.out | refine bz ?_ (by assumption) | apply bA | apply bN | apply bD) | exact HB.out⟩

end Go.Proofs.Ytineniimpdjpnaa.PFnHold
