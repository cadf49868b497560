-- Written by a program of this session out of the loaded functions' print; helper lemmas as print.sh lays them.
import Derived.Test.YtineniimpdjpnaaUp2
import Derived.Test.YtineniimpdjpnaaUp
import Derived.Test.YtineniimpdjpnaaRFnHoldx0
import Derived.Test.YtineniimpdjpnaaRFnHoldx8
import Derived.Test.YtineniimpdjpnaaRFnHoldx9
namespace Go.Proofs.Ytineniimpdjpnaa.PFnHold
open Go.RowKit Go.Proofs.YtineniimpdjpnaaW.PrintWords Go.Proofs.YtineniimpdjpnaaW.PrintLast Go.Proofs.YtineniimpdjpnaaW.PrintMore
attribute [local go_sem] max2_int min2_int max_two min_two max_three min_three max_four min_four  -- for this text's walks alone
set_option linter.unusedVariables false
set_option linter.unusedSimpArgs false

/-! ### spec_DrawRunHold: function 21 -/
def spec_DrawRunHold.j0 : Nat → Int → List Int → Int → Int → Int → Int → Int → Int → Int → Int → Int → Option (Int × Int × Int × Int × Int × Int × Int × Bool × Int × Int × Int × List Int × List Int)
 | 0, _, _, _, _, _, _, _, _, _, _, _ => none
 | k + 1, x8, x292000, x292001, x292002, x302000, x302001, x302002, x302003, x302004, x302005, x302006 => (spec_l1Cur_levels.f k x292000 x292001 x292002 x8).bind fun bt311 => ((spec_l1Cur_one.f x292000 bt311.2.1 bt311.2.2 24).bind fun bt316 => (if bt316.1 = true then ((spec_l1Cur_hold.f k x292000 bt316.2.1 bt316.2.2 x302000 x302001 x302002 x302003 x302004 x302005 x302006).bind fun bt319 => ((spec_l1Cur_levels.f k x292000 bt319.2.2.2.2.1 bt319.2.2.2.2.2 (wrap64 (x8 + 1))).bind fun bt325 => (some (x302000, x302001, x302002, x302003, x302004, x302005, x302006, bt319.1, bt319.2.1, bt319.2.2.1, bt319.2.2.2.1, bt311.1, bt325.1)))) else ((spec_l1Cur_hold.f k x292000 bt316.2.1 bt316.2.2 x302000 x302001 x302002 x302003 x302004 x302005 x302006).bind fun bt330 => ((spec_l1Cur_levels.f k x292000 bt330.2.2.2.2.1 bt330.2.2.2.2.2 x8).bind fun bt336 => (some (x302000, x302001, x302002, x302003, x302004, x302005, x302006, bt330.1, bt330.2.1, bt330.2.2.1, bt330.2.2.2.1, bt311.1, bt336.1))))))
def spec_DrawRunHold.f (k : Nat) (l0 : List Int) : Option (Int × Int × Int × Int × Int × Int × Int × Bool × Int × Int × Int × List Int × List Int) := (spec_l1Cur_loop.f l0 0 0).bind fun bt292 => ((spec_l1Cur_pick.f l0 bt292.2.2.2.2.2.2.2.1 bt292.2.2.2.2.2.2.2.2 9).bind fun bt302 => ((spec_l1Cur_one.f l0 bt302.2.1 bt302.2.2 20).bind fun bt305 => (if bt305.1 = true then ((spec_l1Cur_pick.f l0 bt305.2.1 bt305.2.2 3).bind fun bt308 => (spec_DrawRunHold.j0 k (wrap64 (59 + bt308.1)) l0 bt308.2.1 bt308.2.2 bt292.1 bt292.2.1 bt292.2.2.1 bt292.2.2.2.1 bt292.2.2.2.2.1 bt292.2.2.2.2.2.1 bt292.2.2.2.2.2.2.1)) else (spec_DrawRunHold.j0 k bt302.1 l0 bt305.2.1 bt305.2.2 bt292.1 bt292.2.1 bt292.2.2.1 bt292.2.2.2.1 bt292.2.2.2.2.1 bt292.2.2.2.2.2.1 bt292.2.2.2.2.2.2.1))))
theorem spec_DrawRunHold.mono_l : ∀ k, (∀ y0 y1 y2 y3 y4 y5 y6 y7 y8 y9 y10, LeO (spec_DrawRunHold.j0 k y0 y1 y2 y3 y4 y5 y6 y7 y8 y9 y10) (spec_DrawRunHold.j0 (k + 1) y0 y1 y2 y3 y4 y5 y6 y7 y8 y9 y10))
 | 0 => fun _ _ _ _ _ _ _ _ _ _ _ r h => by simp [spec_DrawRunHold.j0] at h
 | k + 1 => by
  have ih0 := spec_DrawRunHold.mono_l k
  ·intro y0 y1 y2 y3 y4 y5 y6 y7 y8 y9 y10
   unfold spec_DrawRunHold.j0
   repeat' first
   | (with_reducible exact ih0 _ _ _ _ _ _ _ _ _ _ _)
   | (with_reducible exact spec_l1Cur_hold.mono _ _ _ _ _ _ _ _ _ _ _)
   | (with_reducible exact spec_l1Cur_levels.mono _ _ _ _ _)
   | (with_reducible exact LeO.refl _)
   | (with_reducible exact LeO.none _)
   | (with_reducible refine LeO.ite ?_ ?_)
   | (with_reducible refine LeO.bind ?_ (fun _ => ?_))
   | exact ih0 _ _ _ _ _ _ _ _ _ _ _
   | exact spec_l1Cur_hold.mono _ _ _ _ _ _ _ _ _ _ _
   | exact spec_l1Cur_levels.mono _ _ _ _ _
   | exact LeO.none _
   | refine LeO.ite ?_ ?_
   | refine LeO.bind ?_ (fun _ => ?_)
theorem spec_DrawRunHold.mono : ∀ a0 k, LeO (spec_DrawRunHold.f k a0) (spec_DrawRunHold.f (k + 1) a0) := by
 intro a0 k
 have ih0 := spec_DrawRunHold.mono_l k
 unfold spec_DrawRunHold.f
 repeat' first
   | (with_reducible exact ih0 _ _ _ _ _ _ _ _ _ _ _)
   | (with_reducible exact spec_l1Cur_hold.mono _ _ _ _ _ _ _ _ _ _ _)
   | (with_reducible exact spec_l1Cur_levels.mono _ _ _ _ _)
   | (with_reducible exact LeO.refl _)
   | (with_reducible exact LeO.none _)
   | (with_reducible refine LeO.ite ?_ ?_)
   | (with_reducible refine LeO.bind ?_ (fun _ => ?_))
   | exact ih0 _ _ _ _ _ _ _ _ _ _ _
   | exact spec_l1Cur_hold.mono _ _ _ _ _ _ _ _ _ _ _
   | exact spec_l1Cur_levels.mono _ _ _ _ _
   | exact LeO.none _
   | refine LeO.ite ?_ ?_
   | refine LeO.bind ?_ (fun _ => ?_)
def spec_DrawRunHold.T9 : Bool × List (List Nat × List Nat) := (true, [([], []), ([], []), ([], []), ([1, 2], [1, 2]), ([], []), ([], []), ([], []), ([5, 6, 3], [5, 6]), ([0, 7, 0], [0]), ([3, 8, 0, 1, 2, 3, 8], [3]), ([4, 9, 0, 1, 2, 3, 4, 8, 9], [4]), ([7, 10, 0, 1, 2, 3, 4, 5, 6, 7, 8, 9, 10], [7])])
def spec_DrawRunHold.B9 : List Nat := [0, 0, 0, 6, 0, 0, 0, 110, 239, 495, 1023, 2047]
theorem spec_DrawRunHold.tab9 : rtab .any (opsOf Try.f21 9) = spec_DrawRunHold.T9 := by kernel_rfl
theorem spec_DrawRunHold.bits9 : waitsOk spec_DrawRunHold.T9.2 spec_DrawRunHold.B9 = true := by kernel_rfl
set_option maxHeartbeats 8000000 in
set_option maxRecDepth 100000 in
theorem spec_DrawRunHold.calls (k : Nat) (A0 : Option Addr) (c0 : Nat) (l0 : List Int) (r1 : Int) (r2 : Int) (r3 : Int) (r4 : Int) (r5 : Int) (r6 : Int) (r7 : Int) (r8 : Bool) (r9 : Int) (r10 : Int) (r11 : Int) (r12 : List Int) (r13 : List Int) (w : World) (hr0 : Kd.C (Kd.int .u8) w A0 l0.length l0) (hc0 : l0.length ≤ c0) (h : spec_DrawRunHold.f k l0 = some (r1, r2, r3, r4, r5, r6, r7, r8, r9, r10, r11, r12, r13)) :
  Calls Try.prog 21 #[.slice A0 l0.length c0] w fun e w' => ∃ v11_ v12_ : Value, e = .returned (.tuple #[.agg #[.int .i64 r1, .int .i64 r2, .int .i64 r3, .int .i64 r4, .int .i64 r5, .int .i64 r6, .int .i64 r7], .agg #[.bool r8, .int .i64 r9, .int .i64 r10, .int .i64 r11], v11_, v12_]) ∧ Kd.R (Kd.int .i64) 3 w' w.heap.size (fun k_ => N_ v12_ k_) v11_ r12 ∧ Kd.R (Kd.int .i64) 3 w' w.heap.size (fun k_ => N_ v11_ k_) v12_ r13 ∧ Below w.heap.size w w' := by
 have hu30 := Try.underlying30
 have hu27 := Try.underlying27
 have hu61 := Try.underlying61
 have HR0 := Aside0.mk hr0
 have HC0 := Aside0.mk hc0
 clear hr0 hc0
 have HB := a_ (Below.refl w.heap.size w)
 have H : ((spec_l1Cur_loop.f l0 0 0).bind fun bt292 => ((spec_l1Cur_pick.f l0 bt292.2.2.2.2.2.2.2.1 bt292.2.2.2.2.2.2.2.2 9).bind fun bt302 => ((spec_l1Cur_one.f l0 bt302.2.1 bt302.2.2 20).bind fun bt305 => (if bt305.1 = true then ((spec_l1Cur_pick.f l0 bt305.2.1 bt305.2.2 3).bind fun bt308 => (spec_DrawRunHold.j0 k (wrap64 (59 + bt308.1)) l0 bt308.2.1 bt308.2.2 bt292.1 bt292.2.1 bt292.2.2.1 bt292.2.2.2.1 bt292.2.2.2.2.1 bt292.2.2.2.2.2.1 bt292.2.2.2.2.2.2.1)) else (spec_DrawRunHold.j0 k bt302.1 l0 bt305.2.1 bt305.2.2 bt292.1 bt292.2.1 bt292.2.2.1 bt292.2.2.2.1 bt292.2.2.2.2.1 bt292.2.2.2.2.2.1 bt292.2.2.2.2.2.2.1))))) = some (r1, r2, r3, r4, r5, r6, r7, r8, r9, r10, r11, r12, r13) := h
 clear h
 replace H := Option.bind_eq_some_iff.mp H
 obtain ⟨⟨t292, t293, t294, t295, t296, t297, t298, t299, t300⟩, A20, H⟩ := H
 replace H : ((spec_l1Cur_pick.f l0 t299 t300 9).bind fun bt302 => ((spec_l1Cur_one.f l0 bt302.2.1 bt302.2.2 20).bind fun bt305 => (if bt305.1 = true then ((spec_l1Cur_pick.f l0 bt305.2.1 bt305.2.2 3).bind fun bt308 => (spec_DrawRunHold.j0 k (wrap64 (59 + bt308.1)) l0 bt308.2.1 bt308.2.2 t292 t293 t294 t295 t296 t297 t298)) else (spec_DrawRunHold.j0 k bt302.1 l0 bt305.2.1 bt305.2.2 t292 t293 t294 t295 t296 t297 t298)))) = some (r1, r2, r3, r4, r5, r6, r7, r8, r9, r10, r11, r12, r13) := H
 have A2 := Aside0.mk A20
 clear A20
 replace H := Option.bind_eq_some_iff.mp H
 obtain ⟨⟨t302, t303, t304⟩, A30, H⟩ := H
 replace H : ((spec_l1Cur_one.f l0 t303 t304 20).bind fun bt305 => (if bt305.1 = true then ((spec_l1Cur_pick.f l0 bt305.2.1 bt305.2.2 3).bind fun bt308 => (spec_DrawRunHold.j0 k (wrap64 (59 + bt308.1)) l0 bt308.2.1 bt308.2.2 t292 t293 t294 t295 t296 t297 t298)) else (spec_DrawRunHold.j0 k t302 l0 bt305.2.1 bt305.2.2 t292 t293 t294 t295 t296 t297 t298))) = some (r1, r2, r3, r4, r5, r6, r7, r8, r9, r10, r11, r12, r13) := H
 have A3 := Aside0.mk A30
 clear A30
 replace H := Option.bind_eq_some_iff.mp H
 obtain ⟨⟨t305, t306, t307⟩, A40, H⟩ := H
 replace H : (if t305 = true then ((spec_l1Cur_pick.f l0 t306 t307 3).bind fun bt308 => (spec_DrawRunHold.j0 k (wrap64 (59 + bt308.1)) l0 bt308.2.1 bt308.2.2 t292 t293 t294 t295 t296 t297 t298)) else (spec_DrawRunHold.j0 k t302 l0 t306 t307 t292 t293 t294 t295 t296 t297 t298)) = some (r1, r2, r3, r4, r5, r6, r7, r8, r9, r10, r11, r12, r13) := H
 have A4 := Aside0.mk A40
 clear A40
 have HC5 := Aside0.mk H
 clear H
 go_enter Try.func21, Try.ntmps21
 go_upto_if 18 with (first | ((with_reducible refine gate_dst (N := 2) rfl ?_); refine box_event ?hg (N := 2) ?hd (cs := #[.int .i64 0, .int .i64 0, .int .i64 0, .int .i64 0, .int .i64 0, .int .i64 0, .int .i64 0]) (t := 30) ?hr ?_; (case hd => rfl); (case hg => rfl); (case hr => first | (go_simp; done) | (go_simp; rfl)); intro gb289 hg w6 hbox hb; have BK289 := a_ (hbox); have GW289 := a_ (bsg hg HB.out); have GE289 := a_ (bsg hg HB.out); replace HB := a_ (below_step (un HB.out) hb); clear hb hbox hg) | ((with_reducible refine gate_dst (N := 3) rfl ?_); refine box_event ?hg (N := 3) ?hd (cs := #[.bool false, .int .i64 0, .int .i64 0, .int .i64 0]) (t := 27) ?hr ?_; (case hd => rfl); (case hg => rfl); (case hr => first | (go_simp; done) | (go_simp; rfl)); intro gb290 hg w7 hbox hb; have BK290 := a_ (hbox); have GW290 := a_ (bsg hg HB.out); have GE290 := a_ (bsg hg HB.out); replace HB := a_ (below_step (by repeat first | (with_reducible first | exact HB.out | refine bz ?_ (by assumption) | apply bA | apply bN | apply bD) | exact HB.out) hb); have NB289_290 := a_ (nel hg BK289.out); have NB290_289 := a_ (nle hg BK289.out); replace BK289 := a_ (blk_below (pk BK289.out) hb); clear hb hbox hg) | ((with_reducible refine gate_dst (N := 12) rfl ?_); refine box_event ?hg (N := 12) ?hd (cs := #[.slice A0 l0.length c0, .int .i64 0, .int .u64 0]) (t := 61) ?hr ?_; (case hd => rfl); (case hg => rfl); (case hr => first | (go_simp; done) | (go_simp; rfl)); intro gb291 hg w8 hbox hb; have GW291 := a_ (bsg hg HB.out); have GE291 := a_ (bsg hg HB.out); have NB289_291 := a_ (nel hg BK289.out); have NB291_289 := a_ (nle hg BK289.out); replace BK289 := a_ (blk_below (pk BK289.out) hb); have NB290_291 := a_ (nel hg BK290.out); have NB291_290 := a_ (nle hg BK290.out); replace BK290 := a_ (blk_below (pk BK290.out) hb); have HI291 := a_ (show IsS61 w w8 gb291 l0 0 0 from ⟨_, _, hbox, (by rw [hg]; exact (below_size (by repeat first | (with_reducible first | exact HB.out | refine bz ?_ (by assumption) | apply bA | apply bN | apply bD) | exact HB.out)) : w.heap.size ≤ gb291), HR0.out⟩); replace HB := a_ (below_step (by repeat first | (with_reducible first | exact HB.out | refine bz ?_ (by assumption) | apply bA | apply bN | apply bD) | exact HB.out) hb); clear hb hbox hg) | ((with_reducible refine gate_callee (f := 28) rfl ?_); refine goesL_ (some 14) rfl rfl Try.func28 (by kernel_rfl) rfl #[.pointer (some ⟨gb291, 0, none⟩)] rfl (by (try simp only [lA, lB, lC]); first | done | rfl | (simp only [lD, lE]; rfl)) ?_; (with_reducible refine (spec_l1Cur_loop.calls gb291 l0 0 0 t292 t293 t294 t295 t296 t297 t298 t299 t300 w _ ?side1 ?side2 A2.out).mono ?_); (case side1 => repeat (first | (with_reducible first | exact HI291.out | apply IsS61.alloc | apply IsS61.drewN | apply IsS61.drew | apply IsS61.set_1 | apply IsS61.set_2 | refine IsS61.far ?_ NB291_289.out _ | refine IsS61.far ?_ NB291_290.out _) | exact HI291.out)); (case side2 => repeat (first | (with_reducible first | exact HB.out | apply below_alloc | apply pw_below_drewN | apply below_drew1 | refine below_set ?_ (IsS61.ge HI291.out) | refine below_set ?_ GE289.out | refine below_set ?_ GE290.out) | exact HB.out)); rintro e w9 ⟨rfl, hi, hb, hk⟩; refine ⟨_, rfl, ?_⟩; replace BK289 := a_ (KeepBut.blk hk (g' := gb289) (o := .cells #[.int .i64 0, .int .i64 0, .int .i64 0, .int .i64 0, .int .i64 0, .int .i64 0, .int .i64 0] 30 (0, 0)) (pk BK289.out) NB289_291.out (by simp)); replace BK290 := a_ (KeepBut.blk hk (g' := gb290) (o := .cells #[.bool false, .int .i64 0, .int .i64 0, .int .i64 0] 27 (0, 0)) (pk BK290.out) NB290_291.out (by simp)); replace HB := a_ (hb); replace HI291 := a_ (hi); clear hb hk hi) | ((with_reducible refine gate_dst (N := 7) rfl ?_); refine box_event ?hg (N := 7) ?hd (cs := #[.int .i64 0, .int .i64 0, .int .i64 0, .int .i64 0, .int .i64 0, .int .i64 0, .int .i64 0]) (t := 30) ?hr ?_; (case hd => rfl); (case hg => rfl); (case hr => first | (go_simp; done) | (go_simp; rfl)); intro gb301 hg w10 hbox hb; have BK301 := a_ (hbox); have GW301 := a_ (by rw [hg]; exact (below_size (by repeat (first | (with_reducible first | exact HB.out | apply below_alloc | apply pw_below_drewN | apply below_drew1 | refine below_set ?_ (IsS61.ge HI291.out) | refine below_set ?_ GE289.out | refine below_set ?_ GE290.out) | exact HB.out))) : w.heap.size ≤ gb301); have GE301 := a_ (by rw [hg]; exact (below_size (by repeat (first | (with_reducible first | exact HB.out | apply below_alloc | apply pw_below_drewN | apply below_drew1 | refine below_set ?_ (IsS61.ge HI291.out) | refine below_set ?_ GE289.out | refine below_set ?_ GE290.out) | exact HB.out))) : w.heap.size ≤ gb301); replace HB := a_ (below_step (by repeat (first | (with_reducible first | exact HB.out | apply below_alloc | apply pw_below_drewN | apply below_drew1 | refine below_set ?_ (IsS61.ge HI291.out) | refine below_set ?_ GE289.out | refine below_set ?_ GE290.out) | exact HB.out)) hb); have NB289_301 := a_ (nel hg BK289.out); have NB301_289 := a_ (nle hg BK289.out); replace BK289 := a_ (blk_below (pk BK289.out) hb); have NB290_301 := a_ (nel hg BK290.out); have NB301_290 := a_ (nle hg BK290.out); replace BK290 := a_ (blk_below (pk BK290.out) hb); have NB291_301 := a_ (by rw [hg]; exact Nat.ne_of_lt (IsS61.lt (show IsS61 w _ gb291 l0 t299 t300 from by repeat (first | (with_reducible first | exact HI291.out | apply IsS61.alloc | apply IsS61.drewN | apply IsS61.drew | apply IsS61.set_1 | apply IsS61.set_2 | refine IsS61.far ?_ NB291_289.out _ | refine IsS61.far ?_ NB291_290.out _) | exact HI291.out))) : gb291 ≠ gb301); have NB301_291 := a_ (by rw [hg]; exact Nat.ne_of_gt (IsS61.lt (show IsS61 w _ gb291 l0 t299 t300 from by repeat (first | (with_reducible first | exact HI291.out | apply IsS61.alloc | apply IsS61.drewN | apply IsS61.drew | apply IsS61.set_1 | apply IsS61.set_2 | refine IsS61.far ?_ NB291_289.out _ | refine IsS61.far ?_ NB291_290.out _) | exact HI291.out))) : gb301 ≠ gb291); replace HI291 := a_ (IsS61.below (by repeat (first | (with_reducible first | exact HI291.out | apply IsS61.alloc | apply IsS61.drewN | apply IsS61.drew | apply IsS61.set_1 | apply IsS61.set_2 | refine IsS61.far ?_ NB291_289.out _ | refine IsS61.far ?_ NB291_290.out _) | exact HI291.out)) hb); clear hb hbox hg; have hnb11 := NB301_289.out; have hnc11 := NB289_301.out; have hnb12 := NB301_290.out; have hnc12 := NB290_301.out; have hnb13 := NB301_291.out; have hnc13 := NB291_301.out; have hcz14_0 : _ = some (Value.int .i64 0) := (blk_cell BK301.out 0).trans rfl; have hcz14_1 : _ = some (Value.int .i64 0) := (blk_cell BK301.out 1).trans rfl; have hcz14_2 : _ = some (Value.int .i64 0) := (blk_cell BK301.out 2).trans rfl; have hcz14_3 : _ = some (Value.int .i64 0) := (blk_cell BK301.out 3).trans rfl; have hcz14_4 : _ = some (Value.int .i64 0) := (blk_cell BK301.out 4).trans rfl; have hcz14_5 : _ = some (Value.int .i64 0) := (blk_cell BK301.out 5).trans rfl; have hcz14_6 : _ = some (Value.int .i64 0) := (blk_cell BK301.out 6).trans rfl; have hfz14_0 := blk_frozen BK301.out 0; have hfz14_1 := blk_frozen BK301.out 1; have hfz14_2 := blk_frozen BK301.out 2; have hfz14_3 := blk_frozen BK301.out 3; have hfz14_4 := blk_frozen BK301.out 4; have hfz14_5 := blk_frozen BK301.out 5; have hfz14_6 := blk_frozen BK301.out 6) | ((with_reducible refine gate_callee (f := 26) rfl ?_); refine goesL_ (some 16) rfl rfl Try.func26 (by kernel_rfl) rfl #[.pointer (some ⟨gb291, 0, none⟩), .int .i64 9] rfl (by (try simp only [lA, lB, lC]); first | done | rfl | (simp only [lD, lE]; rfl)) ?_; (with_reducible refine (spec_l1Cur_pick.calls gb291 l0 t299 t300 9 t302 t303 t304 w _ ?side1 ?side2 A3.out).mono ?_); (case side1 => repeat (first | (with_reducible first | exact HI291.out | apply IsS61.alloc | apply IsS61.drewN | apply IsS61.drew | apply IsS61.set_1 | apply IsS61.set_2 | refine IsS61.far ?_ NB291_289.out _ | refine IsS61.far ?_ NB291_290.out _ | refine IsS61.far ?_ NB291_301.out _) | exact HI291.out)); (case side2 => repeat (first | (with_reducible first | exact HB.out | apply below_alloc | apply pw_below_drewN | apply below_drew1 | refine below_set ?_ (IsS61.ge HI291.out) | refine below_set ?_ GE289.out | refine below_set ?_ GE290.out | refine below_set ?_ GE301.out) | exact HB.out)); rintro e w15 ⟨rfl, hi, hb, hk⟩; refine ⟨_, rfl, ?_⟩; replace BK289 := a_ (KeepBut.blk hk (g' := gb289) (o := .cells #[.int .i64 0, .int .i64 0, .int .i64 0, .int .i64 0, .int .i64 0, .int .i64 0, .int .i64 0] 30 (0, 0)) (by refine pk ?_; refine blk_far ?_ NB289_301.out _; refine pk ?_; refine blk_far ?_ NB289_301.out _; refine pk ?_; refine blk_far ?_ NB289_301.out _; refine pk ?_; refine blk_far ?_ NB289_301.out _; refine pk ?_; refine blk_far ?_ NB289_301.out _; refine pk ?_; refine blk_far ?_ NB289_301.out _; refine pk ?_; refine blk_far ?_ NB289_301.out _; refine pk ?_; exact BK289.out) NB289_291.out (by simp)); replace BK290 := a_ (KeepBut.blk hk (g' := gb290) (o := .cells #[.bool false, .int .i64 0, .int .i64 0, .int .i64 0] 27 (0, 0)) (by refine pk ?_; refine blk_far ?_ NB290_301.out _; refine pk ?_; refine blk_far ?_ NB290_301.out _; refine pk ?_; refine blk_far ?_ NB290_301.out _; refine pk ?_; refine blk_far ?_ NB290_301.out _; refine pk ?_; refine blk_far ?_ NB290_301.out _; refine pk ?_; refine blk_far ?_ NB290_301.out _; refine pk ?_; refine blk_far ?_ NB290_301.out _; refine pk ?_; exact BK290.out) NB290_291.out (by simp)); replace BK301 := a_ (KeepBut.blk hk (g' := gb301) (o := .cells #[.int .i64 t292, .int .i64 t293, .int .i64 t294, .int .i64 t295, .int .i64 t296, .int .i64 t297, .int .i64 t298] 30 (0, 0)) (by refine pk ?_; refine blk_put (cs := #[.int .i64 t292, .int .i64 t293, .int .i64 t294, .int .i64 t295, .int .i64 t296, .int .i64 t297, .int .i64 0]) ?_ 6 _ rfl; refine pk ?_; refine blk_put (cs := #[.int .i64 t292, .int .i64 t293, .int .i64 t294, .int .i64 t295, .int .i64 t296, .int .i64 0, .int .i64 0]) ?_ 5 _ rfl; refine pk ?_; refine blk_put (cs := #[.int .i64 t292, .int .i64 t293, .int .i64 t294, .int .i64 t295, .int .i64 0, .int .i64 0, .int .i64 0]) ?_ 4 _ rfl; refine pk ?_; refine blk_put (cs := #[.int .i64 t292, .int .i64 t293, .int .i64 t294, .int .i64 0, .int .i64 0, .int .i64 0, .int .i64 0]) ?_ 3 _ rfl; refine pk ?_; refine blk_put (cs := #[.int .i64 t292, .int .i64 t293, .int .i64 0, .int .i64 0, .int .i64 0, .int .i64 0, .int .i64 0]) ?_ 2 _ rfl; refine pk ?_; refine blk_put (cs := #[.int .i64 t292, .int .i64 0, .int .i64 0, .int .i64 0, .int .i64 0, .int .i64 0, .int .i64 0]) ?_ 1 _ rfl; refine pk ?_; refine blk_put (cs := #[.int .i64 0, .int .i64 0, .int .i64 0, .int .i64 0, .int .i64 0, .int .i64 0, .int .i64 0]) ?_ 0 _ rfl; refine pk ?_; exact BK301.out) NB301_291.out (by simp)); replace HB := a_ (hb); replace HI291 := a_ (hi); clear hb hk hi) | ((with_reducible refine gate_callee (f := 27) rfl ?_); refine goesL_ (some 18) rfl rfl Try.func27 (by kernel_rfl) rfl #[.pointer (some ⟨gb291, 0, none⟩), .int .i64 20] rfl (by (try simp only [lA, lB, lC]); first | done | rfl | (simp only [lD, lE]; rfl)) ?_; (with_reducible refine (spec_l1Cur_one.calls gb291 l0 t303 t304 20 t305 t306 t307 w _ ?side1 ?side2 A4.out).mono ?_); (case side1 => repeat (first | (with_reducible first | exact HI291.out | apply IsS61.alloc | apply IsS61.drewN | apply IsS61.drew | apply IsS61.set_1 | apply IsS61.set_2 | refine IsS61.far ?_ NB291_289.out _ | refine IsS61.far ?_ NB291_290.out _ | refine IsS61.far ?_ NB291_301.out _) | exact HI291.out)); (case side2 => repeat (first | (with_reducible first | exact HB.out | apply below_alloc | apply pw_below_drewN | apply below_drew1 | refine below_set ?_ (IsS61.ge HI291.out) | refine below_set ?_ GE289.out | refine below_set ?_ GE290.out | refine below_set ?_ GE301.out) | exact HB.out)); rintro e w16 ⟨rfl, hi, hb, hk⟩; refine ⟨_, rfl, ?_⟩; replace BK289 := a_ (KeepBut.blk hk (g' := gb289) (o := .cells #[.int .i64 0, .int .i64 0, .int .i64 0, .int .i64 0, .int .i64 0, .int .i64 0, .int .i64 0] 30 (0, 0)) (pk BK289.out) NB289_291.out (by simp)); replace BK290 := a_ (KeepBut.blk hk (g' := gb290) (o := .cells #[.bool false, .int .i64 0, .int .i64 0, .int .i64 0] 27 (0, 0)) (pk BK290.out) NB290_291.out (by simp)); replace BK301 := a_ (KeepBut.blk hk (g' := gb301) (o := .cells #[.int .i64 t292, .int .i64 t293, .int .i64 t294, .int .i64 t295, .int .i64 t296, .int .i64 t297, .int .i64 t298] 30 (0, 0)) (pk BK301.out) NB301_291.out (by simp)); replace HB := a_ (hb); replace HI291 := a_ (hi); clear hb hk hi))
 (try simp only [Act.put, List.setIfInBounds_toArray, List.set_cons_zero, List.set_cons_succ])
 go_cut [8] (fun v8 wc => ∃ (kq : Nat) (x8_4 : Int) (x292001_4 : Int) (x292002_4 : Int), v8 = .int .i64 x8_4 ∧ Aside0 (spec_DrawRunHold.j0 kq x8_4 l0 x292001_4 x292002_4 t292 t293 t294 t295 t296 t297 t298 = some (r1, r2, r3, r4, r5, r6, r7, r8, r9, r10, r11, r12, r13)) ∧ Aside0 (kq ≤ k) ∧ Aside0 (wc.heap[gb289]? = some (.cells #[.int .i64 0, .int .i64 0, .int .i64 0, .int .i64 0, .int .i64 0, .int .i64 0, .int .i64 0] 30 (0, 0))) ∧ Aside0 (wc.heap[gb290]? = some (.cells #[.bool false, .int .i64 0, .int .i64 0, .int .i64 0] 27 (0, 0))) ∧ Aside0 (wc.heap[gb301]? = some (.cells #[.int .i64 t292, .int .i64 t293, .int .i64 t294, .int .i64 t295, .int .i64 t296, .int .i64 t297, .int .i64 t298] 30 (0, 0))) ∧ Aside0 (IsS61 w wc gb291 l0 x292001_4 x292002_4) ∧ Aside0 (Below w.heap.size w wc))
 case first =>
  have H := HC5.out
  clear HC5
  by_cases c17 : t305 = true
  ·subst c17
   have H1 : ((spec_l1Cur_pick.f l0 t306 t307 3).bind fun bt308 => (spec_DrawRunHold.j0 k (wrap64 (59 + bt308.1)) l0 bt308.2.1 bt308.2.2 t292 t293 t294 t295 t296 t297 t298)) = some (r1, r2, r3, r4, r5, r6, r7, r8, r9, r10, r11, r12, r13) := by rw [if_pos rfl] at H; exact H
   clear H
   have H := H1
   clear H1
   replace H := Option.bind_eq_some_iff.mp H
   obtain ⟨⟨t308, t309, t310⟩, A180, H⟩ := H
   replace H : (spec_DrawRunHold.j0 k (wrap64 (59 + t308)) l0 t309 t310 t292 t293 t294 t295 t296 t297 t298) = some (r1, r2, r3, r4, r5, r6, r7, r8, r9, r10, r11, r12, r13) := H
   have A18 := Aside0.mk A180
   clear A180
   have H' := Aside0.mk H
   clear H
   go_wp2_with (first | ((with_reducible refine gate_callee (f := 26) rfl ?_); refine goesL_ (some 20) rfl rfl Try.func26 (by kernel_rfl) rfl #[.pointer (some ⟨gb291, 0, none⟩), .int .i64 3] rfl (by (try simp only [lA, lB, lC]); first | done | rfl | (simp only [lD, lE]; rfl)) ?_; (with_reducible refine (spec_l1Cur_pick.calls gb291 l0 t306 t307 3 t308 t309 t310 w _ ?side1 ?side2 A18.out).mono ?_); (case side1 => repeat (first | (with_reducible first | exact HI291.out | apply IsS61.alloc | apply IsS61.drewN | apply IsS61.drew | apply IsS61.set_1 | apply IsS61.set_2 | refine IsS61.far ?_ NB291_289.out _ | refine IsS61.far ?_ NB291_290.out _ | refine IsS61.far ?_ NB291_301.out _) | exact HI291.out)); (case side2 => repeat (first | (with_reducible first | exact HB.out | apply below_alloc | apply pw_below_drewN | apply below_drew1 | refine below_set ?_ (IsS61.ge HI291.out) | refine below_set ?_ GE289.out | refine below_set ?_ GE290.out | refine below_set ?_ GE301.out) | exact HB.out)); rintro e w19 ⟨rfl, hi, hb, hk⟩; refine ⟨_, rfl, ?_⟩; replace BK289 := a_ (KeepBut.blk hk (g' := gb289) (o := .cells #[.int .i64 0, .int .i64 0, .int .i64 0, .int .i64 0, .int .i64 0, .int .i64 0, .int .i64 0] 30 (0, 0)) (pk BK289.out) NB289_291.out (by simp)); replace BK290 := a_ (KeepBut.blk hk (g' := gb290) (o := .cells #[.bool false, .int .i64 0, .int .i64 0, .int .i64 0] 27 (0, 0)) (pk BK290.out) NB290_291.out (by simp)); replace BK301 := a_ (KeepBut.blk hk (g' := gb301) (o := .cells #[.int .i64 t292, .int .i64 t293, .int .i64 t294, .int .i64 t295, .int .i64 t296, .int .i64 t297, .int .i64 t298] 30 (0, 0)) (pk BK301.out) NB301_291.out (by simp)); replace HB := a_ (hb); replace HI291 := a_ (hi); clear hb hk hi))
   go_meet
   case rel => exact ⟨_, (wrap64 (59 + t308)), (t309), (t310), (by first | rfl | (simp; done) | (simp [*]; done)), H', ⟨by first | omega | exact Nat.le_refl _⟩, ⟨pk BK289.out⟩, ⟨pk BK290.out⟩, ⟨pk BK301.out⟩, ⟨by repeat (first | (with_reducible first | exact HI291.out | apply IsS61.alloc | apply IsS61.drewN | apply IsS61.drew | apply IsS61.set_1 | apply IsS61.set_2 | refine IsS61.far ?_ NB291_289.out _ | refine IsS61.far ?_ NB291_290.out _ | refine IsS61.far ?_ NB291_301.out _) | exact HI291.out)⟩, ⟨by repeat (first | (with_reducible first | exact HB.out | apply below_alloc | apply pw_below_drewN | apply below_drew1 | refine below_set ?_ (IsS61.ge HI291.out) | refine below_set ?_ GE289.out | refine below_set ?_ GE290.out | refine below_set ?_ GE301.out) | exact HB.out)⟩⟩
  ·replace c17 := Bool.eq_false_iff.mpr c17
   subst c17
   have H1 : (spec_DrawRunHold.j0 k t302 l0 t306 t307 t292 t293 t294 t295 t296 t297 t298) = some (r1, r2, r3, r4, r5, r6, r7, r8, r9, r10, r11, r12, r13) := by rw [if_neg (show ¬ (false = true) by decide)] at H; exact H
   clear H
   have H := H1
   clear H1
   have H' := Aside0.mk H
   clear H
   go_wp2
   go_meet
   case rel => exact ⟨_, (t302), (t306), (t307), (by first | rfl | (simp; done) | (simp [*]; done)), H', ⟨by first | omega | exact Nat.le_refl _⟩, ⟨pk BK289.out⟩, ⟨pk BK290.out⟩, ⟨pk BK301.out⟩, ⟨by repeat (first | (with_reducible first | exact HI291.out | apply IsS61.alloc | apply IsS61.drewN | apply IsS61.drew | apply IsS61.set_1 | apply IsS61.set_2 | refine IsS61.far ?_ NB291_289.out _ | refine IsS61.far ?_ NB291_290.out _ | refine IsS61.far ?_ NB291_301.out _) | exact HI291.out)⟩, ⟨by repeat (first | (with_reducible first | exact HB.out | apply below_alloc | apply pw_below_drewN | apply below_drew1 | refine below_set ?_ (IsS61.ge HI291.out) | refine below_set ?_ GE289.out | refine below_set ?_ GE290.out | refine below_set ?_ GE301.out) | exact HB.out)⟩⟩
 case rest =>
  clear HC5
  try clear c1
  try clear c2
  try clear p2
  try clear p6
  try clear c11
  try clear c12
  try clear c13
  try clear c17
  try clear hcz14_0
  try clear hcz14_1
  try clear hcz14_2
  try clear hcz14_3
  try clear hcz14_4
  try clear hcz14_5
  try clear hcz14_6
  try clear hfz14_0
  try clear hfz14_1
  try clear hfz14_2
  try clear hfz14_3
  try clear hfz14_4
  try clear hfz14_5
  try clear hfz14_6
  obtain ⟨kq, x8_4, x292001_4, x292002_4, rfl, HA, HJ4, BK289, BK290, BK301, HI291, HB⟩ := hcut
  cases kq with
  | zero => exact absurd HA.out (by simp [spec_DrawRunHold.j0])
  | succ kj4 =>
   have H := HA.out
   clear HA
   simp only [spec_DrawRunHold.j0] at H
   replace H := Option.bind_eq_some_iff.mp H
   obtain ⟨⟨t311, t314, t315⟩, A200, H⟩ := H
   replace H : ((spec_l1Cur_one.f l0 t314 t315 24).bind fun bt316 => (if bt316.1 = true then ((spec_l1Cur_hold.f kj4 l0 bt316.2.1 bt316.2.2 t292 t293 t294 t295 t296 t297 t298).bind fun bt319 => ((spec_l1Cur_levels.f kj4 l0 bt319.2.2.2.2.1 bt319.2.2.2.2.2 (wrap64 (x8_4 + 1))).bind fun bt325 => (some (t292, t293, t294, t295, t296, t297, t298, bt319.1, bt319.2.1, bt319.2.2.1, bt319.2.2.2.1, t311, bt325.1)))) else ((spec_l1Cur_hold.f kj4 l0 bt316.2.1 bt316.2.2 t292 t293 t294 t295 t296 t297 t298).bind fun bt330 => ((spec_l1Cur_levels.f kj4 l0 bt330.2.2.2.2.1 bt330.2.2.2.2.2 x8_4).bind fun bt336 => (some (t292, t293, t294, t295, t296, t297, t298, bt330.1, bt330.2.1, bt330.2.2.1, bt330.2.2.2.1, t311, bt336.1)))))) = some (r1, r2, r3, r4, r5, r6, r7, r8, r9, r10, r11, r12, r13) := H
   have A20 := Aside0.mk A200
   clear A200
   replace H := Option.bind_eq_some_iff.mp H
   obtain ⟨⟨t316, t317, t318⟩, A210, H⟩ := H
   replace H : (if t316 = true then ((spec_l1Cur_hold.f kj4 l0 t317 t318 t292 t293 t294 t295 t296 t297 t298).bind fun bt319 => ((spec_l1Cur_levels.f kj4 l0 bt319.2.2.2.2.1 bt319.2.2.2.2.2 (wrap64 (x8_4 + 1))).bind fun bt325 => (some (t292, t293, t294, t295, t296, t297, t298, bt319.1, bt319.2.1, bt319.2.2.1, bt319.2.2.2.1, t311, bt325.1)))) else ((spec_l1Cur_hold.f kj4 l0 t317 t318 t292 t293 t294 t295 t296 t297 t298).bind fun bt330 => ((spec_l1Cur_levels.f kj4 l0 bt330.2.2.2.2.1 bt330.2.2.2.2.2 x8_4).bind fun bt336 => (some (t292, t293, t294, t295, t296, t297, t298, bt330.1, bt330.2.1, bt330.2.2.1, bt330.2.2.2.1, t311, bt336.1))))) = some (r1, r2, r3, r4, r5, r6, r7, r8, r9, r10, r11, r12, r13) := H
   have A21 := Aside0.mk A210
   clear A210
   by_cases c22 : t316 = true
   ·subst c22
    have H1 : ((spec_l1Cur_hold.f kj4 l0 t317 t318 t292 t293 t294 t295 t296 t297 t298).bind fun bt319 => ((spec_l1Cur_levels.f kj4 l0 bt319.2.2.2.2.1 bt319.2.2.2.2.2 (wrap64 (x8_4 + 1))).bind fun bt325 => (some (t292, t293, t294, t295, t296, t297, t298, bt319.1, bt319.2.1, bt319.2.2.1, bt319.2.2.2.1, t311, bt325.1)))) = some (r1, r2, r3, r4, r5, r6, r7, r8, r9, r10, r11, r12, r13) := by rw [if_pos rfl] at H; exact H
    clear H
    have H := H1
    clear H1
    replace H := Option.bind_eq_some_iff.mp H
    obtain ⟨⟨t319, t320, t321, t322, t323, t324⟩, A230, H⟩ := H
    replace H : ((spec_l1Cur_levels.f kj4 l0 t323 t324 (wrap64 (x8_4 + 1))).bind fun bt325 => (some (t292, t293, t294, t295, t296, t297, t298, t319, t320, t321, t322, t311, bt325.1))) = some (r1, r2, r3, r4, r5, r6, r7, r8, r9, r10, r11, r12, r13) := H
    have A23 := Aside0.mk A230
    clear A230
    replace H := Option.bind_eq_some_iff.mp H
    obtain ⟨⟨t325, t328, t329⟩, A240, H⟩ := H
    replace H : (some (t292, t293, t294, t295, t296, t297, t298, t319, t320, t321, t322, t311, t325)) = some (r1, r2, r3, r4, r5, r6, r7, r8, r9, r10, r11, r12, r13) := H
    have A24 := Aside0.mk A240
    clear A240
    simp only [Option.some.injEq, Prod.mk.injEq] at H
    obtain ⟨rfl, rfl, rfl, rfl, rfl, rfl, rfl, rfl, rfl, rfl, rfl, rfl, rfl⟩ := H
    try go_wp2_with (first | ((with_reducible refine gate_callee (f := 36) rfl ?_); refine goesL_ (some 24) rfl rfl Try.func36 (by kernel_rfl) rfl #[.pointer (some ⟨gb291, 0, none⟩), .int .i64 x8_4] rfl (by (try simp only [lA, lB, lC]); first | done | rfl | (simp only [lD, lE]; rfl)) ?_; (with_reducible refine (spec_l1Cur_levels.calls kj4 gb291 l0 x292001_4 x292002_4 x8_4 t311 t314 t315 w _ ?side1 ?side2 A20.out).mono ?_); (case side1 => repeat (first | (with_reducible first | exact HI291.out | apply IsS61.alloc | apply IsS61.drewN | apply IsS61.drew | apply IsS61.set_1 | apply IsS61.set_2 | refine IsS61.far ?_ NB291_289.out _ | refine IsS61.far ?_ NB291_290.out _ | refine IsS61.far ?_ NB291_301.out _) | exact HI291.out)); (case side2 => repeat (first | (with_reducible first | exact HB.out | apply below_alloc | apply pw_below_drewN | apply below_drew1 | refine below_set ?_ (IsS61.ge HI291.out) | refine below_set ?_ GE289.out | refine below_set ?_ GE290.out | refine below_set ?_ GE301.out) | exact HB.out)); rintro e w25 ⟨v312, rfl, ho0, hi, hb, hk⟩; refine ⟨_, rfl, ?_⟩; replace BK289 := a_ (KeepBut.blk hk (g' := gb289) (o := .cells #[.int .i64 0, .int .i64 0, .int .i64 0, .int .i64 0, .int .i64 0, .int .i64 0, .int .i64 0] 30 (0, 0)) (pk BK289.out) NB289_291.out (by simp)); replace BK290 := a_ (KeepBut.blk hk (g' := gb290) (o := .cells #[.bool false, .int .i64 0, .int .i64 0, .int .i64 0] 27 (0, 0)) (pk BK290.out) NB290_291.out (by simp)); replace BK301 := a_ (KeepBut.blk hk (g' := gb301) (o := .cells #[.int .i64 t292, .int .i64 t293, .int .i64 t294, .int .i64 t295, .int .i64 t296, .int .i64 t297, .int .i64 t298] 30 (0, 0)) (pk BK301.out) NB301_291.out (by simp)); have HO313 := a_ (Kd.R_lower ho0 (below_size (by repeat (first | (with_reducible first | exact HB.out | apply below_alloc | apply pw_below_drewN | apply below_drew1 | refine below_set ?_ (IsS61.ge HI291.out) | refine below_set ?_ GE289.out | refine below_set ?_ GE290.out | refine below_set ?_ GE301.out) | exact HB.out)))); replace HB := a_ (hb); replace HI291 := a_ (hi); clear hb hk hi ho0) | ((with_reducible refine gate_callee (f := 27) rfl ?_); refine goesL_ (some 26) rfl rfl Try.func27 (by kernel_rfl) rfl #[.pointer (some ⟨gb291, 0, none⟩), .int .i64 24] rfl (by (try simp only [lA, lB, lC]); first | done | rfl | (simp only [lD, lE]; rfl)) ?_; (with_reducible refine (spec_l1Cur_one.calls gb291 l0 t314 t315 24 true t317 t318 w _ ?side1 ?side2 A21.out).mono ?_); (case side1 => repeat (first | (with_reducible first | exact HI291.out | apply IsS61.alloc | apply IsS61.drewN | apply IsS61.drew | apply IsS61.set_1 | apply IsS61.set_2 | refine IsS61.far ?_ NB291_289.out _ | refine IsS61.far ?_ NB291_290.out _ | refine IsS61.far ?_ NB291_301.out _) | exact HI291.out)); (case side2 => repeat (first | (with_reducible first | exact HB.out | apply below_alloc | apply pw_below_drewN | apply below_drew1 | refine below_set ?_ (IsS61.ge HI291.out) | refine below_set ?_ GE289.out | refine below_set ?_ GE290.out | refine below_set ?_ GE301.out) | exact HB.out)); rintro e w26 ⟨rfl, hi, hb, hk⟩; refine ⟨_, rfl, ?_⟩; replace BK289 := a_ (KeepBut.blk hk (g' := gb289) (o := .cells #[.int .i64 0, .int .i64 0, .int .i64 0, .int .i64 0, .int .i64 0, .int .i64 0, .int .i64 0] 30 (0, 0)) (pk BK289.out) NB289_291.out (by simp)); replace BK290 := a_ (KeepBut.blk hk (g' := gb290) (o := .cells #[.bool false, .int .i64 0, .int .i64 0, .int .i64 0] 27 (0, 0)) (pk BK290.out) NB290_291.out (by simp)); replace BK301 := a_ (KeepBut.blk hk (g' := gb301) (o := .cells #[.int .i64 t292, .int .i64 t293, .int .i64 t294, .int .i64 t295, .int .i64 t296, .int .i64 t297, .int .i64 t298] 30 (0, 0)) (pk BK301.out) NB301_291.out (by simp)); replace HO313 := a_ (Kd.R_mono (Kd.R_keep (IsS61.apart (show IsS61 w _ gb291 l0 t314 t315 from by repeat (first | (with_reducible first | exact HI291.out | apply IsS61.alloc | apply IsS61.drewN | apply IsS61.drew | apply IsS61.set_1 | apply IsS61.set_2 | refine IsS61.far ?_ NB291_289.out _ | refine IsS61.far ?_ NB291_290.out _ | refine IsS61.far ?_ NB291_301.out _) | exact HI291.out)) (rk HO313.out) (by decide)) hk (fun _ h => h.2)) (fun _ h => h.1)); replace HB := a_ (hb); replace HI291 := a_ (hi); clear hb hk hi))
    replace HO313 := a_ (Kd.R_drew HO313.out)
    replace BK289 := a_ (blk_drew BK289.out)
    replace BK290 := a_ (blk_drew BK290.out)
    replace BK301 := a_ (blk_drew BK301.out)
    replace HI291 := a_ (IsS61.drew HI291.out)
    replace HB := a_ (below_drew1 HB.out)
    refine start_ (n := 12) (S := fun w' => w'.cell? ⟨gb301, 0, none⟩ = some (.int .i64 t292) ∧ w'.cell? ⟨gb301, 1, none⟩ = some (.int .i64 t293) ∧ w'.cell? ⟨gb301, 2, none⟩ = some (.int .i64 t294) ∧ w'.cell? ⟨gb301, 3, none⟩ = some (.int .i64 t295) ∧ w'.cell? ⟨gb301, 4, none⟩ = some (.int .i64 t296) ∧ w'.cell? ⟨gb301, 5, none⟩ = some (.int .i64 t297) ∧ w'.cell? ⟨gb301, 6, none⟩ = some (.int .i64 t298)) (ds := []) #[false, false, false, false, false, false, false, false, false, false, false, false] (by kernel_rfl) rfl rfl ⟨(blk_cell BK301.out 0).trans rfl, (blk_cell BK301.out 1).trans rfl, (blk_cell BK301.out 2).trans rfl, (blk_cell BK301.out 3).trans rfl, (blk_cell BK301.out 4).trans rfl, (blk_cell BK301.out 5).trans rfl, (blk_cell BK301.out 6).trans rfl⟩ (fun hHeld => ?_); refine with_tabW spec_DrawRunHold.tab9 spec_DrawRunHold.bits9 (fun HT_ HW_ => ?_)
    generalize w26.drew = w27 at HO313 BK289 BK290 BK301 HI291 HB hHeld ⊢
    refine pure_ (i := 1) (N := some 30) (v := ?_) (a' := ?_) #[false, true, false, false, false, false, false, false, false, false, false, false] rfl rfl (any_of HT_.out (by kernel_rfl)) (fun _ _ _ h => h) (Or.inl ⟨by rfl, ?_⟩) ?_ ?_
    rotate_left
    ·intro w'
     go_simp
     with_reducible rfl
    rotate_left
    ·simp only [Act.put, List.setIfInBounds_toArray, List.set_cons_zero, List.set_cons_succ, i64_w, i32_w]
     rfl
    refine pure_ (i := 4) (N := some 33) (v := ?_) (a' := ?_) #[false, true, false, false, true, false, false, false, false, false, false, false] rfl rfl (any_of HT_.out (by kernel_rfl)) (fun _ _ _ h => h) (Or.inl ⟨by rfl, ?_⟩) ?_ ?_
    rotate_left
    ·intro w'
     go_simp
     with_reducible rfl
    rotate_left
    ·simp only [Act.put, List.setIfInBounds_toArray, List.set_cons_zero, List.set_cons_succ, i64_w, i32_w]
     rfl
    refine pure_ (i := 5) (N := some 34) (v := ?_) (a' := ?_) #[false, true, false, false, true, true, false, false, false, false, false, false] rfl rfl (any_of HT_.out (by kernel_rfl)) (fun _ _ _ h => h) (Or.inl ⟨by rfl, ?_⟩) ?_ ?_
    rotate_left
    ·intro w'
     go_simp
     with_reducible rfl
    rotate_left
    ·simp only [Act.put, List.setIfInBounds_toArray, List.set_cons_zero, List.set_cons_succ, i64_w, i32_w]
     rfl
    refine pure_ (i := 6) (N := some 35) (v := ?_) (a' := ?_) #[false, true, false, false, true, true, true, false, false, false, false, false] rfl rfl (any_of HT_.out (by kernel_rfl)) (fun _ _ _ h => h) (Or.inl ⟨by rfl, ?_⟩) ?_ ?_
    rotate_left
    ·intro w'
     go_simp
     with_reducible rfl
    rotate_left
    ·simp only [Act.put, List.setIfInBounds_toArray, List.set_cons_zero, List.set_cons_succ, i64_w, i32_w]
     rfl
    refine take_ (i := 0) (N := some 29) (v := ?_) (a' := ?_) #[true, true, false, false, true, true, true, false, false, false, false, false] rfl rfl (take_ofW HT_.out HW_.out (by kernel_rfl)) (fun _ _ _ h => h) (Or.inl ⟨by rfl, ?_⟩) hHeld ?_ ?_
    rotate_left
    ·rintro w' ⟨s0, s1, s2, s3, s4, s5, s6⟩
     go_simp
     with_reducible rfl
    rotate_left
    ·simp only [Act.put, List.setIfInBounds_toArray, List.set_cons_zero, List.set_cons_succ, i64_w, i32_w]
     rfl
    refine take_ (i := 2) (N := some 31) (v := ?_) (a' := ?_) #[true, true, true, false, true, true, true, false, false, false, false, false] rfl rfl (take_ofW HT_.out HW_.out (by kernel_rfl)) (fun _ _ _ h => h) (Or.inl ⟨by rfl, ?_⟩) hHeld ?_ ?_
    rotate_left
    ·rintro w' ⟨s0, s1, s2, s3, s4, s5, s6⟩
     go_simp
     with_reducible rfl
    rotate_left
    ·simp only [Act.put, List.setIfInBounds_toArray, List.set_cons_zero, List.set_cons_succ, i64_w, i32_w]
     rfl
    refine one_ (i := 3) (N := some 32) #[true, true, true, true, true, true, true, false, false, false, false, false] rfl rfl (one_of HT_.out (by kernel_rfl)) (by decide) (fun K hK => ?_)
    refine goes_ Try.func31 (by kernel_rfl) rfl #[.pointer (some ⟨gb291, 0, none⟩), .agg #[.int .i64 t292, .int .i64 t293, .int .i64 t294, .int .i64 t295, .int .i64 t296, .int .i64 t297, .int .i64 t298]] (by rfl) rfl rfl (by (try simp only [lA, lB, lC]); first | done | rfl | (simp only [lD, lE]; rfl)) ?_
    with_reducible refine (spec_l1Cur_hold.calls kj4 gb291 l0 t317 t318 t292 t293 t294 t295 t296 t297 t298 t319 t320 t321 t322 t323 t324 w _ ?side1 ?side2 A23.out).mono ?_
    (case side1 => repeat (first | (with_reducible first | exact HI291.out | apply IsS61.alloc | apply IsS61.drewN | apply IsS61.drew | apply IsS61.set_1 | apply IsS61.set_2 | refine IsS61.far ?_ NB291_289.out _ | refine IsS61.far ?_ NB291_290.out _ | refine IsS61.far ?_ NB291_301.out _) | exact HI291.out))
    (case side2 => repeat (first | (with_reducible first | exact HB.out | apply below_alloc | apply pw_below_drewN | apply below_drew1 | refine below_set ?_ (IsS61.ge HI291.out) | refine below_set ?_ GE289.out | refine below_set ?_ GE290.out | refine below_set ?_ GE301.out) | exact HB.out))
    rintro e w28 ⟨rfl, hi, hb, hk⟩
    refine ⟨_, rfl, ?_⟩
    replace BK289 := a_ (KeepBut.blk hk (g' := gb289) (o := .cells #[.int .i64 0, .int .i64 0, .int .i64 0, .int .i64 0, .int .i64 0, .int .i64 0, .int .i64 0] 30 (0, 0)) (pk BK289.out) NB289_291.out (by simp))
    replace BK290 := a_ (KeepBut.blk hk (g' := gb290) (o := .cells #[.bool false, .int .i64 0, .int .i64 0, .int .i64 0] 27 (0, 0)) (pk BK290.out) NB290_291.out (by simp))
    replace BK301 := a_ (KeepBut.blk hk (g' := gb301) (o := .cells #[.int .i64 t292, .int .i64 t293, .int .i64 t294, .int .i64 t295, .int .i64 t296, .int .i64 t297, .int .i64 t298] 30 (0, 0)) (pk BK301.out) NB301_291.out (by simp))
    replace HO313 := a_ (Kd.R_mono (Kd.R_keep (IsS61.apart (show IsS61 w _ gb291 l0 t317 t318 from by repeat (first | (with_reducible first | exact HI291.out | apply IsS61.alloc | apply IsS61.drewN | apply IsS61.drew | apply IsS61.set_1 | apply IsS61.set_2 | refine IsS61.far ?_ NB291_289.out _ | refine IsS61.far ?_ NB291_290.out _ | refine IsS61.far ?_ NB291_301.out _) | exact HI291.out)) (rk HO313.out) (by decide)) hk (fun _ h => h.2)) (fun _ h => h.1))
    replace HB := a_ (hb)
    replace HI291 := a_ (hi)
    (try clear hb)
    (try clear hb2)
    (try clear hk)
    (try clear hi)
    refine hK.out _ _ ⟨(blk_cell BK301.out 0).trans rfl, (blk_cell BK301.out 1).trans rfl, (blk_cell BK301.out 2).trans rfl, (blk_cell BK301.out 3).trans rfl, (blk_cell BK301.out 4).trans rfl, (blk_cell BK301.out 5).trans rfl, (blk_cell BK301.out 6).trans rfl⟩ (fun hHeld => ?_)
    clear hK K
    refine norm_ (a' := ?_) ?_ ?_
    rotate_left
    ·show Act.put _ (some 32) _ = _
     simp only [Act.put, List.setIfInBounds_toArray, List.set_cons_zero, List.set_cons_succ, i64_w, i32_w]
     rfl
    refine one_ (i := 7) (N := some 36) #[true, true, true, true, true, true, true, true, false, false, false, false] rfl rfl (one_of HT_.out (by kernel_rfl)) (by decide) (fun K hK => ?_)
    refine goes_ Try.func36 (by kernel_rfl) rfl #[.pointer (some ⟨gb291, 0, none⟩), .int .i64 (wrap64 (x8_4 + 1))] (by rfl) rfl rfl (by (try simp only [lA, lB, lC]); first | done | rfl | (simp only [lD, lE]; rfl)) ?_
    with_reducible refine (spec_l1Cur_levels.calls kj4 gb291 l0 t323 t324 (wrap64 (x8_4 + 1)) t325 t328 t329 w _ ?side1 ?side2 A24.out).mono ?_
    (case side1 => repeat (first | (with_reducible first | exact HI291.out | apply IsS61.alloc | apply IsS61.drewN | apply IsS61.drew | apply IsS61.set_1 | apply IsS61.set_2 | refine IsS61.far ?_ NB291_289.out _ | refine IsS61.far ?_ NB291_290.out _ | refine IsS61.far ?_ NB291_301.out _) | exact HI291.out))
    (case side2 => repeat (first | (with_reducible first | exact HB.out | apply below_alloc | apply pw_below_drewN | apply below_drew1 | refine below_set ?_ (IsS61.ge HI291.out) | refine below_set ?_ GE289.out | refine below_set ?_ GE290.out | refine below_set ?_ GE301.out) | exact HB.out))
    rintro e w29 ⟨v326, rfl, ho0, hi, hb, hk⟩
    refine ⟨_, rfl, ?_⟩
    replace BK289 := a_ (KeepBut.blk hk (g' := gb289) (o := .cells #[.int .i64 0, .int .i64 0, .int .i64 0, .int .i64 0, .int .i64 0, .int .i64 0, .int .i64 0] 30 (0, 0)) (pk BK289.out) NB289_291.out (by simp))
    replace BK290 := a_ (KeepBut.blk hk (g' := gb290) (o := .cells #[.bool false, .int .i64 0, .int .i64 0, .int .i64 0] 27 (0, 0)) (pk BK290.out) NB290_291.out (by simp))
    replace BK301 := a_ (KeepBut.blk hk (g' := gb301) (o := .cells #[.int .i64 t292, .int .i64 t293, .int .i64 t294, .int .i64 t295, .int .i64 t296, .int .i64 t297, .int .i64 t298] 30 (0, 0)) (pk BK301.out) NB301_291.out (by simp))
    have HO327 := a_ (Kd.R_lower (nw ho0 HO313.out) (below_size (by repeat (first | (with_reducible first | exact HB.out | apply below_alloc | apply pw_below_drewN | apply below_drew1 | refine below_set ?_ (IsS61.ge HI291.out) | refine below_set ?_ GE289.out | refine below_set ?_ GE290.out | refine below_set ?_ GE301.out) | exact HB.out))))
    replace HO313 := a_ (Kd.R_mono (Kd.R_told (Kd.R_oldK (IsS61.apart (show IsS61 w _ gb291 l0 t323 t324 from by repeat (first | (with_reducible first | exact HI291.out | apply IsS61.alloc | apply IsS61.drewN | apply IsS61.drew | apply IsS61.set_1 | apply IsS61.set_2 | refine IsS61.far ?_ NB291_289.out _ | refine IsS61.far ?_ NB291_290.out _ | refine IsS61.far ?_ NB291_301.out _) | exact HI291.out)) (rk HO313.out) (by decide)) hk) (Kd.R_base ho0)) (fun _ h_ => h_.1))
    replace HB := a_ (hb)
    replace HI291 := a_ (hi)
    (try clear hb)
    (try clear hb2)
    (try clear hk)
    (try clear hi)
    (try clear ho0)
    refine hK.out _ _ ⟨(blk_cell BK301.out 0).trans rfl, (blk_cell BK301.out 1).trans rfl, (blk_cell BK301.out 2).trans rfl, (blk_cell BK301.out 3).trans rfl, (blk_cell BK301.out 4).trans rfl, (blk_cell BK301.out 5).trans rfl, (blk_cell BK301.out 6).trans rfl⟩ (fun hHeld => ?_)
    clear hK K
    refine norm_ (a' := ?_) ?_ ?_
    rotate_left
    ·show Act.put _ (some 36) _ = _
     simp only [Act.put, List.setIfInBounds_toArray, List.set_cons_zero, List.set_cons_succ, i64_w, i32_w]
     rfl
    refine one_ (i := 8) (N := none) #[true, true, true, true, true, true, true, true, true, false, false, false] rfl rfl (one_of HT_.out (by kernel_rfl)) (by decide) (fun K hK => ?_)
    have hs30 : w29.cell? ⟨gb289, 0, none⟩ = some (.int .i64 0) := (blk_cell BK289.out 0).trans rfl
    have hfs30 := blk_frozen BK289.out 0
    have hns30_1 := NB290_289.out
    have hns30_2 := NB301_289.out
    have hms30_1 := NB289_290.out
    have hms30_2 := NB289_301.out
    have hs31 : w29.cell? ⟨gb289, 1, none⟩ = some (.int .i64 0) := (blk_cell BK289.out 1).trans rfl
    have hfs31 := blk_frozen BK289.out 1
    have hns31_1 := NB290_289.out
    have hns31_2 := NB301_289.out
    have hms31_1 := NB289_290.out
    have hms31_2 := NB289_301.out
    have hs32 : w29.cell? ⟨gb289, 2, none⟩ = some (.int .i64 0) := (blk_cell BK289.out 2).trans rfl
    have hfs32 := blk_frozen BK289.out 2
    have hns32_1 := NB290_289.out
    have hns32_2 := NB301_289.out
    have hms32_1 := NB289_290.out
    have hms32_2 := NB289_301.out
    have hs33 : w29.cell? ⟨gb289, 3, none⟩ = some (.int .i64 0) := (blk_cell BK289.out 3).trans rfl
    have hfs33 := blk_frozen BK289.out 3
    have hns33_1 := NB290_289.out
    have hns33_2 := NB301_289.out
    have hms33_1 := NB289_290.out
    have hms33_2 := NB289_301.out
    have hs34 : w29.cell? ⟨gb289, 4, none⟩ = some (.int .i64 0) := (blk_cell BK289.out 4).trans rfl
    have hfs34 := blk_frozen BK289.out 4
    have hns34_1 := NB290_289.out
    have hns34_2 := NB301_289.out
    have hms34_1 := NB289_290.out
    have hms34_2 := NB289_301.out
    have hs35 : w29.cell? ⟨gb289, 5, none⟩ = some (.int .i64 0) := (blk_cell BK289.out 5).trans rfl
    have hfs35 := blk_frozen BK289.out 5
    have hns35_1 := NB290_289.out
    have hns35_2 := NB301_289.out
    have hms35_1 := NB289_290.out
    have hms35_2 := NB289_301.out
    have hs36 : w29.cell? ⟨gb289, 6, none⟩ = some (.int .i64 0) := (blk_cell BK289.out 6).trans rfl
    have hfs36 := blk_frozen BK289.out 6
    have hns36_1 := NB290_289.out
    have hns36_2 := NB301_289.out
    have hms36_1 := NB289_290.out
    have hms36_2 := NB289_301.out
    refine skip_ (w1 := ?_) ?_ ?_ ?_ ?_
    rotate_left
    ·rfl
    ·rfl
    ·go_simp
     rfl
    refine hK.out _ _ ⟨((cell_far (p := ⟨gb289, _, none⟩) NB301_289.out _).trans (((cell_far (p := ⟨gb289, _, none⟩) NB301_289.out _).trans (((cell_far (p := ⟨gb289, _, none⟩) NB301_289.out _).trans (((cell_far (p := ⟨gb289, _, none⟩) NB301_289.out _).trans (((cell_far (p := ⟨gb289, _, none⟩) NB301_289.out _).trans (((cell_far (p := ⟨gb289, _, none⟩) NB301_289.out _).trans (((cell_far (p := ⟨gb289, _, none⟩) NB301_289.out _).trans (hHeld.1)))))))))))))), ((cell_far (p := ⟨gb289, _, none⟩) NB301_289.out _).trans (((cell_far (p := ⟨gb289, _, none⟩) NB301_289.out _).trans (((cell_far (p := ⟨gb289, _, none⟩) NB301_289.out _).trans (((cell_far (p := ⟨gb289, _, none⟩) NB301_289.out _).trans (((cell_far (p := ⟨gb289, _, none⟩) NB301_289.out _).trans (((cell_far (p := ⟨gb289, _, none⟩) NB301_289.out _).trans (((cell_far (p := ⟨gb289, _, none⟩) NB301_289.out _).trans (hHeld.2.1)))))))))))))), ((cell_far (p := ⟨gb289, _, none⟩) NB301_289.out _).trans (((cell_far (p := ⟨gb289, _, none⟩) NB301_289.out _).trans (((cell_far (p := ⟨gb289, _, none⟩) NB301_289.out _).trans (((cell_far (p := ⟨gb289, _, none⟩) NB301_289.out _).trans (((cell_far (p := ⟨gb289, _, none⟩) NB301_289.out _).trans (((cell_far (p := ⟨gb289, _, none⟩) NB301_289.out _).trans (((cell_far (p := ⟨gb289, _, none⟩) NB301_289.out _).trans (hHeld.2.2.1)))))))))))))), ((cell_far (p := ⟨gb289, _, none⟩) NB301_289.out _).trans (((cell_far (p := ⟨gb289, _, none⟩) NB301_289.out _).trans (((cell_far (p := ⟨gb289, _, none⟩) NB301_289.out _).trans (((cell_far (p := ⟨gb289, _, none⟩) NB301_289.out _).trans (((cell_far (p := ⟨gb289, _, none⟩) NB301_289.out _).trans (((cell_far (p := ⟨gb289, _, none⟩) NB301_289.out _).trans (((cell_far (p := ⟨gb289, _, none⟩) NB301_289.out _).trans (hHeld.2.2.2.1)))))))))))))), ((cell_far (p := ⟨gb289, _, none⟩) NB301_289.out _).trans (((cell_far (p := ⟨gb289, _, none⟩) NB301_289.out _).trans (((cell_far (p := ⟨gb289, _, none⟩) NB301_289.out _).trans (((cell_far (p := ⟨gb289, _, none⟩) NB301_289.out _).trans (((cell_far (p := ⟨gb289, _, none⟩) NB301_289.out _).trans (((cell_far (p := ⟨gb289, _, none⟩) NB301_289.out _).trans (((cell_far (p := ⟨gb289, _, none⟩) NB301_289.out _).trans (hHeld.2.2.2.2.1)))))))))))))), ((cell_far (p := ⟨gb289, _, none⟩) NB301_289.out _).trans (((cell_far (p := ⟨gb289, _, none⟩) NB301_289.out _).trans (((cell_far (p := ⟨gb289, _, none⟩) NB301_289.out _).trans (((cell_far (p := ⟨gb289, _, none⟩) NB301_289.out _).trans (((cell_far (p := ⟨gb289, _, none⟩) NB301_289.out _).trans (((cell_far (p := ⟨gb289, _, none⟩) NB301_289.out _).trans (((cell_far (p := ⟨gb289, _, none⟩) NB301_289.out _).trans (hHeld.2.2.2.2.2.1)))))))))))))), ((cell_far (p := ⟨gb289, _, none⟩) NB301_289.out _).trans (((cell_far (p := ⟨gb289, _, none⟩) NB301_289.out _).trans (((cell_far (p := ⟨gb289, _, none⟩) NB301_289.out _).trans (((cell_far (p := ⟨gb289, _, none⟩) NB301_289.out _).trans (((cell_far (p := ⟨gb289, _, none⟩) NB301_289.out _).trans (((cell_far (p := ⟨gb289, _, none⟩) NB301_289.out _).trans (((cell_far (p := ⟨gb289, _, none⟩) NB301_289.out _).trans (hHeld.2.2.2.2.2.2))))))))))))))⟩ (fun hHeld => ?_)
    clear hK K
    refine one_ (i := 9) (N := none) #[true, true, true, true, true, true, true, true, true, true, false, false] rfl rfl (one_of HT_.out (by kernel_rfl)) (by decide) (fun K hK => ?_)
    have hs37 : w29.cell? ⟨gb290, 0, none⟩ = some (.bool false) := (blk_cell BK290.out 0).trans rfl
    have hfs37 := blk_frozen BK290.out 0
    have hns37_0 := NB289_290.out
    have hns37_2 := NB301_290.out
    have hms37_0 := NB290_289.out
    have hms37_2 := NB290_301.out
    have hs38 : w29.cell? ⟨gb290, 1, none⟩ = some (.int .i64 0) := (blk_cell BK290.out 1).trans rfl
    have hfs38 := blk_frozen BK290.out 1
    have hns38_0 := NB289_290.out
    have hns38_2 := NB301_290.out
    have hms38_0 := NB290_289.out
    have hms38_2 := NB290_301.out
    have hs39 : w29.cell? ⟨gb290, 2, none⟩ = some (.int .i64 0) := (blk_cell BK290.out 2).trans rfl
    have hfs39 := blk_frozen BK290.out 2
    have hns39_0 := NB289_290.out
    have hns39_2 := NB301_290.out
    have hms39_0 := NB290_289.out
    have hms39_2 := NB290_301.out
    have hs40 : w29.cell? ⟨gb290, 3, none⟩ = some (.int .i64 0) := (blk_cell BK290.out 3).trans rfl
    have hfs40 := blk_frozen BK290.out 3
    have hns40_0 := NB289_290.out
    have hns40_2 := NB301_290.out
    have hms40_0 := NB290_289.out
    have hms40_2 := NB290_301.out
    refine skip_ (w1 := ?_) ?_ ?_ ?_ ?_
    rotate_left
    ·rfl
    ·rfl
    ·go_simp
     rfl
    refine hK.out _ _ ⟨((cell_far (p := ⟨gb290, _, none⟩) NB301_290.out _).trans (((cell_far (p := ⟨gb290, _, none⟩) NB301_290.out _).trans (((cell_far (p := ⟨gb290, _, none⟩) NB301_290.out _).trans (((cell_far (p := ⟨gb290, _, none⟩) NB301_290.out _).trans (hHeld.1)))))))), ((cell_far (p := ⟨gb290, _, none⟩) NB301_290.out _).trans (((cell_far (p := ⟨gb290, _, none⟩) NB301_290.out _).trans (((cell_far (p := ⟨gb290, _, none⟩) NB301_290.out _).trans (((cell_far (p := ⟨gb290, _, none⟩) NB301_290.out _).trans (hHeld.2.1)))))))), ((cell_far (p := ⟨gb290, _, none⟩) NB301_290.out _).trans (((cell_far (p := ⟨gb290, _, none⟩) NB301_290.out _).trans (((cell_far (p := ⟨gb290, _, none⟩) NB301_290.out _).trans (((cell_far (p := ⟨gb290, _, none⟩) NB301_290.out _).trans (hHeld.2.2.1)))))))), ((cell_far (p := ⟨gb290, _, none⟩) NB301_290.out _).trans (((cell_far (p := ⟨gb290, _, none⟩) NB301_290.out _).trans (((cell_far (p := ⟨gb290, _, none⟩) NB301_290.out _).trans (((cell_far (p := ⟨gb290, _, none⟩) NB301_290.out _).trans (hHeld.2.2.2.1)))))))), ((cell_far (p := ⟨gb290, _, none⟩) NB301_290.out _).trans (((cell_far (p := ⟨gb290, _, none⟩) NB301_290.out _).trans (((cell_far (p := ⟨gb290, _, none⟩) NB301_290.out _).trans (((cell_far (p := ⟨gb290, _, none⟩) NB301_290.out _).trans (hHeld.2.2.2.2.1)))))))), ((cell_far (p := ⟨gb290, _, none⟩) NB301_290.out _).trans (((cell_far (p := ⟨gb290, _, none⟩) NB301_290.out _).trans (((cell_far (p := ⟨gb290, _, none⟩) NB301_290.out _).trans (((cell_far (p := ⟨gb290, _, none⟩) NB301_290.out _).trans (hHeld.2.2.2.2.2.1)))))))), ((cell_far (p := ⟨gb290, _, none⟩) NB301_290.out _).trans (((cell_far (p := ⟨gb290, _, none⟩) NB301_290.out _).trans (((cell_far (p := ⟨gb290, _, none⟩) NB301_290.out _).trans (((cell_far (p := ⟨gb290, _, none⟩) NB301_290.out _).trans (hHeld.2.2.2.2.2.2))))))))⟩ (fun hHeld => ?_)
    clear hK K
    refine pure_ (i := 10) (N := some 4) (v := ?_) (a' := ?_) #[true, true, true, true, true, true, true, true, true, true, true, false] rfl rfl (any_of HT_.out (by kernel_rfl)) (fun _ _ _ h => h) (Or.inl ⟨by rfl, ?_⟩) ?_ ?_
    rotate_left
    ·intro w'
     go_simp
     with_reducible rfl
    rotate_left
    ·simp only [Act.put, List.setIfInBounds_toArray, List.set_cons_zero, List.set_cons_succ, i64_w, i32_w]
     rfl
    refine pure_ (i := 11) (N := some 5) (v := ?_) (a' := ?_) #[true, true, true, true, true, true, true, true, true, true, true, true] rfl rfl (any_of HT_.out (by kernel_rfl)) (fun _ _ _ h => h) (Or.inl ⟨by rfl, ?_⟩) ?_ ?_
    rotate_left
    ·intro w'
     go_simp
     with_reducible rfl
    rotate_left
    ·simp only [Act.put, List.setIfInBounds_toArray, List.set_cons_zero, List.set_cons_succ, i64_w, i32_w]
     rfl
    refine done_ (done_of HT_.out (by kernel_rfl)) ?_
    try go_wp2
    refine bodyPost_ret (results_list (rs := [.cell 2 30, .cell 3 27, .tmp 4, .tmp 5]) rfl (by simp) (.cell gb289 30 #[.int .i64 t292, .int .i64 t293, .int .i64 t294, .int .i64 t295, .int .i64 t296, .int .i64 t297, .int .i64 t298] (0, 0) _ rfl (by refine pk ?_; refine blk_far ?_ NB289_290.out _; refine pk ?_; refine blk_far ?_ NB289_290.out _; refine pk ?_; refine blk_far ?_ NB289_290.out _; refine pk ?_; refine blk_far ?_ NB289_290.out _; refine pk ?_; refine blk_put (cs := #[.int .i64 t292, .int .i64 t293, .int .i64 t294, .int .i64 t295, .int .i64 t296, .int .i64 t297, .int .i64 0]) ?_ 6 _ rfl; refine pk ?_; refine blk_put (cs := #[.int .i64 t292, .int .i64 t293, .int .i64 t294, .int .i64 t295, .int .i64 t296, .int .i64 0, .int .i64 0]) ?_ 5 _ rfl; refine pk ?_; refine blk_put (cs := #[.int .i64 t292, .int .i64 t293, .int .i64 t294, .int .i64 t295, .int .i64 0, .int .i64 0, .int .i64 0]) ?_ 4 _ rfl; refine pk ?_; refine blk_put (cs := #[.int .i64 t292, .int .i64 t293, .int .i64 t294, .int .i64 0, .int .i64 0, .int .i64 0, .int .i64 0]) ?_ 3 _ rfl; refine pk ?_; refine blk_put (cs := #[.int .i64 t292, .int .i64 t293, .int .i64 0, .int .i64 0, .int .i64 0, .int .i64 0, .int .i64 0]) ?_ 2 _ rfl; refine pk ?_; refine blk_put (cs := #[.int .i64 t292, .int .i64 0, .int .i64 0, .int .i64 0, .int .i64 0, .int .i64 0, .int .i64 0]) ?_ 1 _ rfl; refine pk ?_; refine blk_put (cs := #[.int .i64 0, .int .i64 0, .int .i64 0, .int .i64 0, .int .i64 0, .int .i64 0, .int .i64 0]) ?_ 0 _ rfl; refine pk ?_; exact BK289.out) Try.underlying30 rfl (by kernel_rfl) (.cell gb290 27 #[.bool t319, .int .i64 t320, .int .i64 t321, .int .i64 t322] (0, 0) _ rfl (by refine pk ?_; refine blk_put (cs := #[.bool t319, .int .i64 t320, .int .i64 t321, .int .i64 0]) ?_ 3 _ rfl; refine pk ?_; refine blk_put (cs := #[.bool t319, .int .i64 t320, .int .i64 0, .int .i64 0]) ?_ 2 _ rfl; refine pk ?_; refine blk_put (cs := #[.bool t319, .int .i64 0, .int .i64 0, .int .i64 0]) ?_ 1 _ rfl; refine pk ?_; refine blk_put (cs := #[.bool false, .int .i64 0, .int .i64 0, .int .i64 0]) ?_ 0 _ rfl; refine pk ?_; refine blk_far ?_ NB290_289.out _; refine pk ?_; refine blk_far ?_ NB290_289.out _; refine pk ?_; refine blk_far ?_ NB290_289.out _; refine pk ?_; refine blk_far ?_ NB290_289.out _; refine pk ?_; refine blk_far ?_ NB290_289.out _; refine pk ?_; refine blk_far ?_ NB290_289.out _; refine pk ?_; refine blk_far ?_ NB290_289.out _; refine pk ?_; exact BK290.out) Try.underlying27 rfl (by kernel_rfl) (.tmp (.tmp .nil))))) rfl ?_
    exact ⟨_, _, by first | rfl | (simp [errW_none, errW_some] <;> rfl) | (simp [*, errW_none, errW_some] <;> rfl), by refine rk ?_; exact Kd.R_mono (Kd.R_far (p := ⟨gb290, 3, none⟩) (Kd.R_far (p := ⟨gb290, 2, none⟩) (Kd.R_far (p := ⟨gb290, 1, none⟩) (Kd.R_far (p := ⟨gb290, 0, none⟩) (Kd.R_far (p := ⟨gb289, 6, none⟩) (Kd.R_far (p := ⟨gb289, 5, none⟩) (Kd.R_far (p := ⟨gb289, 4, none⟩) (Kd.R_far (p := ⟨gb289, 3, none⟩) (Kd.R_far (p := ⟨gb289, 2, none⟩) (Kd.R_far (p := ⟨gb289, 1, none⟩) (Kd.R_far (p := ⟨gb289, 0, none⟩) (Kd.R_types (Kd.R_types HO313.out BK289.out (by decide)) BK290.out (by decide)) (fun _ hk => hk.1.2) (.int .i64 t292)) (fun _ hk => hk.1.2) (.int .i64 t293)) (fun _ hk => hk.1.2) (.int .i64 t294)) (fun _ hk => hk.1.2) (.int .i64 t295)) (fun _ hk => hk.1.2) (.int .i64 t296)) (fun _ hk => hk.1.2) (.int .i64 t297)) (fun _ hk => hk.1.2) (.int .i64 t298)) (fun _ hk => hk.2) (.bool t319)) (fun _ hk => hk.2) (.int .i64 t320)) (fun _ hk => hk.2) (.int .i64 t321)) (fun _ hk => hk.2) (.int .i64 t322)) (fun _ hk => hk.1.1.2), by refine rk ?_; exact Kd.R_mono (Kd.R_far (p := ⟨gb290, 3, none⟩) (Kd.R_far (p := ⟨gb290, 2, none⟩) (Kd.R_far (p := ⟨gb290, 1, none⟩) (Kd.R_far (p := ⟨gb290, 0, none⟩) (Kd.R_far (p := ⟨gb289, 6, none⟩) (Kd.R_far (p := ⟨gb289, 5, none⟩) (Kd.R_far (p := ⟨gb289, 4, none⟩) (Kd.R_far (p := ⟨gb289, 3, none⟩) (Kd.R_far (p := ⟨gb289, 2, none⟩) (Kd.R_far (p := ⟨gb289, 1, none⟩) (Kd.R_far (p := ⟨gb289, 0, none⟩) (Kd.R_types (Kd.R_types HO327.out BK289.out (by decide)) BK290.out (by decide)) (fun _ hk => hk.1.2) (.int .i64 t292)) (fun _ hk => hk.1.2) (.int .i64 t293)) (fun _ hk => hk.1.2) (.int .i64 t294)) (fun _ hk => hk.1.2) (.int .i64 t295)) (fun _ hk => hk.1.2) (.int .i64 t296)) (fun _ hk => hk.1.2) (.int .i64 t297)) (fun _ hk => hk.1.2) (.int .i64 t298)) (fun _ hk => hk.2) (.bool t319)) (fun _ hk => hk.2) (.int .i64 t320)) (fun _ hk => hk.2) (.int .i64 t321)) (fun _ hk => hk.2) (.int .i64 t322)) (fun _ hk => hk.1.1.2), by repeat (first | (with_reducible first | exact HB.out | apply below_alloc | apply pw_below_drewN | apply below_drew1 | refine below_set ?_ (IsS61.ge HI291.out) | refine below_set ?_ GE289.out | refine below_set ?_ GE290.out | refine below_set ?_ GE301.out) | exact HB.out)⟩
   ·replace c22 := Bool.eq_false_iff.mpr c22
    subst c22
    have H1 : ((spec_l1Cur_hold.f kj4 l0 t317 t318 t292 t293 t294 t295 t296 t297 t298).bind fun bt330 => ((spec_l1Cur_levels.f kj4 l0 bt330.2.2.2.2.1 bt330.2.2.2.2.2 x8_4).bind fun bt336 => (some (t292, t293, t294, t295, t296, t297, t298, bt330.1, bt330.2.1, bt330.2.2.1, bt330.2.2.2.1, t311, bt336.1)))) = some (r1, r2, r3, r4, r5, r6, r7, r8, r9, r10, r11, r12, r13) := by rw [if_neg (show ¬ (false = true) by decide)] at H; exact H
    clear H
    have H := H1
    clear H1
    replace H := Option.bind_eq_some_iff.mp H
    obtain ⟨⟨t330, t331, t332, t333, t334, t335⟩, A410, H⟩ := H
    replace H : ((spec_l1Cur_levels.f kj4 l0 t334 t335 x8_4).bind fun bt336 => (some (t292, t293, t294, t295, t296, t297, t298, t330, t331, t332, t333, t311, bt336.1))) = some (r1, r2, r3, r4, r5, r6, r7, r8, r9, r10, r11, r12, r13) := H
    have A41 := Aside0.mk A410
    clear A410
    replace H := Option.bind_eq_some_iff.mp H
    obtain ⟨⟨t336, t339, t340⟩, A420, H⟩ := H
    replace H : (some (t292, t293, t294, t295, t296, t297, t298, t330, t331, t332, t333, t311, t336)) = some (r1, r2, r3, r4, r5, r6, r7, r8, r9, r10, r11, r12, r13) := H
    have A42 := Aside0.mk A420
    clear A420
    simp only [Option.some.injEq, Prod.mk.injEq] at H
    obtain ⟨rfl, rfl, rfl, rfl, rfl, rfl, rfl, rfl, rfl, rfl, rfl, rfl, rfl⟩ := H
    try go_wp2_with (first | ((with_reducible refine gate_callee (f := 36) rfl ?_); refine goesL_ (some 24) rfl rfl Try.func36 (by kernel_rfl) rfl #[.pointer (some ⟨gb291, 0, none⟩), .int .i64 x8_4] rfl (by (try simp only [lA, lB, lC]); first | done | rfl | (simp only [lD, lE]; rfl)) ?_; (with_reducible refine (spec_l1Cur_levels.calls kj4 gb291 l0 x292001_4 x292002_4 x8_4 t311 t314 t315 w _ ?side1 ?side2 A20.out).mono ?_); (case side1 => repeat (first | (with_reducible first | exact HI291.out | apply IsS61.alloc | apply IsS61.drewN | apply IsS61.drew | apply IsS61.set_1 | apply IsS61.set_2 | refine IsS61.far ?_ NB291_289.out _ | refine IsS61.far ?_ NB291_290.out _ | refine IsS61.far ?_ NB291_301.out _) | exact HI291.out)); (case side2 => repeat (first | (with_reducible first | exact HB.out | apply below_alloc | apply pw_below_drewN | apply below_drew1 | refine below_set ?_ (IsS61.ge HI291.out) | refine below_set ?_ GE289.out | refine below_set ?_ GE290.out | refine below_set ?_ GE301.out) | exact HB.out)); rintro e w43 ⟨v312, rfl, ho0, hi, hb, hk⟩; refine ⟨_, rfl, ?_⟩; replace BK289 := a_ (KeepBut.blk hk (g' := gb289) (o := .cells #[.int .i64 0, .int .i64 0, .int .i64 0, .int .i64 0, .int .i64 0, .int .i64 0, .int .i64 0] 30 (0, 0)) (pk BK289.out) NB289_291.out (by simp)); replace BK290 := a_ (KeepBut.blk hk (g' := gb290) (o := .cells #[.bool false, .int .i64 0, .int .i64 0, .int .i64 0] 27 (0, 0)) (pk BK290.out) NB290_291.out (by simp)); replace BK301 := a_ (KeepBut.blk hk (g' := gb301) (o := .cells #[.int .i64 t292, .int .i64 t293, .int .i64 t294, .int .i64 t295, .int .i64 t296, .int .i64 t297, .int .i64 t298] 30 (0, 0)) (pk BK301.out) NB301_291.out (by simp)); have HO313 := a_ (Kd.R_lower ho0 (below_size (by repeat (first | (with_reducible first | exact HB.out | apply below_alloc | apply pw_below_drewN | apply below_drew1 | refine below_set ?_ (IsS61.ge HI291.out) | refine below_set ?_ GE289.out | refine below_set ?_ GE290.out | refine below_set ?_ GE301.out) | exact HB.out)))); replace HB := a_ (hb); replace HI291 := a_ (hi); clear hb hk hi ho0) | ((with_reducible refine gate_callee (f := 27) rfl ?_); refine goesL_ (some 26) rfl rfl Try.func27 (by kernel_rfl) rfl #[.pointer (some ⟨gb291, 0, none⟩), .int .i64 24] rfl (by (try simp only [lA, lB, lC]); first | done | rfl | (simp only [lD, lE]; rfl)) ?_; (with_reducible refine (spec_l1Cur_one.calls gb291 l0 t314 t315 24 false t317 t318 w _ ?side1 ?side2 A21.out).mono ?_); (case side1 => repeat (first | (with_reducible first | exact HI291.out | apply IsS61.alloc | apply IsS61.drewN | apply IsS61.drew | apply IsS61.set_1 | apply IsS61.set_2 | refine IsS61.far ?_ NB291_289.out _ | refine IsS61.far ?_ NB291_290.out _ | refine IsS61.far ?_ NB291_301.out _) | exact HI291.out)); (case side2 => repeat (first | (with_reducible first | exact HB.out | apply below_alloc | apply pw_below_drewN | apply below_drew1 | refine below_set ?_ (IsS61.ge HI291.out) | refine below_set ?_ GE289.out | refine below_set ?_ GE290.out | refine below_set ?_ GE301.out) | exact HB.out)); rintro e w44 ⟨rfl, hi, hb, hk⟩; refine ⟨_, rfl, ?_⟩; replace BK289 := a_ (KeepBut.blk hk (g' := gb289) (o := .cells #[.int .i64 0, .int .i64 0, .int .i64 0, .int .i64 0, .int .i64 0, .int .i64 0, .int .i64 0] 30 (0, 0)) (pk BK289.out) NB289_291.out (by simp)); replace BK290 := a_ (KeepBut.blk hk (g' := gb290) (o := .cells #[.bool false, .int .i64 0, .int .i64 0, .int .i64 0] 27 (0, 0)) (pk BK290.out) NB290_291.out (by simp)); replace BK301 := a_ (KeepBut.blk hk (g' := gb301) (o := .cells #[.int .i64 t292, .int .i64 t293, .int .i64 t294, .int .i64 t295, .int .i64 t296, .int .i64 t297, .int .i64 t298] 30 (0, 0)) (pk BK301.out) NB301_291.out (by simp)); replace HO313 := a_ (Kd.R_mono (Kd.R_keep (IsS61.apart (show IsS61 w _ gb291 l0 t314 t315 from by repeat (first | (with_reducible first | exact HI291.out | apply IsS61.alloc | apply IsS61.drewN | apply IsS61.drew | apply IsS61.set_1 | apply IsS61.set_2 | refine IsS61.far ?_ NB291_289.out _ | refine IsS61.far ?_ NB291_290.out _ | refine IsS61.far ?_ NB291_301.out _) | exact HI291.out)) (rk HO313.out) (by decide)) hk (fun _ h => h.2)) (fun _ h => h.1)); replace HB := a_ (hb); replace HI291 := a_ (hi); clear hb hk hi))
    replace HO313 := a_ (Kd.R_drew HO313.out)
    replace BK289 := a_ (blk_drew BK289.out)
    replace BK290 := a_ (blk_drew BK290.out)
    replace BK301 := a_ (blk_drew BK301.out)
    replace HI291 := a_ (IsS61.drew HI291.out)
    replace HB := a_ (below_drew1 HB.out)
    refine start_ (n := 12) (S := fun w' => w'.cell? ⟨gb301, 0, none⟩ = some (.int .i64 t292) ∧ w'.cell? ⟨gb301, 1, none⟩ = some (.int .i64 t293) ∧ w'.cell? ⟨gb301, 2, none⟩ = some (.int .i64 t294) ∧ w'.cell? ⟨gb301, 3, none⟩ = some (.int .i64 t295) ∧ w'.cell? ⟨gb301, 4, none⟩ = some (.int .i64 t296) ∧ w'.cell? ⟨gb301, 5, none⟩ = some (.int .i64 t297) ∧ w'.cell? ⟨gb301, 6, none⟩ = some (.int .i64 t298)) (ds := []) #[false, false, false, false, false, false, false, false, false, false, false, false] (by kernel_rfl) rfl rfl ⟨(blk_cell BK301.out 0).trans rfl, (blk_cell BK301.out 1).trans rfl, (blk_cell BK301.out 2).trans rfl, (blk_cell BK301.out 3).trans rfl, (blk_cell BK301.out 4).trans rfl, (blk_cell BK301.out 5).trans rfl, (blk_cell BK301.out 6).trans rfl⟩ (fun hHeld => ?_); refine with_tabW spec_DrawRunHold.tab9 spec_DrawRunHold.bits9 (fun HT_ HW_ => ?_)
    generalize w44.drew = w45 at HO313 BK289 BK290 BK301 HI291 HB hHeld ⊢
    refine pure_ (i := 1) (N := some 30) (v := ?_) (a' := ?_) #[false, true, false, false, false, false, false, false, false, false, false, false] rfl rfl (any_of HT_.out (by kernel_rfl)) (fun _ _ _ h => h) (Or.inl ⟨by rfl, ?_⟩) ?_ ?_
    rotate_left
    ·intro w'
     go_simp
     with_reducible rfl
    rotate_left
    ·simp only [Act.put, List.setIfInBounds_toArray, List.set_cons_zero, List.set_cons_succ, i64_w, i32_w]
     rfl
    refine pure_ (i := 4) (N := some 33) (v := ?_) (a' := ?_) #[false, true, false, false, true, false, false, false, false, false, false, false] rfl rfl (any_of HT_.out (by kernel_rfl)) (fun _ _ _ h => h) (Or.inl ⟨by rfl, ?_⟩) ?_ ?_
    rotate_left
    ·intro w'
     go_simp
     with_reducible rfl
    rotate_left
    ·simp only [Act.put, List.setIfInBounds_toArray, List.set_cons_zero, List.set_cons_succ, i64_w, i32_w]
     rfl
    refine pure_ (i := 5) (N := some 34) (v := ?_) (a' := ?_) #[false, true, false, false, true, true, false, false, false, false, false, false] rfl rfl (any_of HT_.out (by kernel_rfl)) (fun _ _ _ h => h) (Or.inl ⟨by rfl, ?_⟩) ?_ ?_
    rotate_left
    ·intro w'
     go_simp
     with_reducible rfl
    rotate_left
    ·simp only [Act.put, List.setIfInBounds_toArray, List.set_cons_zero, List.set_cons_succ, i64_w, i32_w]
     rfl
    refine pure_ (i := 6) (N := some 35) (v := ?_) (a' := ?_) #[false, true, false, false, true, true, true, false, false, false, false, false] rfl rfl (any_of HT_.out (by kernel_rfl)) (fun _ _ _ h => h) (Or.inl ⟨by rfl, ?_⟩) ?_ ?_
    rotate_left
    ·intro w'
     go_simp
     with_reducible rfl
    rotate_left
    ·simp only [Act.put, List.setIfInBounds_toArray, List.set_cons_zero, List.set_cons_succ, i64_w, i32_w]
     rfl
    refine take_ (i := 0) (N := some 29) (v := ?_) (a' := ?_) #[true, true, false, false, true, true, true, false, false, false, false, false] rfl rfl (take_ofW HT_.out HW_.out (by kernel_rfl)) (fun _ _ _ h => h) (Or.inl ⟨by rfl, ?_⟩) hHeld ?_ ?_
    rotate_left
    ·rintro w' ⟨s0, s1, s2, s3, s4, s5, s6⟩
     go_simp
     with_reducible rfl
    rotate_left
    ·simp only [Act.put, List.setIfInBounds_toArray, List.set_cons_zero, List.set_cons_succ, i64_w, i32_w]
     rfl
    refine take_ (i := 2) (N := some 31) (v := ?_) (a' := ?_) #[true, true, true, false, true, true, true, false, false, false, false, false] rfl rfl (take_ofW HT_.out HW_.out (by kernel_rfl)) (fun _ _ _ h => h) (Or.inl ⟨by rfl, ?_⟩) hHeld ?_ ?_
    rotate_left
    ·rintro w' ⟨s0, s1, s2, s3, s4, s5, s6⟩
     go_simp
     with_reducible rfl
    rotate_left
    ·simp only [Act.put, List.setIfInBounds_toArray, List.set_cons_zero, List.set_cons_succ, i64_w, i32_w]
     rfl
    refine one_ (i := 3) (N := some 32) #[true, true, true, true, true, true, true, false, false, false, false, false] rfl rfl (one_of HT_.out (by kernel_rfl)) (by decide) (fun K hK => ?_)
    refine goes_ Try.func31 (by kernel_rfl) rfl #[.pointer (some ⟨gb291, 0, none⟩), .agg #[.int .i64 t292, .int .i64 t293, .int .i64 t294, .int .i64 t295, .int .i64 t296, .int .i64 t297, .int .i64 t298]] (by rfl) rfl rfl (by (try simp only [lA, lB, lC]); first | done | rfl | (simp only [lD, lE]; rfl)) ?_
    with_reducible refine (spec_l1Cur_hold.calls kj4 gb291 l0 t317 t318 t292 t293 t294 t295 t296 t297 t298 t330 t331 t332 t333 t334 t335 w _ ?side1 ?side2 A41.out).mono ?_
    (case side1 => repeat (first | (with_reducible first | exact HI291.out | apply IsS61.alloc | apply IsS61.drewN | apply IsS61.drew | apply IsS61.set_1 | apply IsS61.set_2 | refine IsS61.far ?_ NB291_289.out _ | refine IsS61.far ?_ NB291_290.out _ | refine IsS61.far ?_ NB291_301.out _) | exact HI291.out))
    (case side2 => repeat (first | (with_reducible first | exact HB.out | apply below_alloc | apply pw_below_drewN | apply below_drew1 | refine below_set ?_ (IsS61.ge HI291.out) | refine below_set ?_ GE289.out | refine below_set ?_ GE290.out | refine below_set ?_ GE301.out) | exact HB.out))
    rintro e w46 ⟨rfl, hi, hb, hk⟩
    refine ⟨_, rfl, ?_⟩
    replace BK289 := a_ (KeepBut.blk hk (g' := gb289) (o := .cells #[.int .i64 0, .int .i64 0, .int .i64 0, .int .i64 0, .int .i64 0, .int .i64 0, .int .i64 0] 30 (0, 0)) (pk BK289.out) NB289_291.out (by simp))
    replace BK290 := a_ (KeepBut.blk hk (g' := gb290) (o := .cells #[.bool false, .int .i64 0, .int .i64 0, .int .i64 0] 27 (0, 0)) (pk BK290.out) NB290_291.out (by simp))
    replace BK301 := a_ (KeepBut.blk hk (g' := gb301) (o := .cells #[.int .i64 t292, .int .i64 t293, .int .i64 t294, .int .i64 t295, .int .i64 t296, .int .i64 t297, .int .i64 t298] 30 (0, 0)) (pk BK301.out) NB301_291.out (by simp))
    replace HO313 := a_ (Kd.R_mono (Kd.R_keep (IsS61.apart (show IsS61 w _ gb291 l0 t317 t318 from by repeat (first | (with_reducible first | exact HI291.out | apply IsS61.alloc | apply IsS61.drewN | apply IsS61.drew | apply IsS61.set_1 | apply IsS61.set_2 | refine IsS61.far ?_ NB291_289.out _ | refine IsS61.far ?_ NB291_290.out _ | refine IsS61.far ?_ NB291_301.out _) | exact HI291.out)) (rk HO313.out) (by decide)) hk (fun _ h => h.2)) (fun _ h => h.1))
    replace HB := a_ (hb)
    replace HI291 := a_ (hi)
    (try clear hb)
    (try clear hb2)
    (try clear hk)
    (try clear hi)
    refine hK.out _ _ ⟨(blk_cell BK301.out 0).trans rfl, (blk_cell BK301.out 1).trans rfl, (blk_cell BK301.out 2).trans rfl, (blk_cell BK301.out 3).trans rfl, (blk_cell BK301.out 4).trans rfl, (blk_cell BK301.out 5).trans rfl, (blk_cell BK301.out 6).trans rfl⟩ (fun hHeld => ?_)
    clear hK K
    refine norm_ (a' := ?_) ?_ ?_
    rotate_left
    ·show Act.put _ (some 32) _ = _
     simp only [Act.put, List.setIfInBounds_toArray, List.set_cons_zero, List.set_cons_succ, i64_w, i32_w]
     rfl
    refine one_ (i := 7) (N := some 36) #[true, true, true, true, true, true, true, true, false, false, false, false] rfl rfl (one_of HT_.out (by kernel_rfl)) (by decide) (fun K hK => ?_)
    refine goes_ Try.func36 (by kernel_rfl) rfl #[.pointer (some ⟨gb291, 0, none⟩), .int .i64 x8_4] (by rfl) rfl rfl (by (try simp only [lA, lB, lC]); first | done | rfl | (simp only [lD, lE]; rfl)) ?_
    with_reducible refine (spec_l1Cur_levels.calls kj4 gb291 l0 t334 t335 x8_4 t336 t339 t340 w _ ?side1 ?side2 A42.out).mono ?_
    (case side1 => repeat (first | (with_reducible first | exact HI291.out | apply IsS61.alloc | apply IsS61.drewN | apply IsS61.drew | apply IsS61.set_1 | apply IsS61.set_2 | refine IsS61.far ?_ NB291_289.out _ | refine IsS61.far ?_ NB291_290.out _ | refine IsS61.far ?_ NB291_301.out _) | exact HI291.out))
    (case side2 => repeat (first | (with_reducible first | exact HB.out | apply below_alloc | apply pw_below_drewN | apply below_drew1 | refine below_set ?_ (IsS61.ge HI291.out) | refine below_set ?_ GE289.out | refine below_set ?_ GE290.out | refine below_set ?_ GE301.out) | exact HB.out))
    rintro e w47 ⟨v337, rfl, ho0, hi, hb, hk⟩
    refine ⟨_, rfl, ?_⟩
    replace BK289 := a_ (KeepBut.blk hk (g' := gb289) (o := .cells #[.int .i64 0, .int .i64 0, .int .i64 0, .int .i64 0, .int .i64 0, .int .i64 0, .int .i64 0] 30 (0, 0)) (pk BK289.out) NB289_291.out (by simp))
    replace BK290 := a_ (KeepBut.blk hk (g' := gb290) (o := .cells #[.bool false, .int .i64 0, .int .i64 0, .int .i64 0] 27 (0, 0)) (pk BK290.out) NB290_291.out (by simp))
    replace BK301 := a_ (KeepBut.blk hk (g' := gb301) (o := .cells #[.int .i64 t292, .int .i64 t293, .int .i64 t294, .int .i64 t295, .int .i64 t296, .int .i64 t297, .int .i64 t298] 30 (0, 0)) (pk BK301.out) NB301_291.out (by simp))
    have HO338 := a_ (Kd.R_lower (nw ho0 HO313.out) (below_size (by repeat (first | (with_reducible first | exact HB.out | apply below_alloc | apply pw_below_drewN | apply below_drew1 | refine below_set ?_ (IsS61.ge HI291.out) | refine below_set ?_ GE289.out | refine below_set ?_ GE290.out | refine below_set ?_ GE301.out) | exact HB.out))))
    replace HO313 := a_ (Kd.R_mono (Kd.R_told (Kd.R_oldK (IsS61.apart (show IsS61 w _ gb291 l0 t334 t335 from by repeat (first | (with_reducible first | exact HI291.out | apply IsS61.alloc | apply IsS61.drewN | apply IsS61.drew | apply IsS61.set_1 | apply IsS61.set_2 | refine IsS61.far ?_ NB291_289.out _ | refine IsS61.far ?_ NB291_290.out _ | refine IsS61.far ?_ NB291_301.out _) | exact HI291.out)) (rk HO313.out) (by decide)) hk) (Kd.R_base ho0)) (fun _ h_ => h_.1))
    replace HB := a_ (hb)
    replace HI291 := a_ (hi)
    (try clear hb)
    (try clear hb2)
    (try clear hk)
    (try clear hi)
    (try clear ho0)
    refine hK.out _ _ ⟨(blk_cell BK301.out 0).trans rfl, (blk_cell BK301.out 1).trans rfl, (blk_cell BK301.out 2).trans rfl, (blk_cell BK301.out 3).trans rfl, (blk_cell BK301.out 4).trans rfl, (blk_cell BK301.out 5).trans rfl, (blk_cell BK301.out 6).trans rfl⟩ (fun hHeld => ?_)
    clear hK K
    refine norm_ (a' := ?_) ?_ ?_
    rotate_left
    ·show Act.put _ (some 36) _ = _
     simp only [Act.put, List.setIfInBounds_toArray, List.set_cons_zero, List.set_cons_succ, i64_w, i32_w]
     rfl
    refine one_ (i := 8) (N := none) #[true, true, true, true, true, true, true, true, true, false, false, false] rfl rfl (one_of HT_.out (by kernel_rfl)) (by decide) (fun K hK => ?_)
    have hs48 : w47.cell? ⟨gb289, 0, none⟩ = some (.int .i64 0) := (blk_cell BK289.out 0).trans rfl
    have hfs48 := blk_frozen BK289.out 0
    have hns48_1 := NB290_289.out
    have hns48_2 := NB301_289.out
    have hms48_1 := NB289_290.out
    have hms48_2 := NB289_301.out
    have hs49 : w47.cell? ⟨gb289, 1, none⟩ = some (.int .i64 0) := (blk_cell BK289.out 1).trans rfl
    have hfs49 := blk_frozen BK289.out 1
    have hns49_1 := NB290_289.out
    have hns49_2 := NB301_289.out
    have hms49_1 := NB289_290.out
    have hms49_2 := NB289_301.out
    have hs50 : w47.cell? ⟨gb289, 2, none⟩ = some (.int .i64 0) := (blk_cell BK289.out 2).trans rfl
    have hfs50 := blk_frozen BK289.out 2
    have hns50_1 := NB290_289.out
    have hns50_2 := NB301_289.out
    have hms50_1 := NB289_290.out
    have hms50_2 := NB289_301.out
    have hs51 : w47.cell? ⟨gb289, 3, none⟩ = some (.int .i64 0) := (blk_cell BK289.out 3).trans rfl
    have hfs51 := blk_frozen BK289.out 3
    have hns51_1 := NB290_289.out
    have hns51_2 := NB301_289.out
    have hms51_1 := NB289_290.out
    have hms51_2 := NB289_301.out
    have hs52 : w47.cell? ⟨gb289, 4, none⟩ = some (.int .i64 0) := (blk_cell BK289.out 4).trans rfl
    have hfs52 := blk_frozen BK289.out 4
    have hns52_1 := NB290_289.out
    have hns52_2 := NB301_289.out
    have hms52_1 := NB289_290.out
    have hms52_2 := NB289_301.out
    have hs53 : w47.cell? ⟨gb289, 5, none⟩ = some (.int .i64 0) := (blk_cell BK289.out 5).trans rfl
    have hfs53 := blk_frozen BK289.out 5
    have hns53_1 := NB290_289.out
    have hns53_2 := NB301_289.out
    have hms53_1 := NB289_290.out
    have hms53_2 := NB289_301.out
    have hs54 : w47.cell? ⟨gb289, 6, none⟩ = some (.int .i64 0) := (blk_cell BK289.out 6).trans rfl
    have hfs54 := blk_frozen BK289.out 6
    have hns54_1 := NB290_289.out
    have hns54_2 := NB301_289.out
    have hms54_1 := NB289_290.out
    have hms54_2 := NB289_301.out
    refine skip_ (w1 := ?_) ?_ ?_ ?_ ?_
    rotate_left
    ·rfl
    ·rfl
    ·go_simp
     rfl
    refine hK.out _ _ ⟨((cell_far (p := ⟨gb289, _, none⟩) NB301_289.out _).trans (((cell_far (p := ⟨gb289, _, none⟩) NB301_289.out _).trans (((cell_far (p := ⟨gb289, _, none⟩) NB301_289.out _).trans (((cell_far (p := ⟨gb289, _, none⟩) NB301_289.out _).trans (((cell_far (p := ⟨gb289, _, none⟩) NB301_289.out _).trans (((cell_far (p := ⟨gb289, _, none⟩) NB301_289.out _).trans (((cell_far (p := ⟨gb289, _, none⟩) NB301_289.out _).trans (hHeld.1)))))))))))))), ((cell_far (p := ⟨gb289, _, none⟩) NB301_289.out _).trans (((cell_far (p := ⟨gb289, _, none⟩) NB301_289.out _).trans (((cell_far (p := ⟨gb289, _, none⟩) NB301_289.out _).trans (((cell_far (p := ⟨gb289, _, none⟩) NB301_289.out _).trans (((cell_far (p := ⟨gb289, _, none⟩) NB301_289.out _).trans (((cell_far (p := ⟨gb289, _, none⟩) NB301_289.out _).trans (((cell_far (p := ⟨gb289, _, none⟩) NB301_289.out _).trans (hHeld.2.1)))))))))))))), ((cell_far (p := ⟨gb289, _, none⟩) NB301_289.out _).trans (((cell_far (p := ⟨gb289, _, none⟩) NB301_289.out _).trans (((cell_far (p := ⟨gb289, _, none⟩) NB301_289.out _).trans (((cell_far (p := ⟨gb289, _, none⟩) NB301_289.out _).trans (((cell_far (p := ⟨gb289, _, none⟩) NB301_289.out _).trans (((cell_far (p := ⟨gb289, _, none⟩) NB301_289.out _).trans (((cell_far (p := ⟨gb289, _, none⟩) NB301_289.out _).trans (hHeld.2.2.1)))))))))))))), ((cell_far (p := ⟨gb289, _, none⟩) NB301_289.out _).trans (((cell_far (p := ⟨gb289, _, none⟩) NB301_289.out _).trans (((cell_far (p := ⟨gb289, _, none⟩) NB301_289.out _).trans (((cell_far (p := ⟨gb289, _, none⟩) NB301_289.out _).trans (((cell_far (p := ⟨gb289, _, none⟩) NB301_289.out _).trans (((cell_far (p := ⟨gb289, _, none⟩) NB301_289.out _).trans (((cell_far (p := ⟨gb289, _, none⟩) NB301_289.out _).trans (hHeld.2.2.2.1)))))))))))))), ((cell_far (p := ⟨gb289, _, none⟩) NB301_289.out _).trans (((cell_far (p := ⟨gb289, _, none⟩) NB301_289.out _).trans (((cell_far (p := ⟨gb289, _, none⟩) NB301_289.out _).trans (((cell_far (p := ⟨gb289, _, none⟩) NB301_289.out _).trans (((cell_far (p := ⟨gb289, _, none⟩) NB301_289.out _).trans (((cell_far (p := ⟨gb289, _, none⟩) NB301_289.out _).trans (((cell_far (p := ⟨gb289, _, none⟩) NB301_289.out _).trans (hHeld.2.2.2.2.1)))))))))))))), ((cell_far (p := ⟨gb289, _, none⟩) NB301_289.out _).trans (((cell_far (p := ⟨gb289, _, none⟩) NB301_289.out _).trans (((cell_far (p := ⟨gb289, _, none⟩) NB301_289.out _).trans (((cell_far (p := ⟨gb289, _, none⟩) NB301_289.out _).trans (((cell_far (p := ⟨gb289, _, none⟩) NB301_289.out _).trans (((cell_far (p := ⟨gb289, _, none⟩) NB301_289.out _).trans (((cell_far (p := ⟨gb289, _, none⟩) NB301_289.out _).trans (hHeld.2.2.2.2.2.1)))))))))))))), ((cell_far (p := ⟨gb289, _, none⟩) NB301_289.out _).trans (((cell_far (p := ⟨gb289, _, none⟩) NB301_289.out _).trans (((cell_far (p := ⟨gb289, _, none⟩) NB301_289.out _).trans (((cell_far (p := ⟨gb289, _, none⟩) NB301_289.out _).trans (((cell_far (p := ⟨gb289, _, none⟩) NB301_289.out _).trans (((cell_far (p := ⟨gb289, _, none⟩) NB301_289.out _).trans (((cell_far (p := ⟨gb289, _, none⟩) NB301_289.out _).trans (hHeld.2.2.2.2.2.2))))))))))))))⟩ (fun hHeld => ?_)
    clear hK K
    refine one_ (i := 9) (N := none) #[true, true, true, true, true, true, true, true, true, true, false, false] rfl rfl (one_of HT_.out (by kernel_rfl)) (by decide) (fun K hK => ?_)
    have hs55 : w47.cell? ⟨gb290, 0, none⟩ = some (.bool false) := (blk_cell BK290.out 0).trans rfl
    have hfs55 := blk_frozen BK290.out 0
    have hns55_0 := NB289_290.out
    have hns55_2 := NB301_290.out
    have hms55_0 := NB290_289.out
    have hms55_2 := NB290_301.out
    have hs56 : w47.cell? ⟨gb290, 1, none⟩ = some (.int .i64 0) := (blk_cell BK290.out 1).trans rfl
    have hfs56 := blk_frozen BK290.out 1
    have hns56_0 := NB289_290.out
    have hns56_2 := NB301_290.out
    have hms56_0 := NB290_289.out
    have hms56_2 := NB290_301.out
    have hs57 : w47.cell? ⟨gb290, 2, none⟩ = some (.int .i64 0) := (blk_cell BK290.out 2).trans rfl
    have hfs57 := blk_frozen BK290.out 2
    have hns57_0 := NB289_290.out
    have hns57_2 := NB301_290.out
    have hms57_0 := NB290_289.out
    have hms57_2 := NB290_301.out
    have hs58 : w47.cell? ⟨gb290, 3, none⟩ = some (.int .i64 0) := (blk_cell BK290.out 3).trans rfl
    have hfs58 := blk_frozen BK290.out 3
    have hns58_0 := NB289_290.out
    have hns58_2 := NB301_290.out
    have hms58_0 := NB290_289.out
    have hms58_2 := NB290_301.out
    refine skip_ (w1 := ?_) ?_ ?_ ?_ ?_
    rotate_left
    ·rfl
    ·rfl
    ·go_simp
     rfl
    refine hK.out _ _ ⟨((cell_far (p := ⟨gb290, _, none⟩) NB301_290.out _).trans (((cell_far (p := ⟨gb290, _, none⟩) NB301_290.out _).trans (((cell_far (p := ⟨gb290, _, none⟩) NB301_290.out _).trans (((cell_far (p := ⟨gb290, _, none⟩) NB301_290.out _).trans (hHeld.1)))))))), ((cell_far (p := ⟨gb290, _, none⟩) NB301_290.out _).trans (((cell_far (p := ⟨gb290, _, none⟩) NB301_290.out _).trans (((cell_far (p := ⟨gb290, _, none⟩) NB301_290.out _).trans (((cell_far (p := ⟨gb290, _, none⟩) NB301_290.out _).trans (hHeld.2.1)))))))), ((cell_far (p := ⟨gb290, _, none⟩) NB301_290.out _).trans (((cell_far (p := ⟨gb290, _, none⟩) NB301_290.out _).trans (((cell_far (p := ⟨gb290, _, none⟩) NB301_290.out _).trans (((cell_far (p := ⟨gb290, _, none⟩) NB301_290.out _).trans (hHeld.2.2.1)))))))), ((cell_far (p := ⟨gb290, _, none⟩) NB301_290.out _).trans (((cell_far (p := ⟨gb290, _, none⟩) NB301_290.out _).trans (((cell_far (p := ⟨gb290, _, none⟩) NB301_290.out _).trans (((cell_far (p := ⟨gb290, _, none⟩) NB301_290.out _).trans (hHeld.2.2.2.1)))))))), ((cell_far (p := ⟨gb290, _, none⟩) NB301_290.out _).trans (((cell_far (p := ⟨gb290, _, none⟩) NB301_290.out _).trans (((cell_far (p := ⟨gb290, _, none⟩) NB301_290.out _).trans (((cell_far (p := ⟨gb290, _, none⟩) NB301_290.out _).trans (hHeld.2.2.2.2.1)))))))), ((cell_far (p := ⟨gb290, _, none⟩) NB301_290.out _).trans (((cell_far (p := ⟨gb290, _, none⟩) NB301_290.out _).trans (((cell_far (p := ⟨gb290, _, none⟩) NB301_290.out _).trans (((cell_far (p := ⟨gb290, _, none⟩) NB301_290.out _).trans (hHeld.2.2.2.2.2.1)))))))), ((cell_far (p := ⟨gb290, _, none⟩) NB301_290.out _).trans (((cell_far (p := ⟨gb290, _, none⟩) NB301_290.out _).trans (((cell_far (p := ⟨gb290, _, none⟩) NB301_290.out _).trans (((cell_far (p := ⟨gb290, _, none⟩) NB301_290.out _).trans (hHeld.2.2.2.2.2.2))))))))⟩ (fun hHeld => ?_)
    clear hK K
    refine pure_ (i := 10) (N := some 4) (v := ?_) (a' := ?_) #[true, true, true, true, true, true, true, true, true, true, true, false] rfl rfl (any_of HT_.out (by kernel_rfl)) (fun _ _ _ h => h) (Or.inl ⟨by rfl, ?_⟩) ?_ ?_
    rotate_left
    ·intro w'
     go_simp
     with_reducible rfl
    rotate_left
    ·simp only [Act.put, List.setIfInBounds_toArray, List.set_cons_zero, List.set_cons_succ, i64_w, i32_w]
     rfl
    refine pure_ (i := 11) (N := some 5) (v := ?_) (a' := ?_) #[true, true, true, true, true, true, true, true, true, true, true, true] rfl rfl (any_of HT_.out (by kernel_rfl)) (fun _ _ _ h => h) (Or.inl ⟨by rfl, ?_⟩) ?_ ?_
    rotate_left
    ·intro w'
     go_simp
     with_reducible rfl
    rotate_left
    ·simp only [Act.put, List.setIfInBounds_toArray, List.set_cons_zero, List.set_cons_succ, i64_w, i32_w]
     rfl
    refine done_ (done_of HT_.out (by kernel_rfl)) ?_
    try go_wp2
    refine bodyPost_ret (results_list (rs := [.cell 2 30, .cell 3 27, .tmp 4, .tmp 5]) rfl (by simp) (.cell gb289 30 #[.int .i64 t292, .int .i64 t293, .int .i64 t294, .int .i64 t295, .int .i64 t296, .int .i64 t297, .int .i64 t298] (0, 0) _ rfl (by refine pk ?_; refine blk_far ?_ NB289_290.out _; refine pk ?_; refine blk_far ?_ NB289_290.out _; refine pk ?_; refine blk_far ?_ NB289_290.out _; refine pk ?_; refine blk_far ?_ NB289_290.out _; refine pk ?_; refine blk_put (cs := #[.int .i64 t292, .int .i64 t293, .int .i64 t294, .int .i64 t295, .int .i64 t296, .int .i64 t297, .int .i64 0]) ?_ 6 _ rfl; refine pk ?_; refine blk_put (cs := #[.int .i64 t292, .int .i64 t293, .int .i64 t294, .int .i64 t295, .int .i64 t296, .int .i64 0, .int .i64 0]) ?_ 5 _ rfl; refine pk ?_; refine blk_put (cs := #[.int .i64 t292, .int .i64 t293, .int .i64 t294, .int .i64 t295, .int .i64 0, .int .i64 0, .int .i64 0]) ?_ 4 _ rfl; refine pk ?_; refine blk_put (cs := #[.int .i64 t292, .int .i64 t293, .int .i64 t294, .int .i64 0, .int .i64 0, .int .i64 0, .int .i64 0]) ?_ 3 _ rfl; refine pk ?_; refine blk_put (cs := #[.int .i64 t292, .int .i64 t293, .int .i64 0, .int .i64 0, .int .i64 0, .int .i64 0, .int .i64 0]) ?_ 2 _ rfl; refine pk ?_; refine blk_put (cs := #[.int .i64 t292, .int .i64 0, .int .i64 0, .int .i64 0, .int .i64 0, .int .i64 0, .int .i64 0]) ?_ 1 _ rfl; refine pk ?_; refine blk_put (cs := #[.int .i64 0, .int .i64 0, .int .i64 0, .int .i64 0, .int .i64 0, .int .i64 0, .int .i64 0]) ?_ 0 _ rfl; refine pk ?_; exact BK289.out) Try.underlying30 rfl (by kernel_rfl) (.cell gb290 27 #[.bool t330, .int .i64 t331, .int .i64 t332, .int .i64 t333] (0, 0) _ rfl (by refine pk ?_; refine blk_put (cs := #[.bool t330, .int .i64 t331, .int .i64 t332, .int .i64 0]) ?_ 3 _ rfl; refine pk ?_; refine blk_put (cs := #[.bool t330, .int .i64 t331, .int .i64 0, .int .i64 0]) ?_ 2 _ rfl; refine pk ?_; refine blk_put (cs := #[.bool t330, .int .i64 0, .int .i64 0, .int .i64 0]) ?_ 1 _ rfl; refine pk ?_; refine blk_put (cs := #[.bool false, .int .i64 0, .int .i64 0, .int .i64 0]) ?_ 0 _ rfl; refine pk ?_; refine blk_far ?_ NB290_289.out _; refine pk ?_; refine blk_far ?_ NB290_289.out _; refine pk ?_; refine blk_far ?_ NB290_289.out _; refine pk ?_; refine blk_far ?_ NB290_289.out _; refine pk ?_; refine blk_far ?_ NB290_289.out _; refine pk ?_; refine blk_far ?_ NB290_289.out _; refine pk ?_; refine blk_far ?_ NB290_289.out _; refine pk ?_; exact BK290.out) Try.underlying27 rfl (by kernel_rfl) (.tmp (.tmp .nil))))) rfl ?_
    exact ⟨_, _, by first | rfl | (simp [errW_none, errW_some] <;> rfl) | (simp [*, errW_none, errW_some] <;> rfl), by refine rk ?_; exact Kd.R_mono (Kd.R_far (p := ⟨gb290, 3, none⟩) (Kd.R_far (p := ⟨gb290, 2, none⟩) (Kd.R_far (p := ⟨gb290, 1, none⟩) (Kd.R_far (p := ⟨gb290, 0, none⟩) (Kd.R_far (p := ⟨gb289, 6, none⟩) (Kd.R_far (p := ⟨gb289, 5, none⟩) (Kd.R_far (p := ⟨gb289, 4, none⟩) (Kd.R_far (p := ⟨gb289, 3, none⟩) (Kd.R_far (p := ⟨gb289, 2, none⟩) (Kd.R_far (p := ⟨gb289, 1, none⟩) (Kd.R_far (p := ⟨gb289, 0, none⟩) (Kd.R_types (Kd.R_types HO313.out BK289.out (by decide)) BK290.out (by decide)) (fun _ hk => hk.1.2) (.int .i64 t292)) (fun _ hk => hk.1.2) (.int .i64 t293)) (fun _ hk => hk.1.2) (.int .i64 t294)) (fun _ hk => hk.1.2) (.int .i64 t295)) (fun _ hk => hk.1.2) (.int .i64 t296)) (fun _ hk => hk.1.2) (.int .i64 t297)) (fun _ hk => hk.1.2) (.int .i64 t298)) (fun _ hk => hk.2) (.bool t330)) (fun _ hk => hk.2) (.int .i64 t331)) (fun _ hk => hk.2) (.int .i64 t332)) (fun _ hk => hk.2) (.int .i64 t333)) (fun _ hk => hk.1.1.2), by refine rk ?_; exact Kd.R_mono (Kd.R_far (p := ⟨gb290, 3, none⟩) (Kd.R_far (p := ⟨gb290, 2, none⟩) (Kd.R_far (p := ⟨gb290, 1, none⟩) (Kd.R_far (p := ⟨gb290, 0, none⟩) (Kd.R_far (p := ⟨gb289, 6, none⟩) (Kd.R_far (p := ⟨gb289, 5, none⟩) (Kd.R_far (p := ⟨gb289, 4, none⟩) (Kd.R_far (p := ⟨gb289, 3, none⟩) (Kd.R_far (p := ⟨gb289, 2, none⟩) (Kd.R_far (p := ⟨gb289, 1, none⟩) (Kd.R_far (p := ⟨gb289, 0, none⟩) (Kd.R_types (Kd.R_types HO338.out BK289.out (by decide)) BK290.out (by decide)) (fun _ hk => hk.1.2) (.int .i64 t292)) (fun _ hk => hk.1.2) (.int .i64 t293)) (fun _ hk => hk.1.2) (.int .i64 t294)) (fun _ hk => hk.1.2) (.int .i64 t295)) (fun _ hk => hk.1.2) (.int .i64 t296)) (fun _ hk => hk.1.2) (.int .i64 t297)) (fun _ hk => hk.1.2) (.int .i64 t298)) (fun _ hk => hk.2) (.bool t330)) (fun _ hk => hk.2) (.int .i64 t331)) (fun _ hk => hk.2) (.int .i64 t332)) (fun _ hk => hk.2) (.int .i64 t333)) (fun _ hk => hk.1.1.2), by repeat (first | (with_reducible first | exact HB.out | apply below_alloc | apply pw_below_drewN | apply below_drew1 | refine below_set ?_ (IsS61.ge HI291.out) | refine below_set ?_ GE289.out | refine below_set ?_ GE290.out | refine below_set ?_ GE301.out) | exact HB.out)⟩

/-! ### spec_l4Abs: function 38 -/
def spec_l4Abs.f (a0 : Int) : Option (Int) := if a0 < 0 then (some (wrap64 (-a0))) else (some a0)
set_option maxHeartbeats 8000000 in
set_option maxRecDepth 100000 in
theorem spec_l4Abs.calls (a0 : Int) (r : Int) (w : World) (h : spec_l4Abs.f a0 = some r) :
  Calls Try.prog 38 #[.int .i64 a0] w fun e w' => e = .returned (.int .i64 r) ∧ Drawn0 w w' := by
 have H : (if a0 < 0 then (some (wrap64 (-a0))) else (some a0)) = some r := h
 clear h
 by_cases c2 : a0 < 0
 ·rw [if_pos c2] at H
  have c2b0 : decide (a0 < 0) = true := decide_eq_true c2
  clear c2
  obtain rfl := Option.some.inj H
  go_enter Try.func38, Try.ntmps38
  go_wp2
  go_ret
  exact ⟨by first | rfl | (simp; done) | (simp [*]; done), by repeat (first | exact Drawn0.refl _ | apply Drawn0.step)⟩
 ·rw [if_neg c2] at H
  have c2b0 : decide (a0 < 0) = false := decide_eq_false c2
  clear c2
  obtain rfl := Option.some.inj H
  go_enter Try.func38, Try.ntmps38
  go_wp2
  go_ret
  exact ⟨by first | rfl | (simp; done) | (simp [*]; done), by repeat (first | exact Drawn0.refl _ | apply Drawn0.step)⟩

end Go.Proofs.Ytineniimpdjpnaa.PFnHold
