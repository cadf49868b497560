-- Written by a program of this session out of the loaded functions' print; helper lemmas as print.sh lays them.
import Derived.Test.YtgkjnocjdonjdaaUp2
import Derived.Test.YtgkjnocjdonjdaaUp
import Derived.Test.YtgkjnocjdonjdaaRFnCountsx0
import Derived.Test.YtgkjnocjdonjdaaRFnCountsx7
import Derived.Test.YtgkjnocjdonjdaaRFnCountsx8
namespace Go.Proofs.Ytgkjnocjdonjdaa.PFnCounts
open Go.RowKit Go.Proofs.YtgkjnocjdonjdaaW.PrintWords Go.Proofs.YtgkjnocjdonjdaaW.PrintLast Go.Proofs.YtgkjnocjdonjdaaW.PrintMore
attribute [local go_sem] max2_int min2_int max_two min_two max_three min_three max_four min_four  -- for this text's walks alone
set_option linter.unusedVariables false
set_option linter.unusedSimpArgs false

/-! ### spec_DrawAddRay: function 18 -/
mutual
def spec_DrawAddRay.j0 : Nat → Int → Int → List Int → Int → Int → Int → List Int → List Int → Option (Int × List Int × List Int × Int × Int × Int × Int × Bool)
 | 0, _, _, _, _, _, _, _, _ => none
 | k + 1, x10, x11, x282000, x282001, x282002, x292000, x292001, x292002 => (spec_l1Cur_one.f x282000 x282001 x282002 8).bind fun bt292 => (if bt292.1 = true then (spec_DrawAddRay.j1 k x10 x11 x282000 bt292.2.1 bt292.2.2 x292000 x292001 x292002) else (spec_DrawAddRay.j1 k (wrap64 (x10 - 1)) (wrap64 (x11 - 1)) x282000 bt292.2.1 bt292.2.2 x292000 x292001 x292002))
def spec_DrawAddRay.j1 : Nat → Int → Int → List Int → Int → Int → Int → List Int → List Int → Option (Int × List Int × List Int × Int × Int × Int × Int × Bool)
 | 0, _, _, _, _, _, _, _, _ => none
 | k + 1, x10, x11, x282000, x282001, x282002, x292000, x292001, x292002 => (spec_l1Cur_pick.f x282000 x282001 x282002 x10).bind fun bt295 => ((spec_l1Cur_pick.f x282000 bt295.2.1 bt295.2.2 x11).bind fun bt298 => ((spec_l1Cur_pick.f x282000 bt298.2.1 bt298.2.2 x10).bind fun bt301 => ((spec_l1Cur_pick.f x282000 bt301.2.1 bt301.2.2 x11).bind fun bt304 => ((spec_l1Cur_one.f x282000 bt304.2.1 bt304.2.2 2).bind fun bt307 => (some (x292000, x292001, x292002, bt295.1, bt298.1, bt301.1, bt304.1, bt307.1))))))
end
def spec_DrawAddRay.f (k : Nat) (l0 : List Int) : Option (Int × List Int × List Int × Int × Int × Int × Int × Bool) := (spec_l1Cur_counts.f k l0 0 0).bind fun bt282 => (if bt282.1 > 0 then (if bt282.1 = 0 then (none) else (spec_DrawAddRay.j0 k (wrap64 (bt282.1 + 1)) (wrap64 ((wrap64 ((bt282.2.1.length : Int) / bt282.1)) + 1)) l0 bt282.2.2.2.1 bt282.2.2.2.2 bt282.1 bt282.2.1 bt282.2.2.1)) else (spec_DrawAddRay.j0 k (wrap64 (bt282.1 + 1)) 1 l0 bt282.2.2.2.1 bt282.2.2.2.2 bt282.1 bt282.2.1 bt282.2.2.1))
theorem spec_DrawAddRay.mono_l : ∀ k, (∀ y0 y1 y2 y3 y4 y5 y6 y7, LeO (spec_DrawAddRay.j0 k y0 y1 y2 y3 y4 y5 y6 y7) (spec_DrawAddRay.j0 (k + 1) y0 y1 y2 y3 y4 y5 y6 y7)) ∧ (∀ y0 y1 y2 y3 y4 y5 y6 y7, LeO (spec_DrawAddRay.j1 k y0 y1 y2 y3 y4 y5 y6 y7) (spec_DrawAddRay.j1 (k + 1) y0 y1 y2 y3 y4 y5 y6 y7))
 | 0 => ⟨fun _ _ _ _ _ _ _ _ r h => by simp [spec_DrawAddRay.j0] at h, fun _ _ _ _ _ _ _ _ r h => by simp [spec_DrawAddRay.j1] at h⟩
 | k + 1 => by
  obtain ⟨ih0, ih1⟩ := spec_DrawAddRay.mono_l k
  refine ⟨?_, ?_⟩
  ·intro y0 y1 y2 y3 y4 y5 y6 y7
   unfold spec_DrawAddRay.j0
   repeat' first
   | (with_reducible exact ih0 _ _ _ _ _ _ _ _)
   | (with_reducible exact ih1 _ _ _ _ _ _ _ _)
   | (with_reducible exact spec_l1Cur_counts.mono _ _ _ _)
   | (with_reducible exact LeO.refl _)
   | (with_reducible exact LeO.none _)
   | (with_reducible refine LeO.ite ?_ ?_)
   | (with_reducible refine LeO.bind ?_ (fun _ => ?_))
   | exact ih0 _ _ _ _ _ _ _ _
   | exact ih1 _ _ _ _ _ _ _ _
   | exact spec_l1Cur_counts.mono _ _ _ _
   | exact LeO.none _
   | refine LeO.ite ?_ ?_
   | refine LeO.bind ?_ (fun _ => ?_)
  ·intro y0 y1 y2 y3 y4 y5 y6 y7
   unfold spec_DrawAddRay.j1
   repeat' first
   | (with_reducible exact ih0 _ _ _ _ _ _ _ _)
   | (with_reducible exact ih1 _ _ _ _ _ _ _ _)
   | (with_reducible exact spec_l1Cur_counts.mono _ _ _ _)
   | (with_reducible exact LeO.refl _)
   | (with_reducible exact LeO.none _)
   | (with_reducible refine LeO.ite ?_ ?_)
   | (with_reducible refine LeO.bind ?_ (fun _ => ?_))
   | exact ih0 _ _ _ _ _ _ _ _
   | exact ih1 _ _ _ _ _ _ _ _
   | exact spec_l1Cur_counts.mono _ _ _ _
   | exact LeO.none _
   | refine LeO.ite ?_ ?_
   | refine LeO.bind ?_ (fun _ => ?_)
theorem spec_DrawAddRay.mono : ∀ a0 k, LeO (spec_DrawAddRay.f k a0) (spec_DrawAddRay.f (k + 1) a0) := by
 intro a0 k
 obtain ⟨ih0, ih1⟩ := spec_DrawAddRay.mono_l k
 unfold spec_DrawAddRay.f
 repeat' first
   | (with_reducible exact ih0 _ _ _ _ _ _ _ _)
   | (with_reducible exact ih1 _ _ _ _ _ _ _ _)
   | (with_reducible exact spec_l1Cur_counts.mono _ _ _ _)
   | (with_reducible exact LeO.refl _)
   | (with_reducible exact LeO.none _)
   | (with_reducible refine LeO.ite ?_ ?_)
   | (with_reducible refine LeO.bind ?_ (fun _ => ?_))
   | exact ih0 _ _ _ _ _ _ _ _
   | exact ih1 _ _ _ _ _ _ _ _
   | exact spec_l1Cur_counts.mono _ _ _ _
   | exact LeO.none _
   | refine LeO.ite ?_ ?_
   | refine LeO.bind ?_ (fun _ => ?_)
def spec_DrawAddRay.T10 : Bool × List (List Nat × List Nat) := (true, [([], []), ([], []), ([], []), ([1, 2], [1, 2]), ([], []), ([], []), ([4, 5, 3], [4, 5]), ([], []), ([], []), ([7, 8, 6], [7, 8]), ([], []), ([], []), ([10, 11, 9], [10, 11]), ([], []), ([13, 12], [13]), ([0, 14, 0], [0]), ([3, 15, 0, 1, 2, 3, 15], [3]), ([6, 16, 0, 1, 2, 3, 4, 5, 6, 15, 16], [6]), ([9, 17, 0, 1, 2, 3, 4, 5, 6, 7, 8, 9, 15, 16, 17], [9]), ([12, 18, 0, 1, 2, 3, 4, 5, 6, 7, 8, 9, 10, 11, 12, 15, 16, 17, 18], [12]), ([14, 19, 0, 1, 2, 3, 4, 5, 6, 7, 8, 9, 10, 11, 12, 13, 14, 15, 16, 17, 18, 19], [14])])
def spec_DrawAddRay.B10 : List Nat := [0, 0, 0, 6, 0, 0, 62, 0, 0, 510, 0, 0, 4094, 0, 16382, 32767, 65535, 131071, 262143, 524287, 1048575]
theorem spec_DrawAddRay.tab10 : rtab .any (opsOf Try.f18 10) = spec_DrawAddRay.T10 := by kernel_rfl
theorem spec_DrawAddRay.bits10 : waitsOk spec_DrawAddRay.T10.2 spec_DrawAddRay.B10 = true := by kernel_rfl
set_option maxHeartbeats 8000000 in
set_option maxRecDepth 100000 in
theorem spec_DrawAddRay.calls (k : Nat) (A0 : Option Addr) (c0 : Nat) (l0 : List Int) (r1 : Int) (r2 : List Int) (r3 : List Int) (r4 : Int) (r5 : Int) (r6 : Int) (r7 : Int) (r8 : Bool) (w : World) (hr0 : Kd.C (Kd.int .u8) w A0 l0.length l0) (hc0 : l0.length ≤ c0) (h : spec_DrawAddRay.f k l0 = some (r1, r2, r3, r4, r5, r6, r7, r8)) :
  Calls Try.prog 18 #[.slice A0 l0.length c0] w fun e w' => ∃ v1_ v2_ : Value, e = .returned (.tuple #[.agg #[.int .i64 r1, v1_, v2_], .int .i64 r4, .int .i64 r5, .int .i64 r6, .int .i64 r7, .bool r8]) ∧ Kd.R (Kd.int .i64) 3 w' w.heap.size (fun k_ => N_ v2_ k_) v1_ r2 ∧ Kd.R (Kd.int .i64) 3 w' w.heap.size (fun k_ => N_ v1_ k_) v2_ r3 ∧ Below w.heap.size w w' := by
 have hu31 := Try.underlying31
 have hu55 := Try.underlying55
 have HR0 := Aside0.mk hr0
 have HC0 := Aside0.mk hc0
 clear hr0 hc0
 have HB := a_ (Below.refl w.heap.size w)
 have H : ((spec_l1Cur_counts.f k l0 0 0).bind fun bt282 => (if bt282.1 > 0 then (if bt282.1 = 0 then (none) else (spec_DrawAddRay.j0 k (wrap64 (bt282.1 + 1)) (wrap64 ((wrap64 ((bt282.2.1.length : Int) / bt282.1)) + 1)) l0 bt282.2.2.2.1 bt282.2.2.2.2 bt282.1 bt282.2.1 bt282.2.2.1)) else (spec_DrawAddRay.j0 k (wrap64 (bt282.1 + 1)) 1 l0 bt282.2.2.2.1 bt282.2.2.2.2 bt282.1 bt282.2.1 bt282.2.2.1))) = some (r1, r2, r3, r4, r5, r6, r7, r8) := h
 clear h
 replace H := Option.bind_eq_some_iff.mp H
 obtain ⟨⟨t282, t283, t286, t289, t290⟩, A20, H⟩ := H
 replace H : (if t282 > 0 then (if t282 = 0 then (none) else (spec_DrawAddRay.j0 k (wrap64 (t282 + 1)) (wrap64 ((wrap64 ((t283.length : Int) / t282)) + 1)) l0 t289 t290 t282 t283 t286)) else (spec_DrawAddRay.j0 k (wrap64 (t282 + 1)) 1 l0 t289 t290 t282 t283 t286)) = some (r1, r2, r3, r4, r5, r6, r7, r8) := H
 have A2 := Aside0.mk A20
 clear A20
 have HC3 := Aside0.mk H
 clear H
 go_enter Try.func18, Try.ntmps18
 go_upto_if 22 with (first | ((with_reducible refine gate_dst (N := 2) rfl ?_); refine box_event ?hg (N := 2) ?hd (cs := #[.int .i64 0, .slice none 0 0, .slice none 0 0]) (t := 31) ?hr ?_; (case hd => rfl); (case hg => rfl); (case hr => first | (go_simp; done) | (go_simp; rfl)); intro gb280 hg w4 hbox hb; have BK280 := a_ (hbox); have GW280 := a_ (bsg hg HB.out); have GE280 := a_ (bsg hg HB.out); replace HB := a_ (below_step (un HB.out) hb); clear hb hbox hg) | ((with_reducible refine gate_dst (N := 14) rfl ?_); refine box_event ?hg (N := 14) ?hd (cs := #[.slice A0 l0.length c0, .int .i64 0, .int .u64 0]) (t := 55) ?hr ?_; (case hd => rfl); (case hg => rfl); (case hr => first | (go_simp; done) | (go_simp; rfl)); intro gb281 hg w5 hbox hb; have GW281 := a_ (bsg hg HB.out); have GE281 := a_ (bsg hg HB.out); have NB280_281 := a_ (nel hg BK280.out); have NB281_280 := a_ (nle hg BK280.out); replace BK280 := a_ (blk_below (pk BK280.out) hb); have HI281 := a_ (show IsS55 w w5 gb281 l0 0 0 from ⟨_, _, hbox, (by rw [hg]; exact (below_size (by repeat (with_reducible first | exact HB.out | refine bz ?_ (by assumption) | apply bA | apply bN | apply bD))) : w.heap.size ≤ gb281), HR0.out⟩); replace HB := a_ (below_step (by repeat (with_reducible first | exact HB.out | refine bz ?_ (by assumption) | apply bA | apply bN | apply bD)) hb); clear hb hbox hg) | ((with_reducible refine gate_callee (f := 34) rfl ?_); refine goesL_ (some 16) rfl rfl Try.func34 (by kernel_rfl) rfl #[.pointer (some ⟨gb281, 0, none⟩)] rfl (by (try simp only [lA, lB, lC]); first | done | rfl | (simp only [lD, lE]; rfl)) ?_; (with_reducible refine (spec_l1Cur_counts.calls k gb281 l0 0 0 t282 t283 t286 t289 t290 w _ ?side1 ?side2 A2.out).mono ?_); (case side1 => repeat (first | (with_reducible first | exact HI281.out | apply IsS55.alloc | apply IsS55.drewN | apply IsS55.drew | apply IsS55.set_1 | apply IsS55.set_2 | refine IsS55.far ?_ NB281_280.out _) | exact HI281.out)); (case side2 => repeat (first | (with_reducible first | exact HB.out | apply below_alloc | apply pw_below_drewN | apply below_drew1 | refine below_set ?_ (IsS55.ge HI281.out) | refine below_set ?_ GE280.out) | exact HB.out)); rintro e w6 ⟨v284, v287, rfl, ho0, ho1, hi, hb, hk⟩; refine ⟨_, rfl, ?_⟩; replace BK280 := a_ (KeepBut.blk hk (g' := gb280) (o := .cells #[.int .i64 0, .slice none 0 0, .slice none 0 0] 31 (0, 0)) (pk BK280.out) NB280_281.out (by simp)); have HO285 := a_ (Kd.R_lower ho0 (below_size (by repeat (first | (with_reducible first | exact HB.out | apply below_alloc | apply pw_below_drewN | apply below_drew1 | refine below_set ?_ (IsS55.ge HI281.out) | refine below_set ?_ GE280.out) | exact HB.out)))); have HO288 := a_ (Kd.R_lower ho1 (below_size (by repeat (first | (with_reducible first | exact HB.out | apply below_alloc | apply pw_below_drewN | apply below_drew1 | refine below_set ?_ (IsS55.ge HI281.out) | refine below_set ?_ GE280.out) | exact HB.out)))); replace HB := a_ (hb); replace HI281 := a_ (hi); clear hb hk hi ho0 ho1) | ((with_reducible refine gate_dst (N := 9) rfl ?_); refine box_event ?hg (N := 9) ?hd (cs := #[.int .i64 0, .slice none 0 0, .slice none 0 0]) (t := 31) ?hr ?_; (case hd => rfl); (case hg => rfl); (case hr => first | (go_simp; done) | (go_simp; rfl)); intro gb291 hg w7 hbox hb; replace HO285 := a_ (Kd.R_below (rk HO285.out) hb); replace HO288 := a_ (Kd.R_below (rk HO288.out) hb); have BK291 := a_ (hbox); have GW291 := a_ (by rw [hg]; exact (below_size (by repeat (first | (with_reducible first | exact HB.out | apply below_alloc | apply pw_below_drewN | apply below_drew1 | refine below_set ?_ (IsS55.ge HI281.out) | refine below_set ?_ GE280.out) | exact HB.out))) : w.heap.size ≤ gb291); have GE291 := a_ (by rw [hg]; exact (below_size (by repeat (first | (with_reducible first | exact HB.out | apply below_alloc | apply pw_below_drewN | apply below_drew1 | refine below_set ?_ (IsS55.ge HI281.out) | refine below_set ?_ GE280.out) | exact HB.out))) : w.heap.size ≤ gb291); replace HB := a_ (below_step (by repeat (first | (with_reducible first | exact HB.out | apply below_alloc | apply pw_below_drewN | apply below_drew1 | refine below_set ?_ (IsS55.ge HI281.out) | refine below_set ?_ GE280.out) | exact HB.out)) hb); have NB280_291 := a_ (nel hg BK280.out); have NB291_280 := a_ (nle hg BK280.out); replace BK280 := a_ (blk_below (pk BK280.out) hb); have NB281_291 := a_ (by rw [hg]; exact Nat.ne_of_lt (IsS55.lt (show IsS55 w _ gb281 l0 t289 t290 from by repeat (first | (with_reducible first | exact HI281.out | apply IsS55.alloc | apply IsS55.drewN | apply IsS55.drew | apply IsS55.set_1 | apply IsS55.set_2 | refine IsS55.far ?_ NB281_280.out _) | exact HI281.out))) : gb281 ≠ gb291); have NB291_281 := a_ (by rw [hg]; exact Nat.ne_of_gt (IsS55.lt (show IsS55 w _ gb281 l0 t289 t290 from by repeat (first | (with_reducible first | exact HI281.out | apply IsS55.alloc | apply IsS55.drewN | apply IsS55.drew | apply IsS55.set_1 | apply IsS55.set_2 | refine IsS55.far ?_ NB281_280.out _) | exact HI281.out))) : gb291 ≠ gb281); replace HI281 := a_ (IsS55.below (by repeat (first | (with_reducible first | exact HI281.out | apply IsS55.alloc | apply IsS55.drewN | apply IsS55.drew | apply IsS55.set_1 | apply IsS55.set_2 | refine IsS55.far ?_ NB281_280.out _) | exact HI281.out)) hb); clear hb hbox hg; have hnb8 := NB291_280.out; have hnc8 := NB280_291.out; have hnb9 := NB291_281.out; have hnc9 := NB281_291.out; have hcz10_0 : _ = some (Value.int .i64 0) := (blk_cell BK291.out 0).trans rfl; have hcz10_1 : _ = some (Value.slice none 0 0) := (blk_cell BK291.out 1).trans rfl; have hcz10_2 : _ = some (Value.slice none 0 0) := (blk_cell BK291.out 2).trans rfl; have hfz10_0 := blk_frozen BK291.out 0; have hfz10_1 := blk_frozen BK291.out 1; have hfz10_2 := blk_frozen BK291.out 2; obtain ⟨Ao11, co11, eo11⟩ := Kd.R_slice HO285.out; subst eo11; obtain ⟨Ao12, co12, eo12⟩ := Kd.R_slice HO288.out; subst eo12))
 (try simp only [Act.put, sB, sC, sD])
 go_cut [11] (fun v11 wc => ∃ (kq : Nat) (x11_2 : Int), v11 = .int .i64 x11_2 ∧ Aside0 (spec_DrawAddRay.j0 kq (wrap64 (t282 + 1)) x11_2 l0 t289 t290 t282 t283 t286 = some (r1, r2, r3, r4, r5, r6, r7, r8)) ∧ Aside0 (kq ≤ k) ∧ Aside0 (Kd.R (Kd.int .i64) 3 wc w.heap.size (fun k_ => some k_ ≠ ((.slice Ao12 t286.length co12) : Value).ownBlock) (.slice Ao11 t283.length co11) t283) ∧ Aside0 (Kd.R (Kd.int .i64) 3 wc w.heap.size (fun k_ => some k_ ≠ ((.slice Ao11 t283.length co11) : Value).ownBlock) (.slice Ao12 t286.length co12) t286) ∧ Aside0 (wc.heap[gb280]? = some (.cells #[.int .i64 0, (.slice none 0 0), (.slice none 0 0)] 31 (0, 0))) ∧ Aside0 (wc.heap[gb291]? = some (.cells #[.int .i64 t282, (.slice Ao11 t283.length co11), (.slice Ao12 t286.length co12)] 31 (0, 0))) ∧ Aside0 (IsS55 w wc gb281 l0 t289 t290) ∧ Aside0 (Below w.heap.size w wc))
 case first =>
  have H := HC3.out
  clear HC3
  by_cases c13 : t282 > 0
  ·rw [if_pos c13] at H
   have c13b0 : decide (0 < t282) = true := decide_eq_true c13
   clear c13
   (first | rw [c13b0] | (simp only [i64_w, i32_w]; rw [c13b0]) | skip)
   by_cases c14 : t282 = 0
   ·rw [if_pos c14] at H
    exact absurd H (by simp)
   ·rw [if_neg c14] at H
    have c14b0 : (t282 == 0) = false := beq_eq_false_iff_ne.mpr c14
    have c14b1 : (t282 != 0) = true := bne_iff_ne.mpr c14
    have H' := Aside0.mk H
    clear H
    have hnb15 := NB291_280.out
    have hnc15 := NB280_291.out
    have hnb16 := NB291_281.out
    have hnc16 := NB281_291.out
    have hcz17_0 : _ = some (Value.int .i64 0) := (blk_cell BK291.out 0).trans rfl
    have hcz17_1 : _ = some (Value.slice none 0 0) := (blk_cell BK291.out 1).trans rfl
    have hcz17_2 : _ = some (Value.slice none 0 0) := (blk_cell BK291.out 2).trans rfl
    have hfz17_0 := blk_frozen BK291.out 0
    have hfz17_1 := blk_frozen BK291.out 1
    have hfz17_2 := blk_frozen BK291.out 2
    go_wp2
    go_meet
    case rel => exact ⟨_, (wrap64 ((wrap64 ((t283.length : Int) / t282)) + 1)), (by first | rfl | (simp; done) | (simp [*]; done)), H', ⟨by first | omega | exact Nat.le_refl _⟩, ⟨rk (Kd.R_mono (fr3 HO285.out BK291.out (by decide) 0 (.int .i64 t282) 1 (.slice Ao11 t283.length co11) 2 (.slice Ao12 t286.length co12)) (fun _ hk => hk.1))⟩, ⟨rk (Kd.R_mono (fr3 HO288.out BK291.out (by decide) 0 (.int .i64 t282) 1 (.slice Ao11 t283.length co11) 2 (.slice Ao12 t286.length co12)) (fun _ hk => hk.1))⟩, ⟨by refine pk ?_; refine blk_far ?_ NB280_291.out _; refine pk ?_; refine blk_far ?_ NB280_291.out _; refine pk ?_; refine blk_far ?_ NB280_291.out _; refine pk ?_; exact BK280.out⟩, ⟨by refine pk ?_; refine blk_put (cs := #[.int .i64 t282, .slice Ao11 t283.length co11, .slice none 0 0]) ?_ 2 _ rfl; refine pk ?_; refine blk_put (cs := #[.int .i64 t282, .slice none 0 0, .slice none 0 0]) ?_ 1 _ rfl; refine pk ?_; refine blk_put (cs := #[.int .i64 0, .slice none 0 0, .slice none 0 0]) ?_ 0 _ rfl; refine pk ?_; exact BK291.out⟩, ⟨by repeat (first | (with_reducible first | exact HI281.out | apply IsS55.alloc | apply IsS55.drewN | apply IsS55.drew | apply IsS55.set_1 | apply IsS55.set_2 | refine IsS55.far ?_ NB281_280.out _ | refine IsS55.far ?_ NB281_291.out _) | exact HI281.out)⟩, ⟨by repeat (first | (with_reducible first | exact HB.out | apply below_alloc | apply pw_below_drewN | apply below_drew1 | refine below_set ?_ (IsS55.ge HI281.out) | refine below_set ?_ GE280.out | refine below_set ?_ GE291.out) | exact HB.out)⟩⟩
  ·rw [if_neg c13] at H
   have c13b0 : decide (0 < t282) = false := decide_eq_false c13
   clear c13
   (first | rw [c13b0] | (simp only [i64_w, i32_w]; rw [c13b0]) | skip)
   have H' := Aside0.mk H
   clear H
   go_wp2
   go_meet
   case rel => exact ⟨_, (1), (by first | rfl | (simp; done) | (simp [*]; done)), H', ⟨by first | omega | exact Nat.le_refl _⟩, ⟨rk (Kd.R_mono (fr3 HO285.out BK291.out (by decide) 0 (.int .i64 t282) 1 (.slice Ao11 t283.length co11) 2 (.slice Ao12 t286.length co12)) (fun _ hk => hk.1))⟩, ⟨rk (Kd.R_mono (fr3 HO288.out BK291.out (by decide) 0 (.int .i64 t282) 1 (.slice Ao11 t283.length co11) 2 (.slice Ao12 t286.length co12)) (fun _ hk => hk.1))⟩, ⟨by refine pk ?_; refine blk_far ?_ NB280_291.out _; refine pk ?_; refine blk_far ?_ NB280_291.out _; refine pk ?_; refine blk_far ?_ NB280_291.out _; refine pk ?_; exact BK280.out⟩, ⟨by refine pk ?_; refine blk_put (cs := #[.int .i64 t282, .slice Ao11 t283.length co11, .slice none 0 0]) ?_ 2 _ rfl; refine pk ?_; refine blk_put (cs := #[.int .i64 t282, .slice none 0 0, .slice none 0 0]) ?_ 1 _ rfl; refine pk ?_; refine blk_put (cs := #[.int .i64 0, .slice none 0 0, .slice none 0 0]) ?_ 0 _ rfl; refine pk ?_; exact BK291.out⟩, ⟨by repeat (first | (with_reducible first | exact HI281.out | apply IsS55.alloc | apply IsS55.drewN | apply IsS55.drew | apply IsS55.set_1 | apply IsS55.set_2 | refine IsS55.far ?_ NB281_280.out _ | refine IsS55.far ?_ NB281_291.out _) | exact HI281.out)⟩, ⟨by repeat (first | (with_reducible first | exact HB.out | apply below_alloc | apply pw_below_drewN | apply below_drew1 | refine below_set ?_ (IsS55.ge HI281.out) | refine below_set ?_ GE280.out | refine below_set ?_ GE291.out) | exact HB.out)⟩⟩
 case rest =>
  clear HC3
  try clear c1; try clear p2; try clear c3; try clear p6; try clear c8; try clear c9; try clear c13; try clear c13b0; try clear c14; try clear c14b0; try clear c14b1; try clear c15; try clear c16; try clear hcz10_0; try clear hcz10_1; try clear hcz10_2; try clear hcz17_0; try clear hcz17_1; try clear hcz17_2; try clear hfz10_0; try clear hfz10_1; try clear hfz10_2; try clear hfz17_0; try clear hfz17_1; try clear hfz17_2
  obtain ⟨kq, x11_2, rfl, HA, HJ2, HO_292001, HO_292002, BK280, BK291, HI281, HB⟩ := hcut
  cases kq with
  | zero => exact absurd HA.out (by simp [spec_DrawAddRay.j0])
  | succ kj2 =>
   have H := HA.out
   clear HA
   simp only [spec_DrawAddRay.j0] at H
   replace H := Option.bind_eq_some_iff.mp H
   obtain ⟨⟨t292, t293, t294⟩, A180, H⟩ := H
   replace H : (if t292 = true then (spec_DrawAddRay.j1 kj2 (wrap64 (t282 + 1)) x11_2 l0 t293 t294 t282 t283 t286) else (spec_DrawAddRay.j1 kj2 (wrap64 ((wrap64 (t282 + 1)) - 1)) (wrap64 (x11_2 - 1)) l0 t293 t294 t282 t283 t286)) = some (r1, r2, r3, r4, r5, r6, r7, r8) := H
   have A18 := Aside0.mk A180
   clear A180
   have HC19 := Aside0.mk H
   clear H
   go_upto_if 32 with (first | ((with_reducible refine gate_callee (f := 35) rfl ?_); refine goesL_ (some 31) rfl rfl Try.func35 (by kernel_rfl) rfl #[.pointer (some ⟨gb281, 0, none⟩), .int .i64 8] rfl (by (try simp only [lA, lB, lC]); first | done | rfl | (simp only [lD, lE]; rfl)) ?_; (with_reducible refine (spec_l1Cur_one.calls gb281 l0 t289 t290 8 t292 t293 t294 w _ ?side1 ?side2 A18.out).mono ?_); (case side1 => repeat (first | (with_reducible first | exact HI281.out | apply IsS55.alloc | apply IsS55.drewN | apply IsS55.drew | apply IsS55.set_1 | apply IsS55.set_2 | refine IsS55.far ?_ NB281_280.out _ | refine IsS55.far ?_ NB281_291.out _) | exact HI281.out)); (case side2 => repeat (first | (with_reducible first | exact HB.out | apply below_alloc | apply pw_below_drewN | apply below_drew1 | refine below_set ?_ (IsS55.ge HI281.out) | refine below_set ?_ GE280.out | refine below_set ?_ GE291.out) | exact HB.out)); rintro e w20 ⟨rfl, hi, hb, hk⟩; refine ⟨_, rfl, ?_⟩; replace HO_292001 := a_ (Kd.R_mono (Kd.R_keep (IsS55.apart (show IsS55 w _ gb281 l0 t289 t290 from by repeat (first | (with_reducible first | exact HI281.out | apply IsS55.alloc | apply IsS55.drewN | apply IsS55.drew | apply IsS55.set_1 | apply IsS55.set_2 | refine IsS55.far ?_ NB281_280.out _ | refine IsS55.far ?_ NB281_291.out _) | exact HI281.out)) (rk HO_292001.out) (by decide)) hk (fun _ h => h.2)) (fun _ h => h.1)); replace HO_292002 := a_ (Kd.R_mono (Kd.R_keep (IsS55.apart (show IsS55 w _ gb281 l0 t289 t290 from by repeat (first | (with_reducible first | exact HI281.out | apply IsS55.alloc | apply IsS55.drewN | apply IsS55.drew | apply IsS55.set_1 | apply IsS55.set_2 | refine IsS55.far ?_ NB281_280.out _ | refine IsS55.far ?_ NB281_291.out _) | exact HI281.out)) (rk HO_292002.out) (by decide)) hk (fun _ h => h.2)) (fun _ h => h.1)); replace BK280 := a_ (KeepBut.blk hk (g' := gb280) (o := .cells #[.int .i64 0, .slice none 0 0, .slice none 0 0] 31 (0, 0)) (pk BK280.out) NB280_281.out (by simp)); replace BK291 := a_ (KeepBut.blk hk (g' := gb291) (o := .cells #[.int .i64 t282, .slice Ao11 t283.length co11, .slice Ao12 t286.length co12] 31 (0, 0)) (pk BK291.out) NB291_281.out (by simp)); replace HB := a_ (hb); replace HI281 := a_ (hi); clear hb hk hi))
   (try simp only [Act.put, sB, sC, sD])
   go_cut [10, 11] (fun v10 v11 wc => ∃ (kq : Nat) (x10_18 : Int) (x11_18 : Int), v10 = .int .i64 x10_18 ∧ v11 = .int .i64 x11_18 ∧ Aside0 (spec_DrawAddRay.j1 kq x10_18 x11_18 l0 t293 t294 t282 t283 t286 = some (r1, r2, r3, r4, r5, r6, r7, r8)) ∧ Aside0 (kq ≤ kj2) ∧ Aside0 (Kd.R (Kd.int .i64) 3 wc w.heap.size (fun k_ => some k_ ≠ ((.slice Ao12 t286.length co12) : Value).ownBlock) (.slice Ao11 t283.length co11) t283) ∧ Aside0 (Kd.R (Kd.int .i64) 3 wc w.heap.size (fun k_ => some k_ ≠ ((.slice Ao11 t283.length co11) : Value).ownBlock) (.slice Ao12 t286.length co12) t286) ∧ Aside0 (wc.heap[gb280]? = some (.cells #[.int .i64 0, (.slice none 0 0), (.slice none 0 0)] 31 (0, 0))) ∧ Aside0 (wc.heap[gb291]? = some (.cells #[.int .i64 t282, (.slice Ao11 t283.length co11), (.slice Ao12 t286.length co12)] 31 (0, 0))) ∧ Aside0 (IsS55 w wc gb281 l0 t293 t294) ∧ Aside0 (Below w.heap.size w wc))
   case first =>
    have H := HC19.out
    clear HC19
    by_cases c21 : t292 = true
    ·subst c21
     have H1 : (spec_DrawAddRay.j1 kj2 (wrap64 (t282 + 1)) x11_2 l0 t293 t294 t282 t283 t286) = some (r1, r2, r3, r4, r5, r6, r7, r8) := by rw [if_pos rfl] at H; exact H
     clear H
     have H := H1
     clear H1
     have H' := Aside0.mk H
     clear H
     go_wp2
     go_meet
     case rel => exact ⟨_, ((wrap64 (t282 + 1))), (x11_2), (by first | rfl | (simp; done) | (simp [*]; done)), (by first | rfl | (simp; done) | (simp [*]; done)), H', ⟨by have := HJ2.out; first | omega | exact Nat.le_refl _⟩, ⟨rk (HO_292001.out)⟩, ⟨rk (HO_292002.out)⟩, ⟨pk BK280.out⟩, ⟨pk BK291.out⟩, ⟨by repeat (first | (with_reducible first | exact HI281.out | apply IsS55.alloc | apply IsS55.drewN | apply IsS55.drew | apply IsS55.set_1 | apply IsS55.set_2 | refine IsS55.far ?_ NB281_280.out _ | refine IsS55.far ?_ NB281_291.out _) | exact HI281.out)⟩, ⟨by repeat (first | (with_reducible first | exact HB.out | apply below_alloc | apply pw_below_drewN | apply below_drew1 | refine below_set ?_ (IsS55.ge HI281.out) | refine below_set ?_ GE280.out | refine below_set ?_ GE291.out) | exact HB.out)⟩⟩
    ·replace c21 := Bool.eq_false_iff.mpr c21
     subst c21
     have H1 : (spec_DrawAddRay.j1 kj2 (wrap64 ((wrap64 (t282 + 1)) - 1)) (wrap64 (x11_2 - 1)) l0 t293 t294 t282 t283 t286) = some (r1, r2, r3, r4, r5, r6, r7, r8) := by rw [if_neg (show ¬ (false = true) by decide)] at H; exact H
     clear H
     have H := H1
     clear H1
     have H' := Aside0.mk H
     clear H
     go_wp2
     go_meet
     case rel => exact ⟨_, (wrap64 ((wrap64 (t282 + 1)) - 1)), (wrap64 (x11_2 - 1)), (by first | rfl | (simp; done) | (simp [*]; done)), (by first | rfl | (simp; done) | (simp [*]; done)), H', ⟨by have := HJ2.out; first | omega | exact Nat.le_refl _⟩, ⟨rk (HO_292001.out)⟩, ⟨rk (HO_292002.out)⟩, ⟨pk BK280.out⟩, ⟨pk BK291.out⟩, ⟨by repeat (first | (with_reducible first | exact HI281.out | apply IsS55.alloc | apply IsS55.drewN | apply IsS55.drew | apply IsS55.set_1 | apply IsS55.set_2 | refine IsS55.far ?_ NB281_280.out _ | refine IsS55.far ?_ NB281_291.out _) | exact HI281.out)⟩, ⟨by repeat (first | (with_reducible first | exact HB.out | apply below_alloc | apply pw_below_drewN | apply below_drew1 | refine below_set ?_ (IsS55.ge HI281.out) | refine below_set ?_ GE280.out | refine below_set ?_ GE291.out) | exact HB.out)⟩⟩
   case rest =>
    clear HC19
    try clear c1; try clear c2; try clear p2; try clear c3; try clear p6; try clear c8; try clear c9; try clear c13; try clear c13b0; try clear c14; try clear c14b0; try clear c14b1; try clear c15; try clear c16; try clear c18; try clear c21; try clear hcz10_0; try clear hcz10_1; try clear hcz10_2; try clear hcz17_0; try clear hcz17_1; try clear hcz17_2; try clear hfz10_0; try clear hfz10_1; try clear hfz10_2; try clear hfz17_0; try clear hfz17_1; try clear hfz17_2; try clear p2; try clear p6
    obtain ⟨kq, x10_18, x11_18, rfl, rfl, HA, HJ18, HO_292001, HO_292002, BK280, BK291, HI281, HB⟩ := hcut
    cases kq with
    | zero => exact absurd HA.out (by simp [spec_DrawAddRay.j1])
    | succ kj18 =>
     have H := HA.out
     clear HA
     simp only [spec_DrawAddRay.j1] at H
     replace H := Option.bind_eq_some_iff.mp H
     obtain ⟨⟨t295, t296, t297⟩, A220, H⟩ := H
     replace H : ((spec_l1Cur_pick.f l0 t296 t297 x11_18).bind fun bt298 => ((spec_l1Cur_pick.f l0 bt298.2.1 bt298.2.2 x10_18).bind fun bt301 => ((spec_l1Cur_pick.f l0 bt301.2.1 bt301.2.2 x11_18).bind fun bt304 => ((spec_l1Cur_one.f l0 bt304.2.1 bt304.2.2 2).bind fun bt307 => (some (t282, t283, t286, t295, bt298.1, bt301.1, bt304.1, bt307.1)))))) = some (r1, r2, r3, r4, r5, r6, r7, r8) := H
     have A22 := Aside0.mk A220
     clear A220
     replace H := Option.bind_eq_some_iff.mp H
     obtain ⟨⟨t298, t299, t300⟩, A230, H⟩ := H
     replace H : ((spec_l1Cur_pick.f l0 t299 t300 x10_18).bind fun bt301 => ((spec_l1Cur_pick.f l0 bt301.2.1 bt301.2.2 x11_18).bind fun bt304 => ((spec_l1Cur_one.f l0 bt304.2.1 bt304.2.2 2).bind fun bt307 => (some (t282, t283, t286, t295, t298, bt301.1, bt304.1, bt307.1))))) = some (r1, r2, r3, r4, r5, r6, r7, r8) := H
     have A23 := Aside0.mk A230
     clear A230
     replace H := Option.bind_eq_some_iff.mp H
     obtain ⟨⟨t301, t302, t303⟩, A240, H⟩ := H
     replace H : ((spec_l1Cur_pick.f l0 t302 t303 x11_18).bind fun bt304 => ((spec_l1Cur_one.f l0 bt304.2.1 bt304.2.2 2).bind fun bt307 => (some (t282, t283, t286, t295, t298, t301, bt304.1, bt307.1)))) = some (r1, r2, r3, r4, r5, r6, r7, r8) := H
     have A24 := Aside0.mk A240
     clear A240
     replace H := Option.bind_eq_some_iff.mp H
     obtain ⟨⟨t304, t305, t306⟩, A250, H⟩ := H
     replace H : ((spec_l1Cur_one.f l0 t305 t306 2).bind fun bt307 => (some (t282, t283, t286, t295, t298, t301, t304, bt307.1))) = some (r1, r2, r3, r4, r5, r6, r7, r8) := H
     have A25 := Aside0.mk A250
     clear A250
     replace H := Option.bind_eq_some_iff.mp H
     obtain ⟨⟨t307, t308, t309⟩, A260, H⟩ := H
     replace H : (some (t282, t283, t286, t295, t298, t301, t304, t307)) = some (r1, r2, r3, r4, r5, r6, r7, r8) := H
     have A26 := Aside0.mk A260
     clear A260
     simp only [Option.some.injEq, Prod.mk.injEq] at H
     obtain ⟨rfl, rfl, rfl, rfl, rfl, rfl, rfl, rfl⟩ := H
     try go_wp2
     replace HO_292001 := a_ (Kd.R_drew HO_292001.out)
     replace HO_292002 := a_ (Kd.R_drew HO_292002.out)
     replace BK280 := a_ (blk_drew BK280.out)
     replace BK291 := a_ (blk_drew BK291.out)
     replace HI281 := a_ (IsS55.drew HI281.out)
     replace HB := a_ (below_drew1 HB.out)
     refine start_ (n := 21) (S := fun w' => w'.cell? ⟨gb291, 0, none⟩ = some (.int .i64 t282) ∧ w'.cell? ⟨gb291, 1, none⟩ = some (.slice Ao11 t283.length co11) ∧ w'.cell? ⟨gb291, 2, none⟩ = some (.slice Ao12 t286.length co12)) (ds := []) #[false, false, false, false, false, false, false, false, false, false, false, false, false, false, false, false, false, false, false, false, false] (by kernel_rfl) rfl rfl ⟨(blk_cell BK291.out 0).trans rfl, (blk_cell BK291.out 1).trans rfl, (blk_cell BK291.out 2).trans rfl⟩ (fun hHeld => ?_); refine with_tabW spec_DrawAddRay.tab10 spec_DrawAddRay.bits10 (fun HT_ HW_ => ?_)
     generalize wc.drew = w27 at HO_292001 HO_292002 BK280 BK291 HI281 HB hHeld ⊢
     refine pure_ (i := 1) (N := some 38) (v := ?_) (a' := ?_) #[false, true, false, false, false, false, false, false, false, false, false, false, false, false, false, false, false, false, false, false, false] rfl rfl (any_of HT_.out (by kernel_rfl)) (fun _ _ _ h => h) (Or.inl ⟨by rfl, ?_⟩) ?_ ?_
     rotate_left
     ·intro w'
      go_simp
      with_reducible rfl
     rotate_left
     ·simp only [Act.put, sB, sC, sD, i64_w, i32_w]
      rfl
     refine pure_ (i := 2) (N := some 39) (v := ?_) (a' := ?_) #[false, true, true, false, false, false, false, false, false, false, false, false, false, false, false, false, false, false, false, false, false] rfl rfl (any_of HT_.out (by kernel_rfl)) (fun _ _ _ h => h) (Or.inl ⟨by rfl, ?_⟩) ?_ ?_
     rotate_left
     ·intro w'
      go_simp
      with_reducible rfl
     rotate_left
     ·simp only [Act.put, sB, sC, sD, i64_w, i32_w]
      rfl
     refine pure_ (i := 4) (N := some 41) (v := ?_) (a' := ?_) #[false, true, true, false, true, false, false, false, false, false, false, false, false, false, false, false, false, false, false, false, false] rfl rfl (any_of HT_.out (by kernel_rfl)) (fun _ _ _ h => h) (Or.inl ⟨by rfl, ?_⟩) ?_ ?_
     rotate_left
     ·intro w'
      go_simp
      with_reducible rfl
     rotate_left
     ·simp only [Act.put, sB, sC, sD, i64_w, i32_w]
      rfl
     refine pure_ (i := 5) (N := some 42) (v := ?_) (a' := ?_) #[false, true, true, false, true, true, false, false, false, false, false, false, false, false, false, false, false, false, false, false, false] rfl rfl (any_of HT_.out (by kernel_rfl)) (fun _ _ _ h => h) (Or.inl ⟨by rfl, ?_⟩) ?_ ?_
     rotate_left
     ·intro w'
      go_simp
      with_reducible rfl
     rotate_left
     ·simp only [Act.put, sB, sC, sD, i64_w, i32_w]
      rfl
     refine pure_ (i := 7) (N := some 44) (v := ?_) (a' := ?_) #[false, true, true, false, true, true, false, true, false, false, false, false, false, false, false, false, false, false, false, false, false] rfl rfl (any_of HT_.out (by kernel_rfl)) (fun _ _ _ h => h) (Or.inl ⟨by rfl, ?_⟩) ?_ ?_
     rotate_left
     ·intro w'
      go_simp
      with_reducible rfl
     rotate_left
     ·simp only [Act.put, sB, sC, sD, i64_w, i32_w]
      rfl
     refine pure_ (i := 8) (N := some 45) (v := ?_) (a' := ?_) #[false, true, true, false, true, true, false, true, true, false, false, false, false, false, false, false, false, false, false, false, false] rfl rfl (any_of HT_.out (by kernel_rfl)) (fun _ _ _ h => h) (Or.inl ⟨by rfl, ?_⟩) ?_ ?_
     rotate_left
     ·intro w'
      go_simp
      with_reducible rfl
     rotate_left
     ·simp only [Act.put, sB, sC, sD, i64_w, i32_w]
      rfl
     refine pure_ (i := 10) (N := some 47) (v := ?_) (a' := ?_) #[false, true, true, false, true, true, false, true, true, false, true, false, false, false, false, false, false, false, false, false, false] rfl rfl (any_of HT_.out (by kernel_rfl)) (fun _ _ _ h => h) (Or.inl ⟨by rfl, ?_⟩) ?_ ?_
     rotate_left
     ·intro w'
      go_simp
      with_reducible rfl
     rotate_left
     ·simp only [Act.put, sB, sC, sD, i64_w, i32_w]
      rfl
     refine pure_ (i := 11) (N := some 48) (v := ?_) (a' := ?_) #[false, true, true, false, true, true, false, true, true, false, true, true, false, false, false, false, false, false, false, false, false] rfl rfl (any_of HT_.out (by kernel_rfl)) (fun _ _ _ h => h) (Or.inl ⟨by rfl, ?_⟩) ?_ ?_
     rotate_left
     ·intro w'
      go_simp
      with_reducible rfl
     rotate_left
     ·simp only [Act.put, sB, sC, sD, i64_w, i32_w]
      rfl
     refine pure_ (i := 13) (N := some 50) (v := ?_) (a' := ?_) #[false, true, true, false, true, true, false, true, true, false, true, true, false, true, false, false, false, false, false, false, false] rfl rfl (any_of HT_.out (by kernel_rfl)) (fun _ _ _ h => h) (Or.inl ⟨by rfl, ?_⟩) ?_ ?_
     rotate_left
     ·intro w'
      go_simp
      with_reducible rfl
     rotate_left
     ·simp only [Act.put, sB, sC, sD, i64_w, i32_w]
      rfl
     refine take_ (i := 0) (N := some 37) (v := ?_) (a' := ?_) #[true, true, true, false, true, true, false, true, true, false, true, true, false, true, false, false, false, false, false, false, false] rfl rfl (take_ofW HT_.out HW_.out (by kernel_rfl)) (fun _ _ _ h => h) (Or.inl ⟨by rfl, ?_⟩) hHeld ?_ ?_
     rotate_left
     ·rintro w' ⟨s0, s1, s2⟩
      go_simp
      with_reducible rfl
     rotate_left
     ·simp only [Act.put, sB, sC, sD, i64_w, i32_w]
      rfl
     refine one_ (i := 3) (N := some 40) #[true, true, true, true, true, true, false, true, true, false, true, true, false, true, false, false, false, false, false, false, false] rfl rfl (one_of HT_.out (by kernel_rfl)) (by decide) (fun K hK => ?_)
     refine goes_ Try.func36 (by kernel_rfl) rfl #[.pointer (some ⟨gb281, 0, none⟩), .int .i64 x10_18] (by rfl) rfl rfl (by (try simp only [lA, lB, lC]); first | done | rfl | (simp only [lD, lE]; rfl)) ?_
     with_reducible refine (spec_l1Cur_pick.calls gb281 l0 t293 t294 x10_18 t295 t296 t297 w _ ?side1 ?side2 A22.out).mono ?_
     (case side1 => repeat (first | (with_reducible first | exact HI281.out | apply IsS55.alloc | apply IsS55.drewN | apply IsS55.drew | apply IsS55.set_1 | apply IsS55.set_2 | refine IsS55.far ?_ NB281_280.out _ | refine IsS55.far ?_ NB281_291.out _) | exact HI281.out))
     (case side2 => repeat (first | (with_reducible first | exact HB.out | apply below_alloc | apply pw_below_drewN | apply below_drew1 | refine below_set ?_ (IsS55.ge HI281.out) | refine below_set ?_ GE280.out | refine below_set ?_ GE291.out) | exact HB.out))
     rintro e w28 ⟨rfl, hi, hb, hk⟩
     refine ⟨_, rfl, ?_⟩
     replace HO_292001 := a_ (Kd.R_mono (Kd.R_keep (IsS55.apart (show IsS55 w _ gb281 l0 t293 t294 from by repeat (first | (with_reducible first | exact HI281.out | apply IsS55.alloc | apply IsS55.drewN | apply IsS55.drew | apply IsS55.set_1 | apply IsS55.set_2 | refine IsS55.far ?_ NB281_280.out _ | refine IsS55.far ?_ NB281_291.out _) | exact HI281.out)) (rk HO_292001.out) (by decide)) hk (fun _ h => h.2)) (fun _ h => h.1))
     replace HO_292002 := a_ (Kd.R_mono (Kd.R_keep (IsS55.apart (show IsS55 w _ gb281 l0 t293 t294 from by repeat (first | (with_reducible first | exact HI281.out | apply IsS55.alloc | apply IsS55.drewN | apply IsS55.drew | apply IsS55.set_1 | apply IsS55.set_2 | refine IsS55.far ?_ NB281_280.out _ | refine IsS55.far ?_ NB281_291.out _) | exact HI281.out)) (rk HO_292002.out) (by decide)) hk (fun _ h => h.2)) (fun _ h => h.1))
     replace BK280 := a_ (KeepBut.blk hk (g' := gb280) (o := .cells #[.int .i64 0, .slice none 0 0, .slice none 0 0] 31 (0, 0)) (pk BK280.out) NB280_281.out (by simp))
     replace BK291 := a_ (KeepBut.blk hk (g' := gb291) (o := .cells #[.int .i64 t282, .slice Ao11 t283.length co11, .slice Ao12 t286.length co12] 31 (0, 0)) (pk BK291.out) NB291_281.out (by simp))
     replace HB := a_ (hb)
     replace HI281 := a_ (hi)
     (try clear hb)
     (try clear hb2)
     (try clear hk)
     (try clear hi)
     refine hK.out _ _ ⟨(blk_cell BK291.out 0).trans rfl, (blk_cell BK291.out 1).trans rfl, (blk_cell BK291.out 2).trans rfl⟩ (fun hHeld => ?_)
     clear hK K
     refine norm_ (a' := ?_) ?_ ?_
     rotate_left
     ·show Act.put _ (some 40) _ = _
      simp only [Act.put, sB, sC, sD, i64_w, i32_w]
      rfl
     refine one_ (i := 6) (N := some 43) #[true, true, true, true, true, true, true, true, true, false, true, true, false, true, false, false, false, false, false, false, false] rfl rfl (one_of HT_.out (by kernel_rfl)) (by decide) (fun K hK => ?_)
     refine goes_ Try.func36 (by kernel_rfl) rfl #[.pointer (some ⟨gb281, 0, none⟩), .int .i64 x11_18] (by rfl) rfl rfl (by (try simp only [lA, lB, lC]); first | done | rfl | (simp only [lD, lE]; rfl)) ?_
     with_reducible refine (spec_l1Cur_pick.calls gb281 l0 t296 t297 x11_18 t298 t299 t300 w _ ?side1 ?side2 A23.out).mono ?_
     (case side1 => repeat (first | (with_reducible first | exact HI281.out | apply IsS55.alloc | apply IsS55.drewN | apply IsS55.drew | apply IsS55.set_1 | apply IsS55.set_2 | refine IsS55.far ?_ NB281_280.out _ | refine IsS55.far ?_ NB281_291.out _) | exact HI281.out))
     (case side2 => repeat (first | (with_reducible first | exact HB.out | apply below_alloc | apply pw_below_drewN | apply below_drew1 | refine below_set ?_ (IsS55.ge HI281.out) | refine below_set ?_ GE280.out | refine below_set ?_ GE291.out) | exact HB.out))
     rintro e w29 ⟨rfl, hi, hb, hk⟩
     refine ⟨_, rfl, ?_⟩
     replace HO_292001 := a_ (Kd.R_mono (Kd.R_keep (IsS55.apart (show IsS55 w _ gb281 l0 t296 t297 from by repeat (first | (with_reducible first | exact HI281.out | apply IsS55.alloc | apply IsS55.drewN | apply IsS55.drew | apply IsS55.set_1 | apply IsS55.set_2 | refine IsS55.far ?_ NB281_280.out _ | refine IsS55.far ?_ NB281_291.out _) | exact HI281.out)) (rk HO_292001.out) (by decide)) hk (fun _ h => h.2)) (fun _ h => h.1))
     replace HO_292002 := a_ (Kd.R_mono (Kd.R_keep (IsS55.apart (show IsS55 w _ gb281 l0 t296 t297 from by repeat (first | (with_reducible first | exact HI281.out | apply IsS55.alloc | apply IsS55.drewN | apply IsS55.drew | apply IsS55.set_1 | apply IsS55.set_2 | refine IsS55.far ?_ NB281_280.out _ | refine IsS55.far ?_ NB281_291.out _) | exact HI281.out)) (rk HO_292002.out) (by decide)) hk (fun _ h => h.2)) (fun _ h => h.1))
     replace BK280 := a_ (KeepBut.blk hk (g' := gb280) (o := .cells #[.int .i64 0, .slice none 0 0, .slice none 0 0] 31 (0, 0)) (pk BK280.out) NB280_281.out (by simp))
     replace BK291 := a_ (KeepBut.blk hk (g' := gb291) (o := .cells #[.int .i64 t282, .slice Ao11 t283.length co11, .slice Ao12 t286.length co12] 31 (0, 0)) (pk BK291.out) NB291_281.out (by simp))
     replace HB := a_ (hb)
     replace HI281 := a_ (hi)
     (try clear hb)
     (try clear hb2)
     (try clear hk)
     (try clear hi)
     refine hK.out _ _ ⟨(blk_cell BK291.out 0).trans rfl, (blk_cell BK291.out 1).trans rfl, (blk_cell BK291.out 2).trans rfl⟩ (fun hHeld => ?_)
     clear hK K
     refine norm_ (a' := ?_) ?_ ?_
     rotate_left
     ·show Act.put _ (some 43) _ = _
      simp only [Act.put, sB, sC, sD, i64_w, i32_w]
      rfl
     refine one_ (i := 9) (N := some 46) #[true, true, true, true, true, true, true, true, true, true, true, true, false, true, false, false, false, false, false, false, false] rfl rfl (one_of HT_.out (by kernel_rfl)) (by decide) (fun K hK => ?_)
     refine goes_ Try.func36 (by kernel_rfl) rfl #[.pointer (some ⟨gb281, 0, none⟩), .int .i64 x10_18] (by rfl) rfl rfl (by (try simp only [lA, lB, lC]); first | done | rfl | (simp only [lD, lE]; rfl)) ?_
     with_reducible refine (spec_l1Cur_pick.calls gb281 l0 t299 t300 x10_18 t301 t302 t303 w _ ?side1 ?side2 A24.out).mono ?_
     (case side1 => repeat (first | (with_reducible first | exact HI281.out | apply IsS55.alloc | apply IsS55.drewN | apply IsS55.drew | apply IsS55.set_1 | apply IsS55.set_2 | refine IsS55.far ?_ NB281_280.out _ | refine IsS55.far ?_ NB281_291.out _) | exact HI281.out))
     (case side2 => repeat (first | (with_reducible first | exact HB.out | apply below_alloc | apply pw_below_drewN | apply below_drew1 | refine below_set ?_ (IsS55.ge HI281.out) | refine below_set ?_ GE280.out | refine below_set ?_ GE291.out) | exact HB.out))
     rintro e w30 ⟨rfl, hi, hb, hk⟩
     refine ⟨_, rfl, ?_⟩
     replace HO_292001 := a_ (Kd.R_mono (Kd.R_keep (IsS55.apart (show IsS55 w _ gb281 l0 t299 t300 from by repeat (first | (with_reducible first | exact HI281.out | apply IsS55.alloc | apply IsS55.drewN | apply IsS55.drew | apply IsS55.set_1 | apply IsS55.set_2 | refine IsS55.far ?_ NB281_280.out _ | refine IsS55.far ?_ NB281_291.out _) | exact HI281.out)) (rk HO_292001.out) (by decide)) hk (fun _ h => h.2)) (fun _ h => h.1))
     replace HO_292002 := a_ (Kd.R_mono (Kd.R_keep (IsS55.apart (show IsS55 w _ gb281 l0 t299 t300 from by repeat (first | (with_reducible first | exact HI281.out | apply IsS55.alloc | apply IsS55.drewN | apply IsS55.drew | apply IsS55.set_1 | apply IsS55.set_2 | refine IsS55.far ?_ NB281_280.out _ | refine IsS55.far ?_ NB281_291.out _) | exact HI281.out)) (rk HO_292002.out) (by decide)) hk (fun _ h => h.2)) (fun _ h => h.1))
     replace BK280 := a_ (KeepBut.blk hk (g' := gb280) (o := .cells #[.int .i64 0, .slice none 0 0, .slice none 0 0] 31 (0, 0)) (pk BK280.out) NB280_281.out (by simp))
     replace BK291 := a_ (KeepBut.blk hk (g' := gb291) (o := .cells #[.int .i64 t282, .slice Ao11 t283.length co11, .slice Ao12 t286.length co12] 31 (0, 0)) (pk BK291.out) NB291_281.out (by simp))
     replace HB := a_ (hb)
     replace HI281 := a_ (hi)
     (try clear hb)
     (try clear hb2)
     (try clear hk)
     (try clear hi)
     refine hK.out _ _ ⟨(blk_cell BK291.out 0).trans rfl, (blk_cell BK291.out 1).trans rfl, (blk_cell BK291.out 2).trans rfl⟩ (fun hHeld => ?_)
     clear hK K
     refine norm_ (a' := ?_) ?_ ?_
     rotate_left
     ·show Act.put _ (some 46) _ = _
      simp only [Act.put, sB, sC, sD, i64_w, i32_w]
      rfl
     refine one_ (i := 12) (N := some 49) #[true, true, true, true, true, true, true, true, true, true, true, true, true, true, false, false, false, false, false, false, false] rfl rfl (one_of HT_.out (by kernel_rfl)) (by decide) (fun K hK => ?_)
     refine goes_ Try.func36 (by kernel_rfl) rfl #[.pointer (some ⟨gb281, 0, none⟩), .int .i64 x11_18] (by rfl) rfl rfl (by (try simp only [lA, lB, lC]); first | done | rfl | (simp only [lD, lE]; rfl)) ?_
     with_reducible refine (spec_l1Cur_pick.calls gb281 l0 t302 t303 x11_18 t304 t305 t306 w _ ?side1 ?side2 A25.out).mono ?_
     (case side1 => repeat (first | (with_reducible first | exact HI281.out | apply IsS55.alloc | apply IsS55.drewN | apply IsS55.drew | apply IsS55.set_1 | apply IsS55.set_2 | refine IsS55.far ?_ NB281_280.out _ | refine IsS55.far ?_ NB281_291.out _) | exact HI281.out))
     (case side2 => repeat (first | (with_reducible first | exact HB.out | apply below_alloc | apply pw_below_drewN | apply below_drew1 | refine below_set ?_ (IsS55.ge HI281.out) | refine below_set ?_ GE280.out | refine below_set ?_ GE291.out) | exact HB.out))
     rintro e w31 ⟨rfl, hi, hb, hk⟩
     refine ⟨_, rfl, ?_⟩
     replace HO_292001 := a_ (Kd.R_mono (Kd.R_keep (IsS55.apart (show IsS55 w _ gb281 l0 t302 t303 from by repeat (first | (with_reducible first | exact HI281.out | apply IsS55.alloc | apply IsS55.drewN | apply IsS55.drew | apply IsS55.set_1 | apply IsS55.set_2 | refine IsS55.far ?_ NB281_280.out _ | refine IsS55.far ?_ NB281_291.out _) | exact HI281.out)) (rk HO_292001.out) (by decide)) hk (fun _ h => h.2)) (fun _ h => h.1))
     replace HO_292002 := a_ (Kd.R_mono (Kd.R_keep (IsS55.apart (show IsS55 w _ gb281 l0 t302 t303 from by repeat (first | (with_reducible first | exact HI281.out | apply IsS55.alloc | apply IsS55.drewN | apply IsS55.drew | apply IsS55.set_1 | apply IsS55.set_2 | refine IsS55.far ?_ NB281_280.out _ | refine IsS55.far ?_ NB281_291.out _) | exact HI281.out)) (rk HO_292002.out) (by decide)) hk (fun _ h => h.2)) (fun _ h => h.1))
     replace BK280 := a_ (KeepBut.blk hk (g' := gb280) (o := .cells #[.int .i64 0, .slice none 0 0, .slice none 0 0] 31 (0, 0)) (pk BK280.out) NB280_281.out (by simp))
     replace BK291 := a_ (KeepBut.blk hk (g' := gb291) (o := .cells #[.int .i64 t282, .slice Ao11 t283.length co11, .slice Ao12 t286.length co12] 31 (0, 0)) (pk BK291.out) NB291_281.out (by simp))
     replace HB := a_ (hb)
     replace HI281 := a_ (hi)
     (try clear hb)
     (try clear hb2)
     (try clear hk)
     (try clear hi)
     refine hK.out _ _ ⟨(blk_cell BK291.out 0).trans rfl, (blk_cell BK291.out 1).trans rfl, (blk_cell BK291.out 2).trans rfl⟩ (fun hHeld => ?_)
     clear hK K
     refine norm_ (a' := ?_) ?_ ?_
     rotate_left
     ·show Act.put _ (some 49) _ = _
      simp only [Act.put, sB, sC, sD, i64_w, i32_w]
      rfl
     refine one_ (i := 14) (N := some 51) #[true, true, true, true, true, true, true, true, true, true, true, true, true, true, true, false, false, false, false, false, false] rfl rfl (one_of HT_.out (by kernel_rfl)) (by decide) (fun K hK => ?_)
     refine goes_ Try.func35 (by kernel_rfl) rfl #[.pointer (some ⟨gb281, 0, none⟩), .int .i64 2] (by rfl) rfl rfl (by (try simp only [lA, lB, lC]); first | done | rfl | (simp only [lD, lE]; rfl)) ?_
     with_reducible refine (spec_l1Cur_one.calls gb281 l0 t305 t306 2 t307 t308 t309 w _ ?side1 ?side2 A26.out).mono ?_
     (case side1 => repeat (first | (with_reducible first | exact HI281.out | apply IsS55.alloc | apply IsS55.drewN | apply IsS55.drew | apply IsS55.set_1 | apply IsS55.set_2 | refine IsS55.far ?_ NB281_280.out _ | refine IsS55.far ?_ NB281_291.out _) | exact HI281.out))
     (case side2 => repeat (first | (with_reducible first | exact HB.out | apply below_alloc | apply pw_below_drewN | apply below_drew1 | refine below_set ?_ (IsS55.ge HI281.out) | refine below_set ?_ GE280.out | refine below_set ?_ GE291.out) | exact HB.out))
     rintro e w32 ⟨rfl, hi, hb, hk⟩
     refine ⟨_, rfl, ?_⟩
     replace HO_292001 := a_ (Kd.R_mono (Kd.R_keep (IsS55.apart (show IsS55 w _ gb281 l0 t305 t306 from by repeat (first | (with_reducible first | exact HI281.out | apply IsS55.alloc | apply IsS55.drewN | apply IsS55.drew | apply IsS55.set_1 | apply IsS55.set_2 | refine IsS55.far ?_ NB281_280.out _ | refine IsS55.far ?_ NB281_291.out _) | exact HI281.out)) (rk HO_292001.out) (by decide)) hk (fun _ h => h.2)) (fun _ h => h.1))
     replace HO_292002 := a_ (Kd.R_mono (Kd.R_keep (IsS55.apart (show IsS55 w _ gb281 l0 t305 t306 from by repeat (first | (with_reducible first | exact HI281.out | apply IsS55.alloc | apply IsS55.drewN | apply IsS55.drew | apply IsS55.set_1 | apply IsS55.set_2 | refine IsS55.far ?_ NB281_280.out _ | refine IsS55.far ?_ NB281_291.out _) | exact HI281.out)) (rk HO_292002.out) (by decide)) hk (fun _ h => h.2)) (fun _ h => h.1))
     replace BK280 := a_ (KeepBut.blk hk (g' := gb280) (o := .cells #[.int .i64 0, .slice none 0 0, .slice none 0 0] 31 (0, 0)) (pk BK280.out) NB280_281.out (by simp))
     replace BK291 := a_ (KeepBut.blk hk (g' := gb291) (o := .cells #[.int .i64 t282, .slice Ao11 t283.length co11, .slice Ao12 t286.length co12] 31 (0, 0)) (pk BK291.out) NB291_281.out (by simp))
     replace HB := a_ (hb)
     replace HI281 := a_ (hi)
     (try clear hb)
     (try clear hb2)
     (try clear hk)
     (try clear hi)
     refine hK.out _ _ ⟨(blk_cell BK291.out 0).trans rfl, (blk_cell BK291.out 1).trans rfl, (blk_cell BK291.out 2).trans rfl⟩ (fun hHeld => ?_)
     clear hK K
     refine norm_ (a' := ?_) ?_ ?_
     rotate_left
     ·show Act.put _ (some 51) _ = _
      simp only [Act.put, sB, sC, sD, i64_w, i32_w]
      rfl
     refine one_ (i := 15) (N := none) #[true, true, true, true, true, true, true, true, true, true, true, true, true, true, true, true, false, false, false, false, false] rfl rfl (one_of HT_.out (by kernel_rfl)) (by decide) (fun K hK => ?_)
     have hs33 : w32.cell? ⟨gb280, 0, none⟩ = some (.int .i64 0) := (blk_cell BK280.out 0).trans rfl
     have hfs33 := blk_frozen BK280.out 0
     have hns33_1 := NB291_280.out
     have hms33_1 := NB280_291.out
     have hs34 : w32.cell? ⟨gb280, 1, none⟩ = some (.slice none 0 0) := (blk_cell BK280.out 1).trans rfl
     have hfs34 := blk_frozen BK280.out 1
     have hns34_1 := NB291_280.out
     have hms34_1 := NB280_291.out
     have hs35 : w32.cell? ⟨gb280, 2, none⟩ = some (.slice none 0 0) := (blk_cell BK280.out 2).trans rfl
     have hfs35 := blk_frozen BK280.out 2
     have hns35_1 := NB291_280.out
     have hms35_1 := NB280_291.out
     refine skip_ (w1 := ?_) ?_ ?_ ?_ ?_
     rotate_left
     ·rfl
     ·rfl
     ·go_simp
      rfl
     refine hK.out _ _ ⟨((cell_far (p := ⟨gb280, _, none⟩) NB291_280.out _).trans (((cell_far (p := ⟨gb280, _, none⟩) NB291_280.out _).trans (((cell_far (p := ⟨gb280, _, none⟩) NB291_280.out _).trans (hHeld.1)))))), ((cell_far (p := ⟨gb280, _, none⟩) NB291_280.out _).trans (((cell_far (p := ⟨gb280, _, none⟩) NB291_280.out _).trans (((cell_far (p := ⟨gb280, _, none⟩) NB291_280.out _).trans (hHeld.2.1)))))), ((cell_far (p := ⟨gb280, _, none⟩) NB291_280.out _).trans (((cell_far (p := ⟨gb280, _, none⟩) NB291_280.out _).trans (((cell_far (p := ⟨gb280, _, none⟩) NB291_280.out _).trans (hHeld.2.2))))))⟩ (fun hHeld => ?_)
     clear hK K
     refine pure_ (i := 16) (N := some 3) (v := ?_) (a' := ?_) #[true, true, true, true, true, true, true, true, true, true, true, true, true, true, true, true, true, false, false, false, false] rfl rfl (any_of HT_.out (by kernel_rfl)) (fun _ _ _ h => h) (Or.inl ⟨by rfl, ?_⟩) ?_ ?_
     rotate_left
     ·intro w'
      go_simp
      with_reducible rfl
     rotate_left
     ·simp only [Act.put, sB, sC, sD, i64_w, i32_w]
      rfl
     refine pure_ (i := 17) (N := some 4) (v := ?_) (a' := ?_) #[true, true, true, true, true, true, true, true, true, true, true, true, true, true, true, true, true, true, false, false, false] rfl rfl (any_of HT_.out (by kernel_rfl)) (fun _ _ _ h => h) (Or.inl ⟨by rfl, ?_⟩) ?_ ?_
     rotate_left
     ·intro w'
      go_simp
      with_reducible rfl
     rotate_left
     ·simp only [Act.put, sB, sC, sD, i64_w, i32_w]
      rfl
     refine pure_ (i := 18) (N := some 5) (v := ?_) (a' := ?_) #[true, true, true, true, true, true, true, true, true, true, true, true, true, true, true, true, true, true, true, false, false] rfl rfl (any_of HT_.out (by kernel_rfl)) (fun _ _ _ h => h) (Or.inl ⟨by rfl, ?_⟩) ?_ ?_
     rotate_left
     ·intro w'
      go_simp
      with_reducible rfl
     rotate_left
     ·simp only [Act.put, sB, sC, sD, i64_w, i32_w]
      rfl
     refine pure_ (i := 19) (N := some 6) (v := ?_) (a' := ?_) #[true, true, true, true, true, true, true, true, true, true, true, true, true, true, true, true, true, true, true, true, false] rfl rfl (any_of HT_.out (by kernel_rfl)) (fun _ _ _ h => h) (Or.inl ⟨by rfl, ?_⟩) ?_ ?_
     rotate_left
     ·intro w'
      go_simp
      with_reducible rfl
     rotate_left
     ·simp only [Act.put, sB, sC, sD, i64_w, i32_w]
      rfl
     refine pure_ (i := 20) (N := some 7) (v := ?_) (a' := ?_) #[true, true, true, true, true, true, true, true, true, true, true, true, true, true, true, true, true, true, true, true, true] rfl rfl (any_of HT_.out (by kernel_rfl)) (fun _ _ _ h => h) (Or.inl ⟨by rfl, ?_⟩) ?_ ?_
     rotate_left
     ·intro w'
      go_simp
      with_reducible rfl
     rotate_left
     ·simp only [Act.put, sB, sC, sD, i64_w, i32_w]
      rfl
     refine done_ (done_of HT_.out (by kernel_rfl)) ?_
     try go_wp2
     refine bodyPost_ret (results_list (rs := [.cell 2 31, .tmp 3, .tmp 4, .tmp 5, .tmp 6, .tmp 7]) rfl (by simp) (.cell gb280 31 #[.int .i64 t282, .slice Ao11 t283.length co11, .slice Ao12 t286.length co12] (0, 0) _ rfl (by refine pk ?_; refine blk_put (cs := #[.int .i64 t282, .slice Ao11 t283.length co11, .slice none 0 0]) ?_ 2 _ rfl; refine pk ?_; refine blk_put (cs := #[.int .i64 t282, .slice none 0 0, .slice none 0 0]) ?_ 1 _ rfl; refine pk ?_; refine blk_put (cs := #[.int .i64 0, .slice none 0 0, .slice none 0 0]) ?_ 0 _ rfl; refine pk ?_; exact BK280.out) Try.underlying31 rfl (by kernel_rfl) (.tmp (.tmp (.tmp (.tmp (.tmp .nil))))))) rfl ?_
     exact ⟨_, _, by first | rfl | (simp [errW_none, errW_some] <;> rfl) | (simp [*, errW_none, errW_some] <;> rfl), by refine rk ?_; exact Kd.R_mono (fr3 HO_292001.out BK280.out (by decide) 0 (.int .i64 t282) 1 (.slice Ao11 t283.length co11) 2 (.slice Ao12 t286.length co12)) (fun _ hk => hk.1), by refine rk ?_; exact Kd.R_mono (fr3 HO_292002.out BK280.out (by decide) 0 (.int .i64 t282) 1 (.slice Ao11 t283.length co11) 2 (.slice Ao12 t286.length co12)) (fun _ hk => hk.1), by repeat (first | (with_reducible first | exact HB.out | apply below_alloc | apply pw_below_drewN | apply below_drew1 | refine below_set ?_ (IsS55.ge HI281.out) | refine below_set ?_ GE280.out | refine below_set ?_ GE291.out) | exact HB.out)⟩

/-! ### laws_zByte: function 19 -/
def laws_zByte.f (l0 : List Int) (a1 : Int) : Option (Int) := if a1 < (l0.length : Int) then (if 0 ≤ a1 then (some (wrap64 (rd l0 a1))) else (none)) else (some 0)
set_option maxHeartbeats 8000000 in
set_option maxRecDepth 100000 in
theorem laws_zByte.calls (A0 : Option Addr) (c0 : Nat) (l0 : List Int) (a1 : Int) (r : Int) (w : World) (hr0 : Kd.C (Kd.int .u8) w A0 l0.length l0) (hc0 : l0.length ≤ c0) (h : laws_zByte.f l0 a1 = some r) :
  Calls Try.prog 19 #[.slice A0 l0.length c0, .int .i64 a1] w fun e w' => e = .returned (.int .i64 r) ∧ Drawn0 w w' := by
 have HR0 := Aside0.mk hr0
 have HC0 := Aside0.mk hc0
 clear hr0 hc0
 have H : (if a1 < (l0.length : Int) then (if 0 ≤ a1 then (some (wrap64 (rd l0 a1))) else (none)) else (some 0)) = some r := h
 clear h
 by_cases c3 : a1 < (l0.length : Int)
 ·rw [if_pos c3] at H
  have c3b0 : decide (a1 < (l0.length : Int)) = true := decide_eq_true c3
  clear c3
  by_cases c4 : 0 ≤ a1
  ·rw [if_pos c4] at H
   have c4b0 : decide (0 ≤ a1) = true := decide_eq_true c4
   clear c4
   obtain rfl := Option.some.inj H
   have p310 : 0 ≤ (a1 : Int) := of_decide_eq_true (by first | (with_reducible assumption) | assumption)
   have q310 : a1 < (l0.length : Int) := of_decide_eq_true (by first | (with_reducible assumption) | assumption)
   obtain ⟨ad310, e310, hx310_0⟩ := Kd.at_int HR0.out a1 p310 q310
   cases e310
   replace p310 := eq_true p310
   replace q310 := eq_true q310
   go_enter Try.func19, Try.ntmps19
   go_wp2
   go_ret
   exact ⟨by first | rfl | (simp; done) | (simp [*]; done), by repeat (first | exact Drawn0.refl _ | apply Drawn0.step)⟩
  ·rw [if_neg c4] at H
   exact absurd H (by simp)
 ·rw [if_neg c3] at H
  have c3b0 : decide (a1 < (l0.length : Int)) = false := decide_eq_false c3
  clear c3
  obtain rfl := Option.some.inj H
  go_enter Try.func19, Try.ntmps19
  go_wp2
  go_ret
  exact ⟨by first | rfl | (simp; done) | (simp [*]; done), by repeat (first | exact Drawn0.refl _ | apply Drawn0.step)⟩

end Go.Proofs.Ytgkjnocjdonjdaa.PFnCounts
