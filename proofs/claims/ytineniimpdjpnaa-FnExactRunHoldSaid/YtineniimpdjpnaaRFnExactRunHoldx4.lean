-- Written by a program of this session out of the loaded functions' print; helper lemmas as print.sh lays them.
import Derived.Test.YtineniimpdjpnaaUp2
import Derived.Test.YtineniimpdjpnaaUp
import Derived.Test.YtineniimpdjpnaaRFnExactRunHoldx0
import Derived.Test.YtineniimpdjpnaaRFnExactRunHoldx2
import Derived.Test.YtineniimpdjpnaaRFnExactRunHoldx3
namespace Go.Proofs.Ytineniimpdjpnaa.PFnExactRunHold
open Go.RowKit Go.Proofs.YtineniimpdjpnaaW.PrintWords Go.Proofs.YtineniimpdjpnaaW.PrintLast Go.Proofs.YtineniimpdjpnaaW.PrintMore
attribute [local go_sem] max2_int min2_int max_two min_two max_three min_three max_four min_four  -- for this text's walks alone
set_option linter.unusedVariables false
set_option linter.unusedSimpArgs false

/-! ### spec_RunHold: function 6 -/
mutual
def spec_RunHold.j0 : Nat → List Int → List Int → Bool → Int → Int → Int → Int → Int → Int → Int → Bool → Int → Int → Int → Option (List Int × Bool × Int × Int × Int × Bool)
 | 0, _, _, _, _, _, _, _, _, _, _, _, _, _, _ => none
 | k + 1, x2, x3, x30, x122000, x122001, x122002, x122003, x122004, x122005, x122006, x123000, x123001, x123002, x123003 => if x30 = true then (some (([] : List Int), false, 0, 0, 0, false)) else (spec_RunHold.l0 k x2 x3 ([] : List Int) (x2.length : Int) 0 x122000 x122001 x122002 x122003 x122004 x122005 x122006 x123000 x123001 x123002 x123003)
def spec_RunHold.l0 : Nat → List Int → List Int → List Int → Int → Int → Int → Int → Int → Int → Int → Int → Int → Bool → Int → Int → Int → Option (List Int × Bool × Int × Int × Int × Bool)
 | 0, _, _, _, _, _, _, _, _, _, _, _, _, _, _, _, _ => none
 | k + 1, x2, x3, x11, x33, x34, x122000, x122001, x122002, x122003, x122004, x122005, x122006, x123000, x123001, x123002, x123003 => if x34 < x33 then (if 0 ≤ x34 then (if x34 < (x2.length : Int) then (if x34 < (x3.length : Int) then ((spec_HoldStep.f k x122000 x122001 x122002 x122003 x122004 x122005 x122006 x123000 x123001 x123002 x123003 (rd x2 x34) (rd x3 x34)).bind fun bt127 => (if bt127.2.2.2.2 = true then (if x11.length < 17592186044416 then (spec_RunHold.l0 k x2 x3 (x11 ++ [bt127.2.2.2.1]) x33 (wrap64 (x34 + 1)) x122000 x122001 x122002 x122003 x122004 x122005 x122006 bt127.1 bt127.2.1 bt127.2.2.1 bt127.2.2.2.1) else (none)) else (some (([] : List Int), false, 0, 0, 0, false)))) else (none)) else (none)) else (none)) else (some (x11, x123000, x123001, x123002, x123003, true))
end
def spec_RunHold.f (k : Nat) (a0_0 : Int) (a0_1 : Int) (a0_2 : Int) (a0_3 : Int) (a0_4 : Int) (a0_5 : Int) (a0_6 : Int) (a1_0 : Bool) (a1_1 : Int) (a1_2 : Int) (a1_3 : Int) (l2 : List Int) (l3 : List Int) : Option (List Int × Bool × Int × Int × Int × Bool) := (spec_GoodHold.f a0_0 a0_1 a0_2 a0_3 a0_4 a0_5 a0_6 a1_0 a1_1 a1_2 a1_3).bind fun t124 => (if t124 = true then (if (l2.length : Int) > 60 then (spec_RunHold.j0 k l2 l3 true a0_0 a0_1 a0_2 a0_3 a0_4 a0_5 a0_6 a1_0 a1_1 a1_2 a1_3) else (spec_RunHold.j0 k l2 l3 ((l3.length : Int) != (l2.length : Int)) a0_0 a0_1 a0_2 a0_3 a0_4 a0_5 a0_6 a1_0 a1_1 a1_2 a1_3)) else (spec_RunHold.j0 k l2 l3 true a0_0 a0_1 a0_2 a0_3 a0_4 a0_5 a0_6 a1_0 a1_1 a1_2 a1_3))
theorem spec_RunHold.mono_l : ∀ k, (∀ y0 y1 y2 y3 y4 y5 y6 y7 y8 y9 y10 y11 y12 y13, LeO (spec_RunHold.j0 k y0 y1 y2 y3 y4 y5 y6 y7 y8 y9 y10 y11 y12 y13) (spec_RunHold.j0 (k + 1) y0 y1 y2 y3 y4 y5 y6 y7 y8 y9 y10 y11 y12 y13)) ∧ (∀ y0 y1 y2 y3 y4 y5 y6 y7 y8 y9 y10 y11 y12 y13 y14 y15, LeO (spec_RunHold.l0 k y0 y1 y2 y3 y4 y5 y6 y7 y8 y9 y10 y11 y12 y13 y14 y15) (spec_RunHold.l0 (k + 1) y0 y1 y2 y3 y4 y5 y6 y7 y8 y9 y10 y11 y12 y13 y14 y15))
 | 0 => ⟨fun _ _ _ _ _ _ _ _ _ _ _ _ _ _ r h => by simp [spec_RunHold.j0] at h, fun _ _ _ _ _ _ _ _ _ _ _ _ _ _ _ _ r h => by simp [spec_RunHold.l0] at h⟩
 | k + 1 => by
  obtain ⟨ih0, ih1⟩ := spec_RunHold.mono_l k
  refine ⟨?_, ?_⟩
  ·intro y0 y1 y2 y3 y4 y5 y6 y7 y8 y9 y10 y11 y12 y13
   unfold spec_RunHold.j0
   repeat' first
   | (with_reducible exact ih0 _ _ _ _ _ _ _ _ _ _ _ _ _ _)
   | (with_reducible exact ih1 _ _ _ _ _ _ _ _ _ _ _ _ _ _ _ _)
   | (with_reducible exact spec_HoldStep.mono _ _ _ _ _ _ _ _ _ _ _ _ _ _)
   | (with_reducible exact LeO.refl _)
   | (with_reducible exact LeO.none _)
   | (with_reducible refine LeO.ite ?_ ?_)
   | (with_reducible refine LeO.bind ?_ (fun _ => ?_))
   | exact ih0 _ _ _ _ _ _ _ _ _ _ _ _ _ _
   | exact ih1 _ _ _ _ _ _ _ _ _ _ _ _ _ _ _ _
   | exact spec_HoldStep.mono _ _ _ _ _ _ _ _ _ _ _ _ _ _
   | exact LeO.none _
   | refine LeO.ite ?_ ?_
   | refine LeO.bind ?_ (fun _ => ?_)
  ·intro y0 y1 y2 y3 y4 y5 y6 y7 y8 y9 y10 y11 y12 y13 y14 y15
   unfold spec_RunHold.l0
   repeat' first
   | (with_reducible exact ih0 _ _ _ _ _ _ _ _ _ _ _ _ _ _)
   | (with_reducible exact ih1 _ _ _ _ _ _ _ _ _ _ _ _ _ _ _ _)
   | (with_reducible exact spec_HoldStep.mono _ _ _ _ _ _ _ _ _ _ _ _ _ _)
   | (with_reducible exact LeO.refl _)
   | (with_reducible exact LeO.none _)
   | (with_reducible refine LeO.ite ?_ ?_)
   | (with_reducible refine LeO.bind ?_ (fun _ => ?_))
   | exact ih0 _ _ _ _ _ _ _ _ _ _ _ _ _ _
   | exact ih1 _ _ _ _ _ _ _ _ _ _ _ _ _ _ _ _
   | exact spec_HoldStep.mono _ _ _ _ _ _ _ _ _ _ _ _ _ _
   | exact LeO.none _
   | refine LeO.ite ?_ ?_
   | refine LeO.bind ?_ (fun _ => ?_)
theorem spec_RunHold.mono : ∀ a0 a1 a2 a3 a4 a5 a6 a7 a8 a9 a10 a11 a12 k, LeO (spec_RunHold.f k a0 a1 a2 a3 a4 a5 a6 a7 a8 a9 a10 a11 a12) (spec_RunHold.f (k + 1) a0 a1 a2 a3 a4 a5 a6 a7 a8 a9 a10 a11 a12) := by
 intro a0 a1 a2 a3 a4 a5 a6 a7 a8 a9 a10 a11 a12 k
 obtain ⟨ih0, ih1⟩ := spec_RunHold.mono_l k
 unfold spec_RunHold.f
 repeat' first
   | (with_reducible exact ih0 _ _ _ _ _ _ _ _ _ _ _ _ _ _)
   | (with_reducible exact ih1 _ _ _ _ _ _ _ _ _ _ _ _ _ _ _ _)
   | (with_reducible exact spec_HoldStep.mono _ _ _ _ _ _ _ _ _ _ _ _ _ _)
   | (with_reducible exact LeO.refl _)
   | (with_reducible exact LeO.none _)
   | (with_reducible refine LeO.ite ?_ ?_)
   | (with_reducible refine LeO.bind ?_ (fun _ => ?_))
   | exact ih0 _ _ _ _ _ _ _ _ _ _ _ _ _ _
   | exact ih1 _ _ _ _ _ _ _ _ _ _ _ _ _ _ _ _
   | exact spec_HoldStep.mono _ _ _ _ _ _ _ _ _ _ _ _ _ _
   | exact LeO.none _
   | refine LeO.ite ?_ ?_
   | refine LeO.bind ?_ (fun _ => ?_)
def spec_RunHold.T7 : Bool × List (List Nat × List Nat) := (true, [([], []), ([], []), ([], []), ([], []), ([2, 3], [2, 3]), ([4], [4]), ([], []), ([], []), ([6, 7], [6, 7]), ([8], [8]), ([0, 1, 5, 9], [0, 1, 5, 9]), ([10], [10]), ([11], [11]), ([11], [11]), ([], []), ([14, 12, 10, 0, 1, 2, 3, 4, 5, 6, 7, 8, 9, 10, 11, 12, 14], [12, 14]), ([13, 15, 0, 1, 2, 3, 4, 5, 6, 7, 8, 9, 10, 11, 12, 13, 14, 15], [13])])
def spec_RunHold.B7 : List Nat := [0, 0, 0, 0, 12, 28, 0, 0, 192, 448, 1023, 2047, 4095, 4095, 0, 24575, 65535]
theorem spec_RunHold.tab7 : rtab .any (opsOf Try.f6 7) = spec_RunHold.T7 := by kernel_rfl
theorem spec_RunHold.bits7 : waitsOk spec_RunHold.T7.2 spec_RunHold.B7 = true := by kernel_rfl
set_option maxHeartbeats 8000000 in
set_option maxRecDepth 100000 in
theorem spec_RunHold.calls (k : Nat) (a0_0 : Int) (a0_1 : Int) (a0_2 : Int) (a0_3 : Int) (a0_4 : Int) (a0_5 : Int) (a0_6 : Int) (a1_0 : Bool) (a1_1 : Int) (a1_2 : Int) (a1_3 : Int) (A2 : Option Addr) (c2 : Nat) (l2 : List Int) (A3 : Option Addr) (c3 : Nat) (l3 : List Int) (r1 : List Int) (r2 : Bool) (r3 : Int) (r4 : Int) (r5 : Int) (r6 : Bool) (w : World) (hr2 : Kd.C (Kd.int .i64) w A2 l2.length l2) (hc2 : l2.length ≤ c2) (hr3 : Kd.C (Kd.int .i64) w A3 l3.length l3) (hc3 : l3.length ≤ c3) (h : spec_RunHold.f k a0_0 a0_1 a0_2 a0_3 a0_4 a0_5 a0_6 a1_0 a1_1 a1_2 a1_3 l2 l3 = some (r1, r2, r3, r4, r5, r6)) :
  Calls Try.prog 6 #[.agg #[.int .i64 a0_0, .int .i64 a0_1, .int .i64 a0_2, .int .i64 a0_3, .int .i64 a0_4, .int .i64 a0_5, .int .i64 a0_6], .agg #[.bool a1_0, .int .i64 a1_1, .int .i64 a1_2, .int .i64 a1_3], .slice A2 l2.length c2, .slice A3 l3.length c3] w fun e w' => ∃ v0_ : Value, e = .returned (.tuple #[v0_, .agg #[.bool r2, .int .i64 r3, .int .i64 r4, .int .i64 r5], .bool r6]) ∧ Kd.R (Kd.int .i64) 3 w' w.heap.size (fun _ => True) v0_ r1 ∧ Below w.heap.size w w' := by
 have hu30 := Try.underlying30
 have hu27 := Try.underlying27
 have HR2 := Aside0.mk hr2
 have HC2 := Aside0.mk hc2
 clear hr2 hc2
 have HR3 := Aside0.mk hr3
 have HC3 := Aside0.mk hc3
 clear hr3 hc3
 have HB := a_ (Below.refl w.heap.size w)
 have H : ((spec_GoodHold.f a0_0 a0_1 a0_2 a0_3 a0_4 a0_5 a0_6 a1_0 a1_1 a1_2 a1_3).bind fun t124 => (if t124 = true then (if (l2.length : Int) > 60 then (spec_RunHold.j0 k l2 l3 true a0_0 a0_1 a0_2 a0_3 a0_4 a0_5 a0_6 a1_0 a1_1 a1_2 a1_3) else (spec_RunHold.j0 k l2 l3 ((l3.length : Int) != (l2.length : Int)) a0_0 a0_1 a0_2 a0_3 a0_4 a0_5 a0_6 a1_0 a1_1 a1_2 a1_3)) else (spec_RunHold.j0 k l2 l3 true a0_0 a0_1 a0_2 a0_3 a0_4 a0_5 a0_6 a1_0 a1_1 a1_2 a1_3))) = some (r1, r2, r3, r4, r5, r6) := h
 clear h
 have HC5 := Aside0.mk H
 clear H
 go_enter Try.func6, Try.ntmps6
 go_upto_region 1 with (first | ((with_reducible refine gate_dst (N := 4) rfl ?_); (try (refine gate_guard (by rfl) ?_; dsimp only)); refine box_event ?hg (N := 4) ?hd (cs := #[.int .i64 a0_0, .int .i64 a0_1, .int .i64 a0_2, .int .i64 a0_3, .int .i64 a0_4, .int .i64 a0_5, .int .i64 a0_6]) (t := 30) ?hr ?_; (case hd => rfl); (case hg => rfl); (case hr => first | (go_simp; done) | (go_simp; rfl)); intro gb121 hg w6 hbox hb; have BK121 := a_ (hbox); have GW121 := a_ (bsg hg HB.out); have GE121 := a_ (bsg hg HB.out); replace HB := a_ (below_step (un HB.out) hb); clear hb hbox hg) | ((with_reducible refine gate_dst (N := 5) rfl ?_); (try (refine gate_guard (by rfl) ?_; dsimp only)); refine box_event ?hg (N := 5) ?hd (cs := #[.bool a1_0, .int .i64 a1_1, .int .i64 a1_2, .int .i64 a1_3]) (t := 27) ?hr ?_; (case hd => rfl); (case hg => rfl); (case hr => first | (go_simp; done) | (go_simp; rfl)); intro gb122 hg w7 hbox hb; have BK122 := a_ (hbox); have GW122 := a_ (bsg hg HB.out); have GE122 := a_ (bsg hg HB.out); replace HB := a_ (below_step (by repeat (with_reducible first | exact HB.out | refine bz ?_ (by assumption) | apply bA | apply bN | apply bD)) hb); have NB121_122 := a_ (nel hg BK121.out); have NB122_121 := a_ (nle hg BK121.out); replace BK121 := a_ (blk_below (pk BK121.out) hb); clear hb hbox hg) | ((with_reducible refine gate_dst (N := 9) rfl ?_); (try (refine gate_guard (by rfl) ?_; dsimp only)); refine box_event ?hg (N := 9) ?hd (cs := #[.bool false, .int .i64 0, .int .i64 0, .int .i64 0]) (t := 27) ?hr ?_; (case hd => rfl); (case hg => rfl); (case hr => first | (go_simp; done) | (go_simp; rfl)); intro gb123 hg w8 hbox hb; have BK123 := a_ (hbox); have GW123 := a_ (bsg hg HB.out); have GE123 := a_ (bsg hg HB.out); replace HB := a_ (below_step (by repeat (with_reducible first | exact HB.out | refine bz ?_ (by assumption) | apply bA | apply bN | apply bD)) hb); have NB121_123 := a_ (nel hg BK121.out); have NB123_121 := a_ (nle hg BK121.out); replace BK121 := a_ (blk_below (pk BK121.out) hb); have NB122_123 := a_ (nel hg BK122.out); have NB123_122 := a_ (nle hg BK122.out); replace BK122 := a_ (blk_below (pk BK122.out) hb); clear hb hbox hg))
 (try simp only [Act.put, sB, sC, sD])
 go_cut [30] (fun v30 wc => ∃ (kq : Nat) (x30_4 : Bool), v30 = .bool x30_4 ∧ Aside0 (spec_RunHold.j0 kq l2 l3 x30_4 a0_0 a0_1 a0_2 a0_3 a0_4 a0_5 a0_6 a1_0 a1_1 a1_2 a1_3 = some (r1, r2, r3, r4, r5, r6)) ∧ Aside0 (kq ≤ k) ∧ Aside0 (wc.heap[gb121]? = some (.cells #[.int .i64 a0_0, .int .i64 a0_1, .int .i64 a0_2, .int .i64 a0_3, .int .i64 a0_4, .int .i64 a0_5, .int .i64 a0_6] 30 (0, 0))) ∧ Aside0 (wc.heap[gb122]? = some (.cells #[.bool a1_0, .int .i64 a1_1, .int .i64 a1_2, .int .i64 a1_3] 27 (0, 0))) ∧ Aside0 (wc.heap[gb123]? = some (.cells #[.bool false, .int .i64 0, .int .i64 0, .int .i64 0] 27 (0, 0))) ∧ Aside0 (Below w.heap.size w wc))
 case first =>
  have H := HC5.out
  clear HC5
  replace H := Option.bind_eq_some_iff.mp H
  obtain ⟨t124, A90, H⟩ := H
  replace H : (if t124 = true then (if (l2.length : Int) > 60 then (spec_RunHold.j0 k l2 l3 true a0_0 a0_1 a0_2 a0_3 a0_4 a0_5 a0_6 a1_0 a1_1 a1_2 a1_3) else (spec_RunHold.j0 k l2 l3 ((l3.length : Int) != (l2.length : Int)) a0_0 a0_1 a0_2 a0_3 a0_4 a0_5 a0_6 a1_0 a1_1 a1_2 a1_3)) else (spec_RunHold.j0 k l2 l3 true a0_0 a0_1 a0_2 a0_3 a0_4 a0_5 a0_6 a1_0 a1_1 a1_2 a1_3)) = some (r1, r2, r3, r4, r5, r6) := H
  have A9 := Aside0.mk A90
  clear A90
  by_cases c10 : t124 = true
  ·subst c10
   have H1 : (if (l2.length : Int) > 60 then (spec_RunHold.j0 k l2 l3 true a0_0 a0_1 a0_2 a0_3 a0_4 a0_5 a0_6 a1_0 a1_1 a1_2 a1_3) else (spec_RunHold.j0 k l2 l3 ((l3.length : Int) != (l2.length : Int)) a0_0 a0_1 a0_2 a0_3 a0_4 a0_5 a0_6 a1_0 a1_1 a1_2 a1_3)) = some (r1, r2, r3, r4, r5, r6) := by rw [if_pos rfl] at H; exact H
   clear H
   have H := H1
   clear H1
   by_cases c11 : (l2.length : Int) > 60
   ·rw [if_pos c11] at H
    have c11b0 : decide (60 < (l2.length : Int)) = true := decide_eq_true c11
    have c11b1 : decide (60 < l2.length) = true := decide_eq_true (by omega)
    clear c11
    (first | rw [c11b0] | (simp only [i64_w, i32_w]; rw [c11b0]) | skip)
    have H' := Aside0.mk H
    clear H
    have hnb12 := NB121_122.out
    have hnc12 := NB122_121.out
    have hnb13 := NB121_123.out
    have hnc13 := NB123_121.out
    have hcz14_0 : _ = some (Value.int .i64 a0_0) := (blk_cell BK121.out 0).trans rfl
    have hcz14_1 : _ = some (Value.int .i64 a0_1) := (blk_cell BK121.out 1).trans rfl
    have hcz14_2 : _ = some (Value.int .i64 a0_2) := (blk_cell BK121.out 2).trans rfl
    have hcz14_3 : _ = some (Value.int .i64 a0_3) := (blk_cell BK121.out 3).trans rfl
    have hcz14_4 : _ = some (Value.int .i64 a0_4) := (blk_cell BK121.out 4).trans rfl
    have hcz14_5 : _ = some (Value.int .i64 a0_5) := (blk_cell BK121.out 5).trans rfl
    have hcz14_6 : _ = some (Value.int .i64 a0_6) := (blk_cell BK121.out 6).trans rfl
    have hfz14_0 := blk_frozen BK121.out 0
    have hfz14_1 := blk_frozen BK121.out 1
    have hfz14_2 := blk_frozen BK121.out 2
    have hfz14_3 := blk_frozen BK121.out 3
    have hfz14_4 := blk_frozen BK121.out 4
    have hfz14_5 := blk_frozen BK121.out 5
    have hfz14_6 := blk_frozen BK121.out 6
    have hnb15 := NB122_123.out
    have hnc15 := NB123_122.out
    have hcz16_0 : _ = some (Value.bool a1_0) := (blk_cell BK122.out 0).trans rfl
    have hcz16_1 : _ = some (Value.int .i64 a1_1) := (blk_cell BK122.out 1).trans rfl
    have hcz16_2 : _ = some (Value.int .i64 a1_2) := (blk_cell BK122.out 2).trans rfl
    have hcz16_3 : _ = some (Value.int .i64 a1_3) := (blk_cell BK122.out 3).trans rfl
    have hfz16_0 := blk_frozen BK122.out 0
    have hfz16_1 := blk_frozen BK122.out 1
    have hfz16_2 := blk_frozen BK122.out 2
    have hfz16_3 := blk_frozen BK122.out 3
    go_wp2_with (first | ((with_reducible refine gate_callee (f := 22) rfl ?_); refine goesL_ (some 17) rfl rfl Try.func22 (by kernel_rfl) rfl #[.agg #[.int .i64 a0_0, .int .i64 a0_1, .int .i64 a0_2, .int .i64 a0_3, .int .i64 a0_4, .int .i64 a0_5, .int .i64 a0_6], .agg #[.bool a1_0, .int .i64 a1_1, .int .i64 a1_2, .int .i64 a1_3]] rfl (by (try simp only [lA, lB, lC]); first | done | rfl | (simp only [lD, lE]; rfl)) ?_; (with_reducible refine (spec_GoodHold.calls a0_0 a0_1 a0_2 a0_3 a0_4 a0_5 a0_6 a1_0 a1_1 a1_2 a1_3 true _ A9.out).mono ?_); rintro e w17 ⟨rfl, hb⟩; refine ⟨_, rfl, ?_⟩; replace BK121 := a_ (blk_below (pk BK121.out) hb); replace BK122 := a_ (blk_below (pk BK122.out) hb); replace BK123 := a_ (blk_below (pk BK123.out) hb); replace HB := a_ (below_step (by repeat (with_reducible first | exact HB.out | refine bz ?_ (by assumption) | apply bA | apply bN | apply bD)) hb); clear hb))
    go_meet
    case rel => exact ⟨_, (true), (by first | rfl | (simp; done) | (simp [*]; done)), H', ⟨by first | omega | exact Nat.le_refl _⟩, ⟨pk BK121.out⟩, ⟨pk BK122.out⟩, ⟨pk BK123.out⟩, ⟨by repeat (with_reducible first | exact HB.out | refine bz ?_ (by assumption) | apply bA | apply bN | apply bD)⟩⟩
   ·rw [if_neg c11] at H
    have c11b0 : decide (60 < (l2.length : Int)) = false := decide_eq_false c11
    have c11b1 : decide (60 < l2.length) = false := decide_eq_false (by omega)
    clear c11
    (first | rw [c11b0] | (simp only [i64_w, i32_w]; rw [c11b0]) | skip)
    have H' := Aside0.mk H
    clear H
    have hnb18 := NB121_122.out
    have hnc18 := NB122_121.out
    have hnb19 := NB121_123.out
    have hnc19 := NB123_121.out
    have hcz20_0 : _ = some (Value.int .i64 a0_0) := (blk_cell BK121.out 0).trans rfl
    have hcz20_1 : _ = some (Value.int .i64 a0_1) := (blk_cell BK121.out 1).trans rfl
    have hcz20_2 : _ = some (Value.int .i64 a0_2) := (blk_cell BK121.out 2).trans rfl
    have hcz20_3 : _ = some (Value.int .i64 a0_3) := (blk_cell BK121.out 3).trans rfl
    have hcz20_4 : _ = some (Value.int .i64 a0_4) := (blk_cell BK121.out 4).trans rfl
    have hcz20_5 : _ = some (Value.int .i64 a0_5) := (blk_cell BK121.out 5).trans rfl
    have hcz20_6 : _ = some (Value.int .i64 a0_6) := (blk_cell BK121.out 6).trans rfl
    have hfz20_0 := blk_frozen BK121.out 0
    have hfz20_1 := blk_frozen BK121.out 1
    have hfz20_2 := blk_frozen BK121.out 2
    have hfz20_3 := blk_frozen BK121.out 3
    have hfz20_4 := blk_frozen BK121.out 4
    have hfz20_5 := blk_frozen BK121.out 5
    have hfz20_6 := blk_frozen BK121.out 6
    have hnb21 := NB122_123.out
    have hnc21 := NB123_122.out
    have hcz22_0 : _ = some (Value.bool a1_0) := (blk_cell BK122.out 0).trans rfl
    have hcz22_1 : _ = some (Value.int .i64 a1_1) := (blk_cell BK122.out 1).trans rfl
    have hcz22_2 : _ = some (Value.int .i64 a1_2) := (blk_cell BK122.out 2).trans rfl
    have hcz22_3 : _ = some (Value.int .i64 a1_3) := (blk_cell BK122.out 3).trans rfl
    have hfz22_0 := blk_frozen BK122.out 0
    have hfz22_1 := blk_frozen BK122.out 1
    have hfz22_2 := blk_frozen BK122.out 2
    have hfz22_3 := blk_frozen BK122.out 3
    go_wp2_with (first | ((with_reducible refine gate_callee (f := 22) rfl ?_); refine goesL_ (some 17) rfl rfl Try.func22 (by kernel_rfl) rfl #[.agg #[.int .i64 a0_0, .int .i64 a0_1, .int .i64 a0_2, .int .i64 a0_3, .int .i64 a0_4, .int .i64 a0_5, .int .i64 a0_6], .agg #[.bool a1_0, .int .i64 a1_1, .int .i64 a1_2, .int .i64 a1_3]] rfl (by (try simp only [lA, lB, lC]); first | done | rfl | (simp only [lD, lE]; rfl)) ?_; (with_reducible refine (spec_GoodHold.calls a0_0 a0_1 a0_2 a0_3 a0_4 a0_5 a0_6 a1_0 a1_1 a1_2 a1_3 true _ A9.out).mono ?_); rintro e w23 ⟨rfl, hb⟩; refine ⟨_, rfl, ?_⟩; replace BK121 := a_ (blk_below (pk BK121.out) hb); replace BK122 := a_ (blk_below (pk BK122.out) hb); replace BK123 := a_ (blk_below (pk BK123.out) hb); replace HB := a_ (below_step (by repeat (with_reducible first | exact HB.out | refine bz ?_ (by assumption) | apply bA | apply bN | apply bD)) hb); clear hb))
    go_meet
    case rel => exact ⟨_, (((l3.length : Int) != (l2.length : Int))), (by first | rfl | (simp; done) | (simp [*]; done)), H', ⟨by first | omega | exact Nat.le_refl _⟩, ⟨pk BK121.out⟩, ⟨pk BK122.out⟩, ⟨pk BK123.out⟩, ⟨by repeat (with_reducible first | exact HB.out | refine bz ?_ (by assumption) | apply bA | apply bN | apply bD)⟩⟩
  ·replace c10 := Bool.eq_false_iff.mpr c10
   subst c10
   have H1 : (spec_RunHold.j0 k l2 l3 true a0_0 a0_1 a0_2 a0_3 a0_4 a0_5 a0_6 a1_0 a1_1 a1_2 a1_3) = some (r1, r2, r3, r4, r5, r6) := by rw [if_neg (show ¬ (false = true) by decide)] at H; exact H
   clear H
   have H := H1
   clear H1
   have H' := Aside0.mk H
   clear H
   have hnb24 := NB121_122.out
   have hnc24 := NB122_121.out
   have hnb25 := NB121_123.out
   have hnc25 := NB123_121.out
   have hcz26_0 : _ = some (Value.int .i64 a0_0) := (blk_cell BK121.out 0).trans rfl
   have hcz26_1 : _ = some (Value.int .i64 a0_1) := (blk_cell BK121.out 1).trans rfl
   have hcz26_2 : _ = some (Value.int .i64 a0_2) := (blk_cell BK121.out 2).trans rfl
   have hcz26_3 : _ = some (Value.int .i64 a0_3) := (blk_cell BK121.out 3).trans rfl
   have hcz26_4 : _ = some (Value.int .i64 a0_4) := (blk_cell BK121.out 4).trans rfl
   have hcz26_5 : _ = some (Value.int .i64 a0_5) := (blk_cell BK121.out 5).trans rfl
   have hcz26_6 : _ = some (Value.int .i64 a0_6) := (blk_cell BK121.out 6).trans rfl
   have hfz26_0 := blk_frozen BK121.out 0
   have hfz26_1 := blk_frozen BK121.out 1
   have hfz26_2 := blk_frozen BK121.out 2
   have hfz26_3 := blk_frozen BK121.out 3
   have hfz26_4 := blk_frozen BK121.out 4
   have hfz26_5 := blk_frozen BK121.out 5
   have hfz26_6 := blk_frozen BK121.out 6
   have hnb27 := NB122_123.out
   have hnc27 := NB123_122.out
   have hcz28_0 : _ = some (Value.bool a1_0) := (blk_cell BK122.out 0).trans rfl
   have hcz28_1 : _ = some (Value.int .i64 a1_1) := (blk_cell BK122.out 1).trans rfl
   have hcz28_2 : _ = some (Value.int .i64 a1_2) := (blk_cell BK122.out 2).trans rfl
   have hcz28_3 : _ = some (Value.int .i64 a1_3) := (blk_cell BK122.out 3).trans rfl
   have hfz28_0 := blk_frozen BK122.out 0
   have hfz28_1 := blk_frozen BK122.out 1
   have hfz28_2 := blk_frozen BK122.out 2
   have hfz28_3 := blk_frozen BK122.out 3
   go_wp2_with (first | ((with_reducible refine gate_callee (f := 22) rfl ?_); refine goesL_ (some 17) rfl rfl Try.func22 (by kernel_rfl) rfl #[.agg #[.int .i64 a0_0, .int .i64 a0_1, .int .i64 a0_2, .int .i64 a0_3, .int .i64 a0_4, .int .i64 a0_5, .int .i64 a0_6], .agg #[.bool a1_0, .int .i64 a1_1, .int .i64 a1_2, .int .i64 a1_3]] rfl (by (try simp only [lA, lB, lC]); first | done | rfl | (simp only [lD, lE]; rfl)) ?_; (with_reducible refine (spec_GoodHold.calls a0_0 a0_1 a0_2 a0_3 a0_4 a0_5 a0_6 a1_0 a1_1 a1_2 a1_3 false _ A9.out).mono ?_); rintro e w29 ⟨rfl, hb⟩; refine ⟨_, rfl, ?_⟩; replace BK121 := a_ (blk_below (pk BK121.out) hb); replace BK122 := a_ (blk_below (pk BK122.out) hb); replace BK123 := a_ (blk_below (pk BK123.out) hb); replace HB := a_ (below_step (by repeat (with_reducible first | exact HB.out | refine bz ?_ (by assumption) | apply bA | apply bN | apply bD)) hb); clear hb))
   go_meet
   case rel => exact ⟨_, (true), (by first | rfl | (simp; done) | (simp [*]; done)), H', ⟨by first | omega | exact Nat.le_refl _⟩, ⟨pk BK121.out⟩, ⟨pk BK122.out⟩, ⟨pk BK123.out⟩, ⟨by repeat (with_reducible first | exact HB.out | refine bz ?_ (by assumption) | apply bA | apply bN | apply bD)⟩⟩
 case rest =>
  clear HC5
  try clear c1; try clear c2; try clear p2; try clear c3; try clear c6; try clear c10; try clear c11; try clear c11b0; try clear c11b1; try clear c12; try clear c13; try clear c15; try clear c18; try clear c19; try clear c21; try clear c22; try clear c24; try clear c25; try clear c27; try clear hcz14_0; try clear hcz14_1; try clear hcz14_2; try clear hcz14_3; try clear hcz14_4; try clear hcz14_5; try clear hcz14_6; try clear hcz16_0; try clear hcz16_1; try clear hcz16_2; try clear hcz16_3; try clear hcz20_0; try clear hcz20_1; try clear hcz20_2; try clear hcz20_3; try clear hcz20_4; try clear hcz20_5; try clear hcz20_6; try clear hcz22_0; try clear hcz22_1; try clear hcz22_2; try clear hcz22_3; try clear hcz26_0; try clear hcz26_1; try clear hcz26_2; try clear hcz26_3; try clear hcz26_4; try clear hcz26_5; try clear hcz26_6; try clear hcz28_0; try clear hcz28_1; try clear hcz28_2; try clear hcz28_3; try clear hfz14_0; try clear hfz14_1; try clear hfz14_2; try clear hfz14_3; try clear hfz14_4; try clear hfz14_5; try clear hfz14_6; try clear hfz16_0; try clear hfz16_1; try clear hfz16_2; try clear hfz16_3; try clear hfz20_0; try clear hfz20_1; try clear hfz20_2; try clear hfz20_3; try clear hfz20_4; try clear hfz20_5; try clear hfz20_6; try clear hfz22_0; try clear hfz22_1; try clear hfz22_2; try clear hfz22_3; try clear hfz26_0; try clear hfz26_1; try clear hfz26_2; try clear hfz26_3; try clear hfz26_4; try clear hfz26_5; try clear hfz26_6; try clear hfz28_0; try clear hfz28_1; try clear hfz28_2; try clear hfz28_3
  obtain ⟨kq, x30_4, rfl, HA, HJ4, BK121, BK122, BK123, HB⟩ := hcut
  cases kq with
  | zero => exact absurd HA.out (by simp [spec_RunHold.j0])
  | succ kj4 =>
   have H := HA.out
   clear HA
   simp only [spec_RunHold.j0] at H
   by_cases c30 : x30_4 = true
   ·subst c30
    have H1 : (some (([] : List Int), false, 0, 0, 0, false)) = some (r1, r2, r3, r4, r5, r6) := by rw [if_pos rfl] at H; exact H
    clear H
    have H := H1
    clear H1
    simp only [Option.some.injEq, Prod.mk.injEq] at H
    obtain ⟨rfl, rfl, rfl, rfl, rfl, rfl⟩ := H
    have hnb31 := NB123_121.out
    have hnc31 := NB121_123.out
    have hnb32 := NB123_122.out
    have hnc32 := NB122_123.out
    have hcz33_0 : wc.cell? ⟨gb123, 0, none⟩ = some (.bool false) := (blk_cell BK123.out 0).trans rfl
    have hcz33_1 : wc.cell? ⟨gb123, 1, none⟩ = some (.int .i64 0) := (blk_cell BK123.out 1).trans rfl
    have hcz33_2 : wc.cell? ⟨gb123, 2, none⟩ = some (.int .i64 0) := (blk_cell BK123.out 2).trans rfl
    have hcz33_3 : wc.cell? ⟨gb123, 3, none⟩ = some (.int .i64 0) := (blk_cell BK123.out 3).trans rfl
    have hfz33_0 := blk_frozen BK123.out 0
    have hfz33_1 := blk_frozen BK123.out 1
    have hfz33_2 := blk_frozen BK123.out 2
    have hfz33_3 := blk_frozen BK123.out 3
    go_wp2
    refine bodyPost_ret (results_list (rs := [.tmp 8, .cell 9 27, .tmp 10]) rfl (by simp) (.tmp (.cell gb123 27 #[.bool false, .int .i64 0, .int .i64 0, .int .i64 0] (0, 0) _ rfl (by refine pk ?_; refine blk_put (cs := #[.bool false, .int .i64 0, .int .i64 0, .int .i64 0]) ?_ 3 _ rfl; refine pk ?_; refine blk_put (cs := #[.bool false, .int .i64 0, .int .i64 0, .int .i64 0]) ?_ 2 _ rfl; refine pk ?_; refine blk_put (cs := #[.bool false, .int .i64 0, .int .i64 0, .int .i64 0]) ?_ 1 _ rfl; refine pk ?_; refine blk_put (cs := #[.bool false, .int .i64 0, .int .i64 0, .int .i64 0]) ?_ 0 _ rfl; refine pk ?_; exact BK123.out) Try.underlying27 rfl (by kernel_rfl) (.tmp .nil)))) rfl ?_
    exact ⟨_, by first | rfl | (simp [errW_none, errW_some] <;> rfl) | (simp [*, errW_none, errW_some] <;> rfl), by first | exact Kd.R_nil _ _ _ _ _ | exact Kd.N_nil _ _ _ _ _ | exact Kd.V_nil _ _ _ _ _ | exact Kd.Q_nil _ _ _ _ _ | exact Kd.S_nil _ _ _ _ _, by repeat (with_reducible first | exact HB.out | refine bz ?_ (by assumption) | apply bA | apply bN | apply bD)⟩
   ·replace c30 := Bool.eq_false_iff.mpr c30
    subst c30
    have H1 : (spec_RunHold.l0 kj4 l2 l3 ([] : List Int) (l2.length : Int) 0 a0_0 a0_1 a0_2 a0_3 a0_4 a0_5 a0_6 a1_0 a1_1 a1_2 a1_3) = some (r1, r2, r3, r4, r5, r6) := by rw [if_neg (show ¬ (false = true) by decide)] at H; exact H
    clear H
    have H := H1
    clear H1
    have H' := Aside0.mk H
    clear H
    go_wp2
    go_loopg [11, 34] kj4 (fun kq v11 v34 w' => ∃ (x11_2 : List Int) (x34_2 : Int) (x123000_2 : Bool) (x123001_2 : Int) (x123002_2 : Int) (x123003_2 : Int) (x124000_2 : Bool) (x124001_2 : Int) (x124002_2 : Int) (x124003_2 : Int), v34 = .int .i64 x34_2 ∧ Aside0 (spec_RunHold.l0 kq l2 l3 x11_2 (l2.length : Int) x34_2 a0_0 a0_1 a0_2 a0_3 a0_4 a0_5 a0_6 x123000_2 x123001_2 x123002_2 x123003_2 = some (r1, r2, r3, r4, r5, r6)) ∧ Aside0 (kq ≤ kj4) ∧ Aside0 (Kd.R (Kd.int .i64) 3 w' w.heap.size (fun _ => True) v11 x11_2) ∧ Aside0 (w'.heap[gb121]? = some (.cells #[.int .i64 a0_0, .int .i64 a0_1, .int .i64 a0_2, .int .i64 a0_3, .int .i64 a0_4, .int .i64 a0_5, .int .i64 a0_6] 30 (0, 0))) ∧ Aside0 (w'.heap[gb122]? = some (.cells #[.bool x123000_2, .int .i64 x123001_2, .int .i64 x123002_2, .int .i64 x123003_2] 27 (0, 0))) ∧ Aside0 (w'.heap[gb123]? = some (.cells #[.bool x124000_2, .int .i64 x124001_2, .int .i64 x124002_2, .int .i64 x124003_2] 27 (0, 0))) ∧ Aside0 (Below w.heap.size w w'))
    case atStart => exact ⟨(([] : List Int)), (0), (a1_0), (a1_1), (a1_2), (a1_3), (false), (0), (0), (0), (by first | rfl | (simp; done) | (simp [*]; done)), H', ⟨Nat.le_refl _⟩, ⟨by first | exact Kd.R_nil _ _ _ _ _ | exact Kd.N_nil _ _ _ _ _ | exact Kd.V_nil _ _ _ _ _ | exact Kd.Q_nil _ _ _ _ _ | exact Kd.S_nil _ _ _ _ _⟩, ⟨pk BK121.out⟩, ⟨pk BK122.out⟩, ⟨pk BK123.out⟩, ⟨by repeat (with_reducible first | exact HB.out | refine bz ?_ (by assumption) | apply bA | apply bN | apply bD)⟩⟩
    case round =>
     clear H'
     try clear c1; try clear c2; try clear p2; try clear c3; try clear c6; try clear c10; try clear c11; try clear c11b0; try clear c11b1; try clear c12; try clear c13; try clear c15; try clear c18; try clear c19; try clear c21; try clear c22; try clear c24; try clear c25; try clear c27; try clear c30; try clear c31; try clear c32; try clear hcz14_0; try clear hcz14_1; try clear hcz14_2; try clear hcz14_3; try clear hcz14_4; try clear hcz14_5; try clear hcz14_6; try clear hcz16_0; try clear hcz16_1; try clear hcz16_2; try clear hcz16_3; try clear hcz20_0; try clear hcz20_1; try clear hcz20_2; try clear hcz20_3; try clear hcz20_4; try clear hcz20_5; try clear hcz20_6; try clear hcz22_0; try clear hcz22_1; try clear hcz22_2; try clear hcz22_3; try clear hcz26_0; try clear hcz26_1; try clear hcz26_2; try clear hcz26_3; try clear hcz26_4; try clear hcz26_5; try clear hcz26_6; try clear hcz28_0; try clear hcz28_1; try clear hcz28_2; try clear hcz28_3; try clear hcz33_0; try clear hcz33_1; try clear hcz33_2; try clear hcz33_3; try clear hfz14_0; try clear hfz14_1; try clear hfz14_2; try clear hfz14_3; try clear hfz14_4; try clear hfz14_5; try clear hfz14_6; try clear hfz16_0; try clear hfz16_1; try clear hfz16_2; try clear hfz16_3; try clear hfz20_0; try clear hfz20_1; try clear hfz20_2; try clear hfz20_3; try clear hfz20_4; try clear hfz20_5; try clear hfz20_6; try clear hfz22_0; try clear hfz22_1; try clear hfz22_2; try clear hfz22_3; try clear hfz26_0; try clear hfz26_1; try clear hfz26_2; try clear hfz26_3; try clear hfz26_4; try clear hfz26_5; try clear hfz26_6; try clear hfz28_0; try clear hfz28_1; try clear hfz28_2; try clear hfz28_3; try clear hfz33_0; try clear hfz33_1; try clear hfz33_2; try clear hfz33_3; try clear p2
     obtain ⟨x11_2, x34_2, x123000_2, x123001_2, x123002_2, x123003_2, x124000_2, x124001_2, x124002_2, x124003_2, rfl, HA, HK2, HO_11, BK121, BK122, BK123, HB⟩ := hrel
     cases gk with
     | zero => exact absurd HA.out (by simp [spec_RunHold.l0])
     | succ k2 =>
      have H := HA.out
      clear HA
      simp only [spec_RunHold.l0] at H
      by_cases c34 : x34_2 < (l2.length : Int)
      ·rw [if_pos c34] at H
       have c34b0 : decide (x34_2 < (l2.length : Int)) = true := decide_eq_true c34
       clear c34
       by_cases c35 : 0 ≤ x34_2
       ·rw [if_pos c35] at H
        have c35b0 : decide (0 ≤ x34_2) = true := decide_eq_true c35
        clear c35
        by_cases c36 : x34_2 < (l2.length : Int)
        ·rw [if_pos c36] at H
         have c36b0 : decide (x34_2 < (l2.length : Int)) = true := decide_eq_true c36
         clear c36
         by_cases c37 : x34_2 < (l3.length : Int)
         ·rw [if_pos c37] at H
          have c37b0 : decide (x34_2 < (l3.length : Int)) = true := decide_eq_true c37
          clear c37
          replace H := Option.bind_eq_some_iff.mp H
          obtain ⟨⟨t127, t128, t129, t130, t131⟩, A380, H⟩ := H
          replace H : (if t131 = true then (if x11_2.length < 17592186044416 then (spec_RunHold.l0 k2 l2 l3 (x11_2 ++ [t130]) (l2.length : Int) (wrap64 (x34_2 + 1)) a0_0 a0_1 a0_2 a0_3 a0_4 a0_5 a0_6 t127 t128 t129 t130) else (none)) else (some (([] : List Int), false, 0, 0, 0, false))) = some (r1, r2, r3, r4, r5, r6) := H
          have A38 := Aside0.mk A380
          clear A380
          by_cases c39 : t131 = true
          ·subst c39
           have H1 : (if x11_2.length < 17592186044416 then (spec_RunHold.l0 k2 l2 l3 (x11_2 ++ [t130]) (l2.length : Int) (wrap64 (x34_2 + 1)) a0_0 a0_1 a0_2 a0_3 a0_4 a0_5 a0_6 t127 t128 t129 t130) else (none)) = some (r1, r2, r3, r4, r5, r6) := by rw [if_pos rfl] at H; exact H
           clear H
           have H := H1
           clear H1
           by_cases c40 : x11_2.length < 17592186044416
           ·rw [if_pos c40] at H
            have LMc40 := Aside0.mk c40
            clear c40
            obtain ⟨y133, hy133⟩ : ∃ y_ : List Int, y_ = (x11_2 ++ [t130]) := ⟨_, rfl⟩
            replace H : (spec_RunHold.l0 k2 l2 l3 y133 (l2.length : Int) (wrap64 (x34_2 + 1)) a0_0 a0_1 a0_2 a0_3 a0_4 a0_5 a0_6 t127 t128 t129 t130) = some (r1, r2, r3, r4, r5, r6) := by first | (rw [hy133]; with_reducible exact H) | (have H2_ := (Option.bind_some _ _).symm.trans H; rw [hy133]; with_reducible exact H2_) | (have H2_ := (Option.bind_some _ _).symm.trans H; with_reducible exact H2_) | with_reducible exact H | (rw [hy133]; exact H) | exact H
            have Ny133 := Aside0.mk hy133
            clear hy133
            have H' := Aside0.mk H
            clear H
            try go_wp2
            replace HO_11 := a_ (Kd.R_drew HO_11.out)
            replace BK121 := a_ (blk_drew BK121.out)
            replace BK122 := a_ (blk_drew BK122.out)
            replace BK123 := a_ (blk_drew BK123.out)
            replace HB := a_ (below_drew1 HB.out)
            have p125 : 0 ≤ (x34_2 : Int) := of_decide_eq_true (by first | (with_reducible assumption) | assumption)
            have q125 : x34_2 < (l2.length : Int) := of_decide_eq_true (by first | (with_reducible assumption) | assumption)
            obtain ⟨ad125, e125, hx125_0⟩ := Kd.at_int HR2.out x34_2 p125 q125
            have hw125_0 := hx125_0
            cases e125
            replace hx125_0 := (HB.out.cell (World.block_lt_of_cell? w _ hx125_0)).trans hx125_0
            replace p125 := eq_true p125
            replace q125 := eq_true q125
            have p126 : 0 ≤ (x34_2 : Int) := of_decide_eq_true (by first | (with_reducible assumption) | assumption)
            have q126 : x34_2 < (l3.length : Int) := of_decide_eq_true (by first | (with_reducible assumption) | assumption)
            obtain ⟨ad126, e126, hx126_0⟩ := Kd.at_int HR3.out x34_2 p126 q126
            have hw126_0 := hx126_0
            cases e126
            replace hx126_0 := (HB.out.cell (World.block_lt_of_cell? w _ hx126_0)).trans hx126_0
            replace p126 := eq_true p126
            replace q126 := eq_true q126
            refine start_ (n := 17) (S := fun w' => True) (ds := []) #[false, false, false, false, false, false, false, false, false, false, false, false, false, false, false, false, false] (by kernel_rfl) rfl rfl trivial (fun hHeld => ?_); refine with_tabW spec_RunHold.tab7 spec_RunHold.bits7 (fun HT_ HW_ => ?_)
            generalize wr.drew = w41 at HO_11 BK121 BK122 BK123 HB hx125_0 hx126_0 hHeld ⊢
            refine pure_ (i := 2) (N := some 40) (v := ?_) (a' := ?_) #[false, false, true, false, false, false, false, false, false, false, false, false, false, false, false, false, false] rfl rfl (any_of HT_.out (by kernel_rfl)) (fun _ _ _ h => h) (Or.inl ⟨by rfl, ?_⟩) ?_ ?_
            rotate_left
            ·intro w'
             go_simp
             with_reducible rfl
            rotate_left
            ·simp only [Act.put, sB, sC, sD, i64_w, i32_w]
             rfl
            refine pure_ (i := 3) (N := some 41) (v := ?_) (a' := ?_) #[false, false, true, true, false, false, false, false, false, false, false, false, false, false, false, false, false] rfl rfl (any_of HT_.out (by kernel_rfl)) (fun _ _ _ h => h) (Or.inl ⟨by rfl, ?_⟩) ?_ ?_
            rotate_left
            ·intro w'
             go_simp
             with_reducible rfl
            rotate_left
            ·simp only [Act.put, sB, sC, sD, i64_w, i32_w]
             rfl
            refine pure_ (i := 6) (N := some 44) (v := ?_) (a' := ?_) #[false, false, true, true, false, false, true, false, false, false, false, false, false, false, false, false, false] rfl rfl (any_of HT_.out (by kernel_rfl)) (fun _ _ _ h => h) (Or.inl ⟨by rfl, ?_⟩) ?_ ?_
            rotate_left
            ·intro w'
             go_simp
             with_reducible rfl
            rotate_left
            ·simp only [Act.put, sB, sC, sD, i64_w, i32_w]
             rfl
            refine pure_ (i := 7) (N := some 45) (v := ?_) (a' := ?_) #[false, false, true, true, false, false, true, true, false, false, false, false, false, false, false, false, false] rfl rfl (any_of HT_.out (by kernel_rfl)) (fun _ _ _ h => h) (Or.inl ⟨by rfl, ?_⟩) ?_ ?_
            rotate_left
            ·intro w'
             go_simp
             with_reducible rfl
            rotate_left
            ·simp only [Act.put, sB, sC, sD, i64_w, i32_w]
             rfl
            refine inv_at [0, 1, 4, 5, 8, 9, 10, 11, 12, 13, 14, 15, 16] (fun a0_ b a w' => ∃ (gb132 : Nat) (m14_ : Value), a = putSel a0_ b [(0, 38, .agg #[.int .i64 a0_0, .int .i64 a0_1, .int .i64 a0_2, .int .i64 a0_3, .int .i64 a0_4, .int .i64 a0_5, .int .i64 a0_6]), (1, 39, .agg #[.bool x123000_2, .int .i64 x123001_2, .int .i64 x123002_2, .int .i64 x123003_2]), (4, 42, .pointer (some (ad125.add (x34_2).toNat))), (5, 43, .int .i64 (rd l2 x34_2)), (8, 46, .pointer (some (ad126.add (x34_2).toNat))), (9, 47, .int .i64 (rd l3 x34_2)), (10, 48, .tuple #[.agg #[.bool t127, .int .i64 t128, .int .i64 t129, .int .i64 t130], .bool true]), (11, 37, .tuple #[.agg #[.bool t127, .int .i64 t128, .int .i64 t129, .int .i64 t130], .bool true]), (12, 49, .agg #[.bool t127, .int .i64 t128, .int .i64 t129, .int .i64 t130]), (13, 50, .bool true), (14, 13, m14_), (16, 14, .bool true)] ∧ (Kd.R (Kd.int .i64) 3 w' w.heap.size (fun _ => True) u11 x11_2) ∧ (w'.heap[gb121]? = some (.cells #[.int .i64 a0_0, .int .i64 a0_1, .int .i64 a0_2, .int .i64 a0_3, .int .i64 a0_4, .int .i64 a0_5, .int .i64 a0_6] 30 (0, 0))) ∧ (w'.heap[gb122]? = some (.cells #[.bool x123000_2, .int .i64 x123001_2, .int .i64 x123002_2, .int .i64 x123003_2] 27 (0, 0))) ∧ (w'.heap[gb123]? = some (.cells #[.bool x124000_2, .int .i64 x124001_2, .int .i64 x124002_2, .int .i64 x124003_2] 27 (0, 0))) ∧ (Below w.heap.size w w') ∧ (b 14 = true → b 15 = false → w'.heap[gb132]? = some (.cells #[.bool false, .int .i64 0, .int .i64 0, .int .i64 0] 27 (0, 0))) ∧ (b 14 = true → w.heap.size ≤ gb132) ∧ (b 14 = true → w.heap.size ≤ gb132) ∧ (b 14 = true → gb121 ≠ gb132) ∧ (b 14 = true → gb132 ≠ gb121) ∧ (b 14 = true → gb122 ≠ gb132) ∧ (b 14 = true → gb132 ≠ gb122) ∧ (b 14 = true → gb123 ≠ gb132) ∧ (b 14 = true → gb132 ≠ gb123) ∧ (b 15 = true → w'.heap[gb132]? = some (.cells #[.bool t127, .int .i64 t128, .int .i64 t129, .int .i64 t130] 27 (0, 0))) ∧ (b 14 = true → (m14_ : Value) = .pointer (some ⟨gb132, 0, none⟩))) HT_.out HW_.out (by kernel_rfl) (by kernel_rfl) ?_ ?_ ?_
            ·exact ⟨0, .bool false, by simp only [putSel, Bool.false_eq_true, if_false], HO_11.out, BK121.out, BK122.out, BK123.out, HB.out, fun h_ => absurd h_ (by decide), fun h_ => absurd h_ (by decide), fun h_ => absurd h_ (by decide), fun h_ => absurd h_ (by decide), fun h_ => absurd h_ (by decide), fun h_ => absurd h_ (by decide), fun h_ => absurd h_ (by decide), fun h_ => absurd h_ (by decide), fun h_ => absurd h_ (by decide), fun h_ => absurd h_ (by decide), fun h_ => absurd h_ (by decide)⟩
            ·skip
             clear BK121 BK122 BK123 HB HO_11
             refine steps_cons ?_ ?_
             ·rintro b a w' ⟨gb132, m14_, ha, Q_HO_11, Q_BK121, Q_BK122, Q_BK123, Q_HB, Q_BK132, Q_GW132, Q_GE132, Q_NB121_132, Q_NB132_121, Q_NB122_132, Q_NB132_122, Q_NB123_132, Q_NB132_123, Q_BK132_e15, Q_X14_⟩ hb_ hon hoff
              refine ⟨_, rfl, fun K hK => ?_⟩
              have e4 : a.tmps[4]? = some (.pointer (some ⟨gb121, 0, none⟩)) := by rw [ha]; exact (putSel_off rfl).trans rfl
              replace ha := Aside0.mk ha
              have HO_11 := Aside0.mk Q_HO_11
              have BK121 := Aside0.mk Q_BK121
              have BK122 := Aside0.mk Q_BK122
              have BK123 := Aside0.mk Q_BK123
              have HB := Aside0.mk Q_HB
              have hc0_ : w'.cell? ⟨gb121, 0, none⟩ = some (.int .i64 a0_0) := (blk_cell BK121.out 0).trans rfl
              have hc1_ : w'.cell? ⟨gb121, 1, none⟩ = some (.int .i64 a0_1) := (blk_cell BK121.out 1).trans rfl
              have hc2_ : w'.cell? ⟨gb121, 2, none⟩ = some (.int .i64 a0_2) := (blk_cell BK121.out 2).trans rfl
              have hc3_ : w'.cell? ⟨gb121, 3, none⟩ = some (.int .i64 a0_3) := (blk_cell BK121.out 3).trans rfl
              have hc4_ : w'.cell? ⟨gb121, 4, none⟩ = some (.int .i64 a0_4) := (blk_cell BK121.out 4).trans rfl
              have hc5_ : w'.cell? ⟨gb121, 5, none⟩ = some (.int .i64 a0_5) := (blk_cell BK121.out 5).trans rfl
              have hc6_ : w'.cell? ⟨gb121, 6, none⟩ = some (.int .i64 a0_6) := (blk_cell BK121.out 6).trans rfl
              refine value_ (w1 := w') (v := .agg #[.int .i64 a0_0, .int .i64 a0_1, .int .i64 a0_2, .int .i64 a0_3, .int .i64 a0_4, .int .i64 a0_5, .int .i64 a0_6]) (by rfl) rfl ?_ ?_
              ·go_simp
               (try simp only [i64_w])
               try rfl
              refine hK.out _ _ ⟨gb132, m14_, (by rw [ha.out]; exact putSel_upk 0 hb_ rfl rfl rfl), Q_HO_11, Q_BK121, Q_BK122, Q_BK123, Q_HB, Q_BK132, Q_GW132, Q_GE132, Q_NB121_132, Q_NB132_121, Q_NB122_132, Q_NB132_122, Q_NB123_132, Q_NB132_123, ab (hoff 15 (by kernel_rfl)) (by decide), Q_X14_⟩
             refine steps_cons ?_ ?_
             ·rintro b a w' ⟨gb132, m14_, ha, Q_HO_11, Q_BK121, Q_BK122, Q_BK123, Q_HB, Q_BK132, Q_GW132, Q_GE132, Q_NB121_132, Q_NB132_121, Q_NB122_132, Q_NB132_122, Q_NB123_132, Q_NB132_123, Q_BK132_e15, Q_X14_⟩ hb_ hon hoff
              refine ⟨_, rfl, fun K hK => ?_⟩
              have e5 : a.tmps[5]? = some (.pointer (some ⟨gb122, 0, none⟩)) := by rw [ha]; exact (putSel_off rfl).trans rfl
              replace ha := Aside0.mk ha
              have HO_11 := Aside0.mk Q_HO_11
              have BK121 := Aside0.mk Q_BK121
              have BK122 := Aside0.mk Q_BK122
              have BK123 := Aside0.mk Q_BK123
              have HB := Aside0.mk Q_HB
              have hc0_ : w'.cell? ⟨gb122, 0, none⟩ = some (.bool x123000_2) := (blk_cell BK122.out 0).trans rfl
              have hc1_ : w'.cell? ⟨gb122, 1, none⟩ = some (.int .i64 x123001_2) := (blk_cell BK122.out 1).trans rfl
              have hc2_ : w'.cell? ⟨gb122, 2, none⟩ = some (.int .i64 x123002_2) := (blk_cell BK122.out 2).trans rfl
              have hc3_ : w'.cell? ⟨gb122, 3, none⟩ = some (.int .i64 x123003_2) := (blk_cell BK122.out 3).trans rfl
              refine value_ (w1 := w') (v := .agg #[.bool x123000_2, .int .i64 x123001_2, .int .i64 x123002_2, .int .i64 x123003_2]) (by rfl) rfl ?_ ?_
              ·go_simp
               (try simp only [i64_w])
               try rfl
              refine hK.out _ _ ⟨gb132, m14_, (by rw [ha.out]; exact putSel_upk 1 hb_ rfl rfl rfl), Q_HO_11, Q_BK121, Q_BK122, Q_BK123, Q_HB, Q_BK132, Q_GW132, Q_GE132, Q_NB121_132, Q_NB132_121, Q_NB122_132, Q_NB132_122, Q_NB123_132, Q_NB132_123, ab (hoff 15 (by kernel_rfl)) (by decide), Q_X14_⟩
             refine steps_cons ?_ ?_
             ·rintro b a w' ⟨gb132, m14_, ha, Q_HO_11, Q_BK121, Q_BK122, Q_BK123, Q_HB, Q_BK132, Q_GW132, Q_GE132, Q_NB121_132, Q_NB132_121, Q_NB122_132, Q_NB132_122, Q_NB123_132, Q_NB132_123, Q_BK132_e15, Q_X14_⟩ hb_ hon hoff
              refine ⟨_, rfl, fun K hK => ?_⟩
              have e40 : a.tmps[40]? = some (.slice (some ad125) l2.length c2) := by rw [ha]; exact (putSel_off rfl).trans rfl
              have e41 : a.tmps[41]? = some (.int .i64 x34_2) := by rw [ha]; exact (putSel_off rfl).trans rfl
              replace ha := Aside0.mk ha
              have HO_11 := Aside0.mk Q_HO_11
              have BK121 := Aside0.mk Q_BK121
              have BK122 := Aside0.mk Q_BK122
              have BK123 := Aside0.mk Q_BK123
              have HB := Aside0.mk Q_HB
              have hs0_ : w'.cell? (ad125.add (x34_2).toNat) = some (.int .i64 (rd l2 x34_2)) := ((HB.out.cell (World.block_lt_of_cell? w _ hw125_0)).trans hw125_0)
              refine value_ (w1 := w') (v := .pointer (some (ad125.add (x34_2).toNat))) (by rfl) rfl ?_ ?_
              ·go_simp
               (try simp only [i64_w])
               try rfl
              refine hK.out _ _ ⟨gb132, m14_, (by rw [ha.out]; exact putSel_upk 2 hb_ rfl rfl rfl), Q_HO_11, Q_BK121, Q_BK122, Q_BK123, Q_HB, Q_BK132, Q_GW132, Q_GE132, Q_NB121_132, Q_NB132_121, Q_NB122_132, Q_NB132_122, Q_NB123_132, Q_NB132_123, ab (hoff 15 (by kernel_rfl)) (by decide), Q_X14_⟩
             refine steps_cons ?_ ?_
             ·rintro b a w' ⟨gb132, m14_, ha, Q_HO_11, Q_BK121, Q_BK122, Q_BK123, Q_HB, Q_BK132, Q_GW132, Q_GE132, Q_NB121_132, Q_NB132_121, Q_NB122_132, Q_NB132_122, Q_NB123_132, Q_NB132_123, Q_BK132_e15, Q_X14_⟩ hb_ hon hoff
              refine ⟨_, rfl, fun K hK => ?_⟩
              have e42 : a.tmps[42]? = some (.pointer (some (ad125.add (x34_2).toNat))) := by rw [ha]; exact putSel_on (e := (4, 42, .pointer (some (ad125.add (x34_2).toNat)))) 2 rfl rfl (hon 4 (by kernel_rfl)) rfl
              replace ha := Aside0.mk ha
              have HO_11 := Aside0.mk Q_HO_11
              have BK121 := Aside0.mk Q_BK121
              have BK122 := Aside0.mk Q_BK122
              have BK123 := Aside0.mk Q_BK123
              have HB := Aside0.mk Q_HB
              have hs0_ : w'.cell? (ad125.add (x34_2).toNat) = some (.int .i64 (rd l2 x34_2)) := ((HB.out.cell (World.block_lt_of_cell? w _ hw125_0)).trans hw125_0)
              refine value_ (w1 := w') (v := .int .i64 (rd l2 x34_2)) (by rfl) rfl ?_ ?_
              ·go_simp
               (try simp only [i64_w])
               try rfl
              refine hK.out _ _ ⟨gb132, m14_, (by rw [ha.out]; exact putSel_upk 3 hb_ rfl rfl rfl), Q_HO_11, Q_BK121, Q_BK122, Q_BK123, Q_HB, Q_BK132, Q_GW132, Q_GE132, Q_NB121_132, Q_NB132_121, Q_NB122_132, Q_NB132_122, Q_NB123_132, Q_NB132_123, ab (hoff 15 (by kernel_rfl)) (by decide), Q_X14_⟩
             refine steps_cons ?_ ?_
             ·rintro b a w' ⟨gb132, m14_, ha, Q_HO_11, Q_BK121, Q_BK122, Q_BK123, Q_HB, Q_BK132, Q_GW132, Q_GE132, Q_NB121_132, Q_NB132_121, Q_NB122_132, Q_NB132_122, Q_NB123_132, Q_NB132_123, Q_BK132_e15, Q_X14_⟩ hb_ hon hoff
              refine ⟨_, rfl, fun K hK => ?_⟩
              have e44 : a.tmps[44]? = some (.slice (some ad126) l3.length c3) := by rw [ha]; exact (putSel_off rfl).trans rfl
              have e45 : a.tmps[45]? = some (.int .i64 x34_2) := by rw [ha]; exact (putSel_off rfl).trans rfl
              replace ha := Aside0.mk ha
              have HO_11 := Aside0.mk Q_HO_11
              have BK121 := Aside0.mk Q_BK121
              have BK122 := Aside0.mk Q_BK122
              have BK123 := Aside0.mk Q_BK123
              have HB := Aside0.mk Q_HB
              have hs1_ : w'.cell? (ad126.add (x34_2).toNat) = some (.int .i64 (rd l3 x34_2)) := ((HB.out.cell (World.block_lt_of_cell? w _ hw126_0)).trans hw126_0)
              refine value_ (w1 := w') (v := .pointer (some (ad126.add (x34_2).toNat))) (by rfl) rfl ?_ ?_
              ·go_simp
               (try simp only [i64_w])
               try rfl
              refine hK.out _ _ ⟨gb132, m14_, (by rw [ha.out]; exact putSel_upk 4 hb_ rfl rfl rfl), Q_HO_11, Q_BK121, Q_BK122, Q_BK123, Q_HB, Q_BK132, Q_GW132, Q_GE132, Q_NB121_132, Q_NB132_121, Q_NB122_132, Q_NB132_122, Q_NB123_132, Q_NB132_123, ab (hoff 15 (by kernel_rfl)) (by decide), Q_X14_⟩
             refine steps_cons ?_ ?_
             ·rintro b a w' ⟨gb132, m14_, ha, Q_HO_11, Q_BK121, Q_BK122, Q_BK123, Q_HB, Q_BK132, Q_GW132, Q_GE132, Q_NB121_132, Q_NB132_121, Q_NB122_132, Q_NB132_122, Q_NB123_132, Q_NB132_123, Q_BK132_e15, Q_X14_⟩ hb_ hon hoff
              refine ⟨_, rfl, fun K hK => ?_⟩
              have e46 : a.tmps[46]? = some (.pointer (some (ad126.add (x34_2).toNat))) := by rw [ha]; exact putSel_on (e := (8, 46, .pointer (some (ad126.add (x34_2).toNat)))) 4 rfl rfl (hon 8 (by kernel_rfl)) rfl
              replace ha := Aside0.mk ha
              have HO_11 := Aside0.mk Q_HO_11
              have BK121 := Aside0.mk Q_BK121
              have BK122 := Aside0.mk Q_BK122
              have BK123 := Aside0.mk Q_BK123
              have HB := Aside0.mk Q_HB
              have hs1_ : w'.cell? (ad126.add (x34_2).toNat) = some (.int .i64 (rd l3 x34_2)) := ((HB.out.cell (World.block_lt_of_cell? w _ hw126_0)).trans hw126_0)
              refine value_ (w1 := w') (v := .int .i64 (rd l3 x34_2)) (by rfl) rfl ?_ ?_
              ·go_simp
               (try simp only [i64_w])
               try rfl
              refine hK.out _ _ ⟨gb132, m14_, (by rw [ha.out]; exact putSel_upk 5 hb_ rfl rfl rfl), Q_HO_11, Q_BK121, Q_BK122, Q_BK123, Q_HB, Q_BK132, Q_GW132, Q_GE132, Q_NB121_132, Q_NB132_121, Q_NB122_132, Q_NB132_122, Q_NB123_132, Q_NB132_123, ab (hoff 15 (by kernel_rfl)) (by decide), Q_X14_⟩
             refine steps_cons ?_ ?_
             ·rintro b a w' ⟨gb132, m14_, ha, Q_HO_11, Q_BK121, Q_BK122, Q_BK123, Q_HB, Q_BK132, Q_GW132, Q_GE132, Q_NB121_132, Q_NB132_121, Q_NB122_132, Q_NB132_122, Q_NB123_132, Q_NB132_123, Q_BK132_e15, Q_X14_⟩ hb_ hon hoff
              refine ⟨_, rfl, fun K hK => ?_⟩
              have e38 : a.tmps[38]? = some (.agg #[.int .i64 a0_0, .int .i64 a0_1, .int .i64 a0_2, .int .i64 a0_3, .int .i64 a0_4, .int .i64 a0_5, .int .i64 a0_6]) := by rw [ha]; exact putSel_on (e := (0, 38, .agg #[.int .i64 a0_0, .int .i64 a0_1, .int .i64 a0_2, .int .i64 a0_3, .int .i64 a0_4, .int .i64 a0_5, .int .i64 a0_6])) 0 rfl rfl (hon 0 (by kernel_rfl)) rfl
              have e39 : a.tmps[39]? = some (.agg #[.bool x123000_2, .int .i64 x123001_2, .int .i64 x123002_2, .int .i64 x123003_2]) := by rw [ha]; exact putSel_on (e := (1, 39, .agg #[.bool x123000_2, .int .i64 x123001_2, .int .i64 x123002_2, .int .i64 x123003_2])) 1 rfl rfl (hon 1 (by kernel_rfl)) rfl
              have e43 : a.tmps[43]? = some (.int .i64 (rd l2 x34_2)) := by rw [ha]; exact putSel_on (e := (5, 43, .int .i64 (rd l2 x34_2))) 3 rfl rfl (hon 5 (by kernel_rfl)) rfl
              have e47 : a.tmps[47]? = some (.int .i64 (rd l3 x34_2)) := by rw [ha]; exact putSel_on (e := (9, 47, .int .i64 (rd l3 x34_2))) 5 rfl rfl (hon 9 (by kernel_rfl)) rfl
              replace ha := Aside0.mk ha
              have HO_11 := Aside0.mk Q_HO_11
              have BK121 := Aside0.mk Q_BK121
              have BK122 := Aside0.mk Q_BK122
              have BK123 := Aside0.mk Q_BK123
              have HB := Aside0.mk Q_HB
              refine goes_ Try.func24 (by kernel_rfl) rfl #[.agg #[.int .i64 a0_0, .int .i64 a0_1, .int .i64 a0_2, .int .i64 a0_3, .int .i64 a0_4, .int .i64 a0_5, .int .i64 a0_6], .agg #[.bool x123000_2, .int .i64 x123001_2, .int .i64 x123002_2, .int .i64 x123003_2], .int .i64 (rd l2 x34_2), .int .i64 (rd l3 x34_2)] (by rfl) rfl rfl (by first | (simp only [List.map_toArray, List.map_cons, List.map_nil, Act.eval, Array.getD_eq_getD_getElem?, Option.getD_some, e38, e39, e43, e47]; done) | (simp only [List.map_toArray, List.map_cons, List.map_nil, Act.eval, Array.getD_eq_getD_getElem?, Option.getD_some, e38, e39, e43, e47]; rfl)) ?_
              with_reducible refine (spec_HoldStep.calls k2 a0_0 a0_1 a0_2 a0_3 a0_4 a0_5 a0_6 x123000_2 x123001_2 x123002_2 x123003_2 (rd l2 x34_2) (rd l3 x34_2) t127 t128 t129 t130 true _ A38.out).mono ?_
              rintro e w42 ⟨rfl, hb⟩
              refine ⟨_, rfl, ?_⟩
              have n0_ := a_ (Kd.R_below (rk HO_11.out) hb)
              have n1_ := a_ (blk_below (pk BK121.out) hb)
              have n2_ := a_ (blk_below (pk BK122.out) hb)
              have n3_ := a_ (blk_below (pk BK123.out) hb)
              have n4_ := a_ (below_step (by repeat (with_reducible first | exact HB.out | refine bz ?_ (by assumption) | apply bA | apply bN | apply bD)) hb)
              have z_BK132 := fun (h0_ : b 14 = true) (h1_ : b 15 = false) => (show w42.heap[gb132]? = some (.cells #[.bool false, .int .i64 0, .int .i64 0, .int .i64 0] 27 (0, 0)) from by first | exact (blk_below (g := gb132) (o := .cells #[.bool false, .int .i64 0, .int .i64 0, .int .i64 0] 27 (0, 0)) (by refine pk ?_; exact (Q_BK132 h0_ h1_)) hb))
              clear HO_11
              clear BK121
              clear BK122
              clear BK123
              clear HB
              have HO_11 := n0_
              have BK121 := n1_
              have BK122 := n2_
              have BK123 := n3_
              have HB := n4_
              clear n0_ n1_ n2_ n3_ n4_
              (try clear hb)
              (try clear hb2)
              (try clear hk)
              (try clear hi)
              refine hK.out _ _ ⟨gb132, m14_, (by rw [ha.out]; exact putSel_upk 6 hb_ rfl rfl rfl), (rk HO_11.out), (pk BK121.out), (pk BK122.out), (pk BK123.out), (by repeat (with_reducible first | exact HB.out | refine bz ?_ (by assumption) | apply bA | apply bN | apply bD)), z_BK132, Q_GW132, Q_GE132, Q_NB121_132, Q_NB132_121, Q_NB122_132, Q_NB132_122, Q_NB123_132, Q_NB132_123, ab (hoff 15 (by kernel_rfl)) (by decide), Q_X14_⟩
             refine steps_cons ?_ ?_
             ·rintro b a w' ⟨gb132, m14_, ha, Q_HO_11, Q_BK121, Q_BK122, Q_BK123, Q_HB, Q_BK132, Q_GW132, Q_GE132, Q_NB121_132, Q_NB132_121, Q_NB122_132, Q_NB132_122, Q_NB123_132, Q_NB132_123, Q_BK132_e15, Q_X14_⟩ hb_ hon hoff
              refine ⟨_, rfl, fun K hK => ?_⟩
              have e48 : a.tmps[48]? = some (.tuple #[.agg #[.bool t127, .int .i64 t128, .int .i64 t129, .int .i64 t130], .bool true]) := by rw [ha]; exact putSel_on (e := (10, 48, .tuple #[.agg #[.bool t127, .int .i64 t128, .int .i64 t129, .int .i64 t130], .bool true])) 6 rfl rfl (hon 10 (by kernel_rfl)) rfl
              replace ha := Aside0.mk ha
              have HO_11 := Aside0.mk Q_HO_11
              have BK121 := Aside0.mk Q_BK121
              have BK122 := Aside0.mk Q_BK122
              have BK123 := Aside0.mk Q_BK123
              have HB := Aside0.mk Q_HB
              refine value_ (w1 := w') (v := .tuple #[.agg #[.bool t127, .int .i64 t128, .int .i64 t129, .int .i64 t130], .bool true]) (by rfl) rfl ?_ ?_
              ·go_simp
               (try simp only [i64_w])
               try rfl
              refine hK.out _ _ ⟨gb132, m14_, (by rw [ha.out]; exact putSel_upk 7 hb_ rfl rfl rfl), Q_HO_11, Q_BK121, Q_BK122, Q_BK123, Q_HB, Q_BK132, Q_GW132, Q_GE132, Q_NB121_132, Q_NB132_121, Q_NB122_132, Q_NB132_122, Q_NB123_132, Q_NB132_123, ab (hoff 15 (by kernel_rfl)) (by decide), Q_X14_⟩
             refine steps_cons ?_ ?_
             ·rintro b a w' ⟨gb132, m14_, ha, Q_HO_11, Q_BK121, Q_BK122, Q_BK123, Q_HB, Q_BK132, Q_GW132, Q_GE132, Q_NB121_132, Q_NB132_121, Q_NB122_132, Q_NB132_122, Q_NB123_132, Q_NB132_123, Q_BK132_e15, Q_X14_⟩ hb_ hon hoff
              refine ⟨_, rfl, fun K hK => ?_⟩
              have e37 : a.tmps[37]? = some (.tuple #[.agg #[.bool t127, .int .i64 t128, .int .i64 t129, .int .i64 t130], .bool true]) := by rw [ha]; exact putSel_on (e := (11, 37, .tuple #[.agg #[.bool t127, .int .i64 t128, .int .i64 t129, .int .i64 t130], .bool true])) 7 rfl rfl (hon 11 (by kernel_rfl)) rfl
              replace ha := Aside0.mk ha
              have HO_11 := Aside0.mk Q_HO_11
              have BK121 := Aside0.mk Q_BK121
              have BK122 := Aside0.mk Q_BK122
              have BK123 := Aside0.mk Q_BK123
              have HB := Aside0.mk Q_HB
              refine value_ (w1 := w') (v := .agg #[.bool t127, .int .i64 t128, .int .i64 t129, .int .i64 t130]) (by rfl) rfl ?_ ?_
              ·go_simp
               (try simp only [i64_w])
               try rfl
              refine hK.out _ _ ⟨gb132, m14_, (by rw [ha.out]; exact putSel_upk 8 hb_ rfl rfl rfl), Q_HO_11, Q_BK121, Q_BK122, Q_BK123, Q_HB, Q_BK132, Q_GW132, Q_GE132, Q_NB121_132, Q_NB132_121, Q_NB122_132, Q_NB132_122, Q_NB123_132, Q_NB132_123, ab (hoff 15 (by kernel_rfl)) (by decide), Q_X14_⟩
             refine steps_cons ?_ ?_
             ·rintro b a w' ⟨gb132, m14_, ha, Q_HO_11, Q_BK121, Q_BK122, Q_BK123, Q_HB, Q_BK132, Q_GW132, Q_GE132, Q_NB121_132, Q_NB132_121, Q_NB122_132, Q_NB132_122, Q_NB123_132, Q_NB132_123, Q_BK132_e15, Q_X14_⟩ hb_ hon hoff
              refine ⟨_, rfl, fun K hK => ?_⟩
              have e37 : a.tmps[37]? = some (.tuple #[.agg #[.bool t127, .int .i64 t128, .int .i64 t129, .int .i64 t130], .bool true]) := by rw [ha]; exact putSel_on (e := (11, 37, .tuple #[.agg #[.bool t127, .int .i64 t128, .int .i64 t129, .int .i64 t130], .bool true])) 7 rfl rfl (hon 11 (by kernel_rfl)) rfl
              replace ha := Aside0.mk ha
              have HO_11 := Aside0.mk Q_HO_11
              have BK121 := Aside0.mk Q_BK121
              have BK122 := Aside0.mk Q_BK122
              have BK123 := Aside0.mk Q_BK123
              have HB := Aside0.mk Q_HB
              refine value_ (w1 := w') (v := .bool true) (by rfl) rfl ?_ ?_
              ·go_simp
               (try simp only [i64_w])
               try rfl
              refine hK.out _ _ ⟨gb132, m14_, (by rw [ha.out]; exact putSel_upk 9 hb_ rfl rfl rfl), Q_HO_11, Q_BK121, Q_BK122, Q_BK123, Q_HB, Q_BK132, Q_GW132, Q_GE132, Q_NB121_132, Q_NB132_121, Q_NB122_132, Q_NB132_122, Q_NB123_132, Q_NB132_123, Q_BK132_e15, Q_X14_⟩
             refine steps_cons ?_ ?_
             ·rintro b a w' ⟨gb132, m14_, ha, Q_HO_11, Q_BK121, Q_BK122, Q_BK123, Q_HB, Q_BK132, Q_GW132, Q_GE132, Q_NB121_132, Q_NB132_121, Q_NB122_132, Q_NB132_122, Q_NB123_132, Q_NB132_123, Q_BK132_e15, Q_X14_⟩ hb_ hon hoff
              refine ⟨_, rfl, fun K hK => ?_⟩
              replace ha := Aside0.mk ha
              have HO_11 := Aside0.mk Q_HO_11
              have BK121 := Aside0.mk Q_BK121
              have BK122 := Aside0.mk Q_BK122
              have BK123 := Aside0.mk Q_BK123
              have HB := Aside0.mk Q_HB
              refine box_step ?hg (N := 13) ?hd (cs := #[.bool false, .int .i64 0, .int .i64 0, .int .i64 0]) (t := 27) ?hr ?_; (case hd => rfl); (case hg => rfl); (case hr => first | (go_simp; done) | (go_simp; rfl))
              intro gb132 hg w42 hbox hb
              replace HO_11 := a_ (Kd.R_below (rk HO_11.out) hb)
              have BK132 := a_ (hbox)
              have GW132 := a_ (bsg hg HB.out)
              have GE132 := a_ (bsg hg HB.out)
              replace HB := a_ (below_step (by repeat (with_reducible first | exact HB.out | refine bz ?_ (by assumption) | apply bA | apply bN | apply bD)) hb)
              have NB121_132 := a_ (nel hg BK121.out)
              have NB132_121 := a_ (nle hg BK121.out)
              replace BK121 := a_ (blk_below (pk BK121.out) hb)
              have NB122_132 := a_ (nel hg BK122.out)
              have NB132_122 := a_ (nle hg BK122.out)
              replace BK122 := a_ (blk_below (pk BK122.out) hb)
              have NB123_132 := a_ (nel hg BK123.out)
              have NB132_123 := a_ (nle hg BK123.out)
              replace BK123 := a_ (blk_below (pk BK123.out) hb)
              clear hb hbox hg
              refine hK.out _ _ ⟨gb132, (.pointer (some ⟨gb132, 0, none⟩)), (by rw [ha.out]; exact putSel_upk 10 hb_ rfl rfl rfl), (rk HO_11.out), (pk BK121.out), (pk BK122.out), (pk BK123.out), (by repeat (with_reducible first | exact HB.out | refine bz ?_ (by assumption) | apply bA | apply bN | apply bD)), fun _ _ => (pk BK132.out), fun _ => GW132.out, fun _ => GE132.out, fun _ => NB121_132.out, fun _ => NB132_121.out, fun _ => NB122_132.out, fun _ => NB132_122.out, fun _ => NB123_132.out, fun _ => NB132_123.out, ab (hoff 15 (by kernel_rfl)) (by decide), fun _ => rfl⟩
             refine steps_cons ?_ ?_
             ·rintro b a w' ⟨gb132, m14_, ha, Q_HO_11, Q_BK121, Q_BK122, Q_BK123, Q_HB, Q_BK132, Q_GW132, Q_GE132, Q_NB121_132, Q_NB132_121, Q_NB122_132, Q_NB132_122, Q_NB123_132, Q_NB132_123, Q_BK132_e15, Q_X14_⟩ hb_ hon hoff
              refine ⟨_, rfl, fun K hK => ?_⟩
              have e13 : a.tmps[13]? = some (m14_) := by rw [ha]; exact putSel_on (e := (14, 13, m14_)) 10 rfl rfl (hon 14 (by kernel_rfl)) rfl
              rw [Q_X14_ (hon 14 (by kernel_rfl))] at e13
              have e49 : a.tmps[49]? = some (.agg #[.bool t127, .int .i64 t128, .int .i64 t129, .int .i64 t130]) := by rw [ha]; exact putSel_on (e := (12, 49, .agg #[.bool t127, .int .i64 t128, .int .i64 t129, .int .i64 t130])) 8 rfl rfl (hon 12 (by kernel_rfl)) rfl
              replace ha := Aside0.mk ha
              have HO_11 := Aside0.mk Q_HO_11
              have BK121 := Aside0.mk Q_BK121
              have BK122 := Aside0.mk Q_BK122
              have BK123 := Aside0.mk Q_BK123
              have HB := Aside0.mk Q_HB
              have BK132 := a_ (Q_BK132 (hon 14 (by kernel_rfl)) hb_)
              have GW132 := a_ (Q_GW132 (hon 14 (by kernel_rfl)))
              have GE132 := a_ (Q_GE132 (hon 14 (by kernel_rfl)))
              have NB121_132 := a_ (Q_NB121_132 (hon 14 (by kernel_rfl)))
              have NB132_121 := a_ (Q_NB132_121 (hon 14 (by kernel_rfl)))
              have NB122_132 := a_ (Q_NB122_132 (hon 14 (by kernel_rfl)))
              have NB132_122 := a_ (Q_NB132_122 (hon 14 (by kernel_rfl)))
              have NB123_132 := a_ (Q_NB123_132 (hon 14 (by kernel_rfl)))
              have NB132_123 := a_ (Q_NB132_123 (hon 14 (by kernel_rfl)))
              have hs45 : w'.cell? ⟨gb132, 0, none⟩ = some (.bool false) := (blk_cell BK132.out 0).trans rfl
              have hfs45 := blk_frozen BK132.out 0
              have hns45_0 := NB121_132.out
              have hns45_1 := NB122_132.out
              have hns45_2 := NB123_132.out
              have hms45_0 := NB132_121.out
              have hms45_1 := NB132_122.out
              have hms45_2 := NB132_123.out
              have hs46 : w'.cell? ⟨gb132, 1, none⟩ = some (.int .i64 0) := (blk_cell BK132.out 1).trans rfl
              have hfs46 := blk_frozen BK132.out 1
              have hns46_0 := NB121_132.out
              have hns46_1 := NB122_132.out
              have hns46_2 := NB123_132.out
              have hms46_0 := NB132_121.out
              have hms46_1 := NB132_122.out
              have hms46_2 := NB132_123.out
              have hs47 : w'.cell? ⟨gb132, 2, none⟩ = some (.int .i64 0) := (blk_cell BK132.out 2).trans rfl
              have hfs47 := blk_frozen BK132.out 2
              have hns47_0 := NB121_132.out
              have hns47_1 := NB122_132.out
              have hns47_2 := NB123_132.out
              have hms47_0 := NB132_121.out
              have hms47_1 := NB132_122.out
              have hms47_2 := NB132_123.out
              have hs48 : w'.cell? ⟨gb132, 3, none⟩ = some (.int .i64 0) := (blk_cell BK132.out 3).trans rfl
              have hfs48 := blk_frozen BK132.out 3
              have hns48_0 := NB121_132.out
              have hns48_1 := NB122_132.out
              have hns48_2 := NB123_132.out
              have hms48_0 := NB132_121.out
              have hms48_1 := NB132_122.out
              have hms48_2 := NB132_123.out
              refine skip_ (w1 := ?_) ?_ ?_ ?_ ?_
              rotate_left
              ·rfl
              ·rfl
              ·go_simp
               rfl
              refine hK.out _ _ ⟨gb132, m14_, (by rw [ha.out]; exact putSel_none (v := undef) rfl), (rk (Kd.R_mono (fr4 HO_11.out BK132.out (by decide) 0 (.bool t127) 1 (.int .i64 t128) 2 (.int .i64 t129) 3 (.int .i64 t130)) (fun _ hk => trivial))), (by refine pk ?_; refine blk_far ?_ NB121_132.out _; refine pk ?_; refine blk_far ?_ NB121_132.out _; refine pk ?_; refine blk_far ?_ NB121_132.out _; refine pk ?_; refine blk_far ?_ NB121_132.out _; refine pk ?_; exact BK121.out), (by refine pk ?_; refine blk_far ?_ NB122_132.out _; refine pk ?_; refine blk_far ?_ NB122_132.out _; refine pk ?_; refine blk_far ?_ NB122_132.out _; refine pk ?_; refine blk_far ?_ NB122_132.out _; refine pk ?_; exact BK122.out), (by refine pk ?_; refine blk_far ?_ NB123_132.out _; refine pk ?_; refine blk_far ?_ NB123_132.out _; refine pk ?_; refine blk_far ?_ NB123_132.out _; refine pk ?_; refine blk_far ?_ NB123_132.out _; refine pk ?_; exact BK123.out), (by repeat (with_reducible first | exact HB.out | refine bz ?_ (by assumption) | apply bA | apply bN | apply bD)), fun _ h1_ => absurd ((up_self b 15).symm.trans h1_) (by decide), fun _ => GW132.out, fun _ => GE132.out, fun _ => NB121_132.out, fun _ => NB132_121.out, fun _ => NB122_132.out, fun _ => NB132_122.out, fun _ => NB123_132.out, fun _ => NB132_123.out, fun _ => (by refine pk ?_; refine blk_put (cs := #[.bool t127, .int .i64 t128, .int .i64 t129, .int .i64 0]) ?_ 3 _ rfl; refine pk ?_; refine blk_put (cs := #[.bool t127, .int .i64 t128, .int .i64 0, .int .i64 0]) ?_ 2 _ rfl; refine pk ?_; refine blk_put (cs := #[.bool t127, .int .i64 0, .int .i64 0, .int .i64 0]) ?_ 1 _ rfl; refine pk ?_; refine blk_put (cs := #[.bool false, .int .i64 0, .int .i64 0, .int .i64 0]) ?_ 0 _ rfl; refine pk ?_; exact BK132.out), Q_X14_⟩
             refine steps_cons ?_ ?_
             ·rintro b a w' ⟨gb132, m14_, ha, Q_HO_11, Q_BK121, Q_BK122, Q_BK123, Q_HB, Q_BK132, Q_GW132, Q_GE132, Q_NB121_132, Q_NB132_121, Q_NB122_132, Q_NB132_122, Q_NB123_132, Q_NB132_123, Q_BK132_e15, Q_X14_⟩ hb_ hon hoff
              refine ⟨_, rfl, fun K hK => ?_⟩
              have e50 : a.tmps[50]? = some (.bool true) := by rw [ha]; exact putSel_on (e := (13, 50, .bool true)) 9 rfl rfl (hon 13 (by kernel_rfl)) rfl
              replace ha := Aside0.mk ha
              have HO_11 := Aside0.mk Q_HO_11
              have BK121 := Aside0.mk Q_BK121
              have BK122 := Aside0.mk Q_BK122
              have BK123 := Aside0.mk Q_BK123
              have HB := Aside0.mk Q_HB
              have GW132 := a_ (Q_GW132 (hon 14 (by kernel_rfl)))
              have GE132 := a_ (Q_GE132 (hon 14 (by kernel_rfl)))
              have NB121_132 := a_ (Q_NB121_132 (hon 14 (by kernel_rfl)))
              have NB132_121 := a_ (Q_NB132_121 (hon 14 (by kernel_rfl)))
              have NB122_132 := a_ (Q_NB122_132 (hon 14 (by kernel_rfl)))
              have NB132_122 := a_ (Q_NB132_122 (hon 14 (by kernel_rfl)))
              have NB123_132 := a_ (Q_NB123_132 (hon 14 (by kernel_rfl)))
              have NB132_123 := a_ (Q_NB132_123 (hon 14 (by kernel_rfl)))
              have BK132 := a_ (Q_BK132_e15 (hon 15 (by kernel_rfl)))
              refine value_ (w1 := w') (v := .bool true) (by rfl) rfl ?_ ?_
              ·go_simp
               (try simp only [i64_w])
               try rfl
              refine hK.out _ _ ⟨gb132, m14_, (by rw [ha.out]; exact putSel_upk 11 hb_ rfl rfl rfl), Q_HO_11, Q_BK121, Q_BK122, Q_BK123, Q_HB, fun _ h1_ => absurd ((hon 15 (by kernel_rfl)).symm.trans h1_) (by decide), Q_GW132, Q_GE132, Q_NB121_132, Q_NB132_121, Q_NB122_132, Q_NB132_122, Q_NB123_132, Q_NB132_123, Q_BK132_e15, Q_X14_⟩
             exact steps_nil
            rintro b a w48 hall ⟨gb132, m14_, ha, Q_HO_11, Q_BK121, Q_BK122, Q_BK123, Q_HB, Q_BK132, Q_GW132, Q_GE132, Q_NB121_132, Q_NB132_121, Q_NB122_132, Q_NB132_122, Q_NB123_132, Q_NB132_123, Q_BK132_e15, Q_X14_⟩
            clear BK121 BK122 BK123 HB HO_11
            have hb0_ := hall 0 (by kernel_rfl)
            have hb1_ := hall 1 (by kernel_rfl)
            have hb4_ := hall 4 (by kernel_rfl)
            have hb5_ := hall 5 (by kernel_rfl)
            have hb8_ := hall 8 (by kernel_rfl)
            have hb9_ := hall 9 (by kernel_rfl)
            have hb10_ := hall 10 (by kernel_rfl)
            have hb11_ := hall 11 (by kernel_rfl)
            have hb12_ := hall 12 (by kernel_rfl)
            have hb13_ := hall 13 (by kernel_rfl)
            have hb14_ := hall 14 (by kernel_rfl)
            have hb15_ := hall 15 (by kernel_rfl)
            have hb16_ := hall 16 (by kernel_rfl)
            subst ha
            obtain rfl := Q_X14_ hb14_
            simp only [putSel, hb0_, hb1_, hb4_, hb5_, hb8_, hb9_, hb10_, hb11_, hb12_, hb13_, hb14_, hb15_, hb16_, if_true, Act.put, sB, sC, sD]
            have HO_11 := Aside0.mk Q_HO_11
            clear Q_HO_11
            have BK121 := Aside0.mk Q_BK121
            clear Q_BK121
            have BK122 := Aside0.mk Q_BK122
            clear Q_BK122
            have BK123 := Aside0.mk Q_BK123
            clear Q_BK123
            have HB := Aside0.mk Q_HB
            clear Q_HB
            clear Q_BK132
            have GW132 := a_ (Q_GW132 hb14_)
            clear Q_GW132
            have GE132 := a_ (Q_GE132 hb14_)
            clear Q_GE132
            have NB121_132 := a_ (Q_NB121_132 hb14_)
            clear Q_NB121_132
            have NB132_121 := a_ (Q_NB132_121 hb14_)
            clear Q_NB132_121
            have NB122_132 := a_ (Q_NB122_132 hb14_)
            clear Q_NB122_132
            have NB132_122 := a_ (Q_NB132_122 hb14_)
            clear Q_NB132_122
            have NB123_132 := a_ (Q_NB123_132 hb14_)
            clear Q_NB123_132
            have NB132_123 := a_ (Q_NB132_123 hb14_)
            clear Q_NB132_123
            have BK132 := a_ (Q_BK132_e15 hb15_)
            clear Q_BK132_e15
            clear hall hb0_ hb1_ hb4_ hb5_ hb8_ hb9_ hb10_ hb11_ hb12_ hb13_ hb14_ hb15_ hb16_
            have hnb49 := NB132_121.out
            have hnc49 := NB121_132.out
            have hnb50 := NB132_122.out
            have hnc50 := NB122_132.out
            have hnb51 := NB132_123.out
            have hnc51 := NB123_132.out
            have hcz52_0 : _ = some (Value.bool t127) := (blk_cell BK132.out 0).trans rfl
            have hcz52_1 : _ = some (Value.int .i64 t128) := (blk_cell BK132.out 1).trans rfl
            have hcz52_2 : _ = some (Value.int .i64 t129) := (blk_cell BK132.out 2).trans rfl
            have hcz52_3 : _ = some (Value.int .i64 t130) := (blk_cell BK132.out 3).trans rfl
            have hfz52_0 := blk_frozen BK132.out 0
            have hfz52_1 := blk_frozen BK132.out 1
            have hfz52_2 := blk_frozen BK132.out 2
            have hfz52_3 := blk_frozen BK132.out 3
            have hnb53 := NB122_121.out
            have hnc53 := NB121_122.out
            have hnb54 := NB122_123.out
            have hnc54 := NB123_122.out
            have hcz55_0 : _ = some (Value.bool x123000_2) := (blk_cell BK122.out 0).trans rfl
            have hcz55_1 : _ = some (Value.int .i64 x123001_2) := (blk_cell BK122.out 1).trans rfl
            have hcz55_2 : _ = some (Value.int .i64 x123002_2) := (blk_cell BK122.out 2).trans rfl
            have hcz55_3 : _ = some (Value.int .i64 x123003_2) := (blk_cell BK122.out 3).trans rfl
            have hfz55_0 := blk_frozen BK122.out 0
            have hfz55_1 := blk_frozen BK122.out 1
            have hfz55_2 := blk_frozen BK122.out 2
            have hfz55_3 := blk_frozen BK122.out 3
            try go_wp2_with (first | ((with_reducible refine gate_builtin (b := .append) (xs := #[.tmp 55, .tmp 58]) rfl ?_); (try (refine gate_guard (by rfl) ?_; dsimp only)); at_builtin; refine Kd.R_append (Kd.int .i64) (w0 := w) w.heap.size rfl (.tmp 55) (.tmp 58) 26 3 (.int .i64 0) 8 rfl Try.underlying26 info3 rfl (by decide) (by omega) u11 x11_2 t130 [.int .i64 t130] (fun _ => True) (fun _ => False) rfl (by first | (go_simp; done) | (go_simp; rfl)) ?aP (fun _ hk => hk.elim) ?aF ?aO ?aB ?aS ?aL ?_; (case aP => exact rfl); (case aB => exact (by repeat (with_reducible first | exact HB.out | refine bz ?_ (by assumption) | apply bA | apply bN | apply bD))); (case aF => exact (fun _ _ => trivial)); (case aO => exact (rk (Kd.R_mono (fr4 HO_11.out BK122.out (by decide) 0 (.bool t127) 1 (.int .i64 t128) 2 (.int .i64 t129) 3 (.int .i64 t130)) (fun _ hk => trivial)))); (case aS => exact (bs HB.out)); (case aL => have := LMc40.out; omega); intro v134 w56 ho hb hg hat; rw [← Ny133.out] at ho; replace BK121 := a_ (blk_grown (g := gb121) (o := .cells #[.int .i64 a0_0, .int .i64 a0_1, .int .i64 a0_2, .int .i64 a0_3, .int .i64 a0_4, .int .i64 a0_5, .int .i64 a0_6] 30 (0, 0)) (by refine pk ?_; refine blk_far ?_ NB121_122.out _; refine pk ?_; refine blk_far ?_ NB121_122.out _; refine pk ?_; refine blk_far ?_ NB121_122.out _; refine pk ?_; refine blk_far ?_ NB121_122.out _; refine pk ?_; exact BK121.out) hg (Kd.R_ne HO_11.out BK121.out (by decide))); replace BK122 := a_ (blk_grown (g := gb122) (o := .cells #[.bool t127, .int .i64 t128, .int .i64 t129, .int .i64 t130] 27 (0, 0)) (by refine pk ?_; refine blk_put (cs := #[.bool t127, .int .i64 t128, .int .i64 t129, .int .i64 x123003_2]) ?_ 3 _ rfl; refine pk ?_; refine blk_put (cs := #[.bool t127, .int .i64 t128, .int .i64 x123002_2, .int .i64 x123003_2]) ?_ 2 _ rfl; refine pk ?_; refine blk_put (cs := #[.bool t127, .int .i64 x123001_2, .int .i64 x123002_2, .int .i64 x123003_2]) ?_ 1 _ rfl; refine pk ?_; refine blk_put (cs := #[.bool x123000_2, .int .i64 x123001_2, .int .i64 x123002_2, .int .i64 x123003_2]) ?_ 0 _ rfl; refine pk ?_; exact BK122.out) hg (Kd.R_ne HO_11.out BK122.out (by decide))); replace BK123 := a_ (blk_grown (g := gb123) (o := .cells #[.bool x124000_2, .int .i64 x124001_2, .int .i64 x124002_2, .int .i64 x124003_2] 27 (0, 0)) (by refine pk ?_; refine blk_far ?_ NB123_122.out _; refine pk ?_; refine blk_far ?_ NB123_122.out _; refine pk ?_; refine blk_far ?_ NB123_122.out _; refine pk ?_; refine blk_far ?_ NB123_122.out _; refine pk ?_; exact BK123.out) hg (Kd.R_ne HO_11.out BK123.out (by decide))); replace BK132 := a_ (blk_grown (g := gb132) (o := .cells #[.bool t127, .int .i64 t128, .int .i64 t129, .int .i64 t130] 27 (0, 0)) (by refine pk ?_; refine blk_far ?_ NB132_122.out _; refine pk ?_; refine blk_far ?_ NB132_122.out _; refine pk ?_; refine blk_far ?_ NB132_122.out _; refine pk ?_; refine blk_far ?_ NB132_122.out _; refine pk ?_; exact BK132.out) hg (Kd.R_ne HO_11.out BK132.out (by decide))); replace HB := a_ (hb); have HO135 := a_ (ho); clear HO_11 ho hb hg hat))
            go_roundg k2
            case measure => have := HJ4.out; have := HK2.out; omega
            case rel => exact ⟨(y133), (wrap64 (x34_2 + 1)), (t127), (t128), (t129), (t130), (x124000_2), (x124001_2), (x124002_2), (x124003_2), (by first | rfl | (simp; done) | (simp [*]; done)), H', ⟨by have := HJ4.out; have := HK2.out; omega⟩, ⟨rk (HO135.out)⟩, ⟨pk BK121.out⟩, ⟨pk BK122.out⟩, ⟨pk BK123.out⟩, ⟨by repeat (with_reducible first | exact HB.out | refine bz ?_ (by assumption) | apply bA | apply bN | apply bD)⟩⟩
           ·rw [if_neg c40] at H
            exact absurd H (by simp)
          ·replace c39 := Bool.eq_false_iff.mpr c39
           subst c39
           have H1 : (some (([] : List Int), false, 0, 0, 0, false)) = some (r1, r2, r3, r4, r5, r6) := by rw [if_neg (show ¬ (false = true) by decide)] at H; exact H
           clear H
           have H := H1
           clear H1
           simp only [Option.some.injEq, Prod.mk.injEq] at H
           obtain ⟨rfl, rfl, rfl, rfl, rfl, rfl⟩ := H
           try go_wp2
           replace HO_11 := a_ (Kd.R_drew HO_11.out)
           replace BK121 := a_ (blk_drew BK121.out)
           replace BK122 := a_ (blk_drew BK122.out)
           replace BK123 := a_ (blk_drew BK123.out)
           replace HB := a_ (below_drew1 HB.out)
           have p125 : 0 ≤ (x34_2 : Int) := of_decide_eq_true (by first | (with_reducible assumption) | assumption)
           have q125 : x34_2 < (l2.length : Int) := of_decide_eq_true (by first | (with_reducible assumption) | assumption)
           obtain ⟨ad125, e125, hx125_0⟩ := Kd.at_int HR2.out x34_2 p125 q125
           have hw125_0 := hx125_0
           cases e125
           replace hx125_0 := (HB.out.cell (World.block_lt_of_cell? w _ hx125_0)).trans hx125_0
           replace p125 := eq_true p125
           replace q125 := eq_true q125
           have p126 : 0 ≤ (x34_2 : Int) := of_decide_eq_true (by first | (with_reducible assumption) | assumption)
           have q126 : x34_2 < (l3.length : Int) := of_decide_eq_true (by first | (with_reducible assumption) | assumption)
           obtain ⟨ad126, e126, hx126_0⟩ := Kd.at_int HR3.out x34_2 p126 q126
           have hw126_0 := hx126_0
           cases e126
           replace hx126_0 := (HB.out.cell (World.block_lt_of_cell? w _ hx126_0)).trans hx126_0
           replace p126 := eq_true p126
           replace q126 := eq_true q126
           refine start_ (n := 17) (S := fun w' => True) (ds := []) #[false, false, false, false, false, false, false, false, false, false, false, false, false, false, false, false, false] (by kernel_rfl) rfl rfl trivial (fun hHeld => ?_); refine with_tabW spec_RunHold.tab7 spec_RunHold.bits7 (fun HT_ HW_ => ?_)
           generalize wr.drew = w57 at HO_11 BK121 BK122 BK123 HB hx125_0 hx126_0 hHeld ⊢
           refine pure_ (i := 2) (N := some 40) (v := ?_) (a' := ?_) #[false, false, true, false, false, false, false, false, false, false, false, false, false, false, false, false, false] rfl rfl (any_of HT_.out (by kernel_rfl)) (fun _ _ _ h => h) (Or.inl ⟨by rfl, ?_⟩) ?_ ?_
           rotate_left
           ·intro w'
            go_simp
            with_reducible rfl
           rotate_left
           ·simp only [Act.put, sB, sC, sD, i64_w, i32_w]
            rfl
           refine pure_ (i := 3) (N := some 41) (v := ?_) (a' := ?_) #[false, false, true, true, false, false, false, false, false, false, false, false, false, false, false, false, false] rfl rfl (any_of HT_.out (by kernel_rfl)) (fun _ _ _ h => h) (Or.inl ⟨by rfl, ?_⟩) ?_ ?_
           rotate_left
           ·intro w'
            go_simp
            with_reducible rfl
           rotate_left
           ·simp only [Act.put, sB, sC, sD, i64_w, i32_w]
            rfl
           refine pure_ (i := 6) (N := some 44) (v := ?_) (a' := ?_) #[false, false, true, true, false, false, true, false, false, false, false, false, false, false, false, false, false] rfl rfl (any_of HT_.out (by kernel_rfl)) (fun _ _ _ h => h) (Or.inl ⟨by rfl, ?_⟩) ?_ ?_
           rotate_left
           ·intro w'
            go_simp
            with_reducible rfl
           rotate_left
           ·simp only [Act.put, sB, sC, sD, i64_w, i32_w]
            rfl
           refine pure_ (i := 7) (N := some 45) (v := ?_) (a' := ?_) #[false, false, true, true, false, false, true, true, false, false, false, false, false, false, false, false, false] rfl rfl (any_of HT_.out (by kernel_rfl)) (fun _ _ _ h => h) (Or.inl ⟨by rfl, ?_⟩) ?_ ?_
           rotate_left
           ·intro w'
            go_simp
            with_reducible rfl
           rotate_left
           ·simp only [Act.put, sB, sC, sD, i64_w, i32_w]
            rfl
           refine inv_at [0, 1, 4, 5, 8, 9, 10, 11, 12, 13, 14, 15, 16] (fun a0_ b a w' => ∃ (gb132 : Nat) (m14_ : Value), a = putSel a0_ b [(0, 38, .agg #[.int .i64 a0_0, .int .i64 a0_1, .int .i64 a0_2, .int .i64 a0_3, .int .i64 a0_4, .int .i64 a0_5, .int .i64 a0_6]), (1, 39, .agg #[.bool x123000_2, .int .i64 x123001_2, .int .i64 x123002_2, .int .i64 x123003_2]), (4, 42, .pointer (some (ad125.add (x34_2).toNat))), (5, 43, .int .i64 (rd l2 x34_2)), (8, 46, .pointer (some (ad126.add (x34_2).toNat))), (9, 47, .int .i64 (rd l3 x34_2)), (10, 48, .tuple #[.agg #[.bool t127, .int .i64 t128, .int .i64 t129, .int .i64 t130], .bool false]), (11, 37, .tuple #[.agg #[.bool t127, .int .i64 t128, .int .i64 t129, .int .i64 t130], .bool false]), (12, 49, .agg #[.bool t127, .int .i64 t128, .int .i64 t129, .int .i64 t130]), (13, 50, .bool false), (14, 13, m14_), (16, 14, .bool false)] ∧ (Kd.R (Kd.int .i64) 3 w' w.heap.size (fun _ => True) u11 x11_2) ∧ (w'.heap[gb121]? = some (.cells #[.int .i64 a0_0, .int .i64 a0_1, .int .i64 a0_2, .int .i64 a0_3, .int .i64 a0_4, .int .i64 a0_5, .int .i64 a0_6] 30 (0, 0))) ∧ (w'.heap[gb122]? = some (.cells #[.bool x123000_2, .int .i64 x123001_2, .int .i64 x123002_2, .int .i64 x123003_2] 27 (0, 0))) ∧ (w'.heap[gb123]? = some (.cells #[.bool x124000_2, .int .i64 x124001_2, .int .i64 x124002_2, .int .i64 x124003_2] 27 (0, 0))) ∧ (Below w.heap.size w w') ∧ (b 14 = true → b 15 = false → w'.heap[gb132]? = some (.cells #[.bool false, .int .i64 0, .int .i64 0, .int .i64 0] 27 (0, 0))) ∧ (b 14 = true → w.heap.size ≤ gb132) ∧ (b 14 = true → w.heap.size ≤ gb132) ∧ (b 14 = true → gb121 ≠ gb132) ∧ (b 14 = true → gb132 ≠ gb121) ∧ (b 14 = true → gb122 ≠ gb132) ∧ (b 14 = true → gb132 ≠ gb122) ∧ (b 14 = true → gb123 ≠ gb132) ∧ (b 14 = true → gb132 ≠ gb123) ∧ (b 15 = true → w'.heap[gb132]? = some (.cells #[.bool t127, .int .i64 t128, .int .i64 t129, .int .i64 t130] 27 (0, 0))) ∧ (b 14 = true → (m14_ : Value) = .pointer (some ⟨gb132, 0, none⟩))) HT_.out HW_.out (by kernel_rfl) (by kernel_rfl) ?_ ?_ ?_
           ·exact ⟨0, .bool false, by simp only [putSel, Bool.false_eq_true, if_false], HO_11.out, BK121.out, BK122.out, BK123.out, HB.out, fun h_ => absurd h_ (by decide), fun h_ => absurd h_ (by decide), fun h_ => absurd h_ (by decide), fun h_ => absurd h_ (by decide), fun h_ => absurd h_ (by decide), fun h_ => absurd h_ (by decide), fun h_ => absurd h_ (by decide), fun h_ => absurd h_ (by decide), fun h_ => absurd h_ (by decide), fun h_ => absurd h_ (by decide), fun h_ => absurd h_ (by decide)⟩
           ·skip
            clear BK121 BK122 BK123 HB HO_11
            refine steps_cons ?_ ?_
            ·rintro b a w' ⟨gb132, m14_, ha, Q_HO_11, Q_BK121, Q_BK122, Q_BK123, Q_HB, Q_BK132, Q_GW132, Q_GE132, Q_NB121_132, Q_NB132_121, Q_NB122_132, Q_NB132_122, Q_NB123_132, Q_NB132_123, Q_BK132_e15, Q_X14_⟩ hb_ hon hoff
             refine ⟨_, rfl, fun K hK => ?_⟩
             have e4 : a.tmps[4]? = some (.pointer (some ⟨gb121, 0, none⟩)) := by rw [ha]; exact (putSel_off rfl).trans rfl
             replace ha := Aside0.mk ha
             have HO_11 := Aside0.mk Q_HO_11
             have BK121 := Aside0.mk Q_BK121
             have BK122 := Aside0.mk Q_BK122
             have BK123 := Aside0.mk Q_BK123
             have HB := Aside0.mk Q_HB
             have hc0_ : w'.cell? ⟨gb121, 0, none⟩ = some (.int .i64 a0_0) := (blk_cell BK121.out 0).trans rfl
             have hc1_ : w'.cell? ⟨gb121, 1, none⟩ = some (.int .i64 a0_1) := (blk_cell BK121.out 1).trans rfl
             have hc2_ : w'.cell? ⟨gb121, 2, none⟩ = some (.int .i64 a0_2) := (blk_cell BK121.out 2).trans rfl
             have hc3_ : w'.cell? ⟨gb121, 3, none⟩ = some (.int .i64 a0_3) := (blk_cell BK121.out 3).trans rfl
             have hc4_ : w'.cell? ⟨gb121, 4, none⟩ = some (.int .i64 a0_4) := (blk_cell BK121.out 4).trans rfl
             have hc5_ : w'.cell? ⟨gb121, 5, none⟩ = some (.int .i64 a0_5) := (blk_cell BK121.out 5).trans rfl
             have hc6_ : w'.cell? ⟨gb121, 6, none⟩ = some (.int .i64 a0_6) := (blk_cell BK121.out 6).trans rfl
             refine value_ (w1 := w') (v := .agg #[.int .i64 a0_0, .int .i64 a0_1, .int .i64 a0_2, .int .i64 a0_3, .int .i64 a0_4, .int .i64 a0_5, .int .i64 a0_6]) (by rfl) rfl ?_ ?_
             ·go_simp
              (try simp only [i64_w])
              try rfl
             refine hK.out _ _ ⟨gb132, m14_, (by rw [ha.out]; exact putSel_upk 0 hb_ rfl rfl rfl), Q_HO_11, Q_BK121, Q_BK122, Q_BK123, Q_HB, Q_BK132, Q_GW132, Q_GE132, Q_NB121_132, Q_NB132_121, Q_NB122_132, Q_NB132_122, Q_NB123_132, Q_NB132_123, ab (hoff 15 (by kernel_rfl)) (by decide), Q_X14_⟩
            refine steps_cons ?_ ?_
            ·rintro b a w' ⟨gb132, m14_, ha, Q_HO_11, Q_BK121, Q_BK122, Q_BK123, Q_HB, Q_BK132, Q_GW132, Q_GE132, Q_NB121_132, Q_NB132_121, Q_NB122_132, Q_NB132_122, Q_NB123_132, Q_NB132_123, Q_BK132_e15, Q_X14_⟩ hb_ hon hoff
             refine ⟨_, rfl, fun K hK => ?_⟩
             have e5 : a.tmps[5]? = some (.pointer (some ⟨gb122, 0, none⟩)) := by rw [ha]; exact (putSel_off rfl).trans rfl
             replace ha := Aside0.mk ha
             have HO_11 := Aside0.mk Q_HO_11
             have BK121 := Aside0.mk Q_BK121
             have BK122 := Aside0.mk Q_BK122
             have BK123 := Aside0.mk Q_BK123
             have HB := Aside0.mk Q_HB
             have hc0_ : w'.cell? ⟨gb122, 0, none⟩ = some (.bool x123000_2) := (blk_cell BK122.out 0).trans rfl
             have hc1_ : w'.cell? ⟨gb122, 1, none⟩ = some (.int .i64 x123001_2) := (blk_cell BK122.out 1).trans rfl
             have hc2_ : w'.cell? ⟨gb122, 2, none⟩ = some (.int .i64 x123002_2) := (blk_cell BK122.out 2).trans rfl
             have hc3_ : w'.cell? ⟨gb122, 3, none⟩ = some (.int .i64 x123003_2) := (blk_cell BK122.out 3).trans rfl
             refine value_ (w1 := w') (v := .agg #[.bool x123000_2, .int .i64 x123001_2, .int .i64 x123002_2, .int .i64 x123003_2]) (by rfl) rfl ?_ ?_
             ·go_simp
              (try simp only [i64_w])
              try rfl
             refine hK.out _ _ ⟨gb132, m14_, (by rw [ha.out]; exact putSel_upk 1 hb_ rfl rfl rfl), Q_HO_11, Q_BK121, Q_BK122, Q_BK123, Q_HB, Q_BK132, Q_GW132, Q_GE132, Q_NB121_132, Q_NB132_121, Q_NB122_132, Q_NB132_122, Q_NB123_132, Q_NB132_123, ab (hoff 15 (by kernel_rfl)) (by decide), Q_X14_⟩
            refine steps_cons ?_ ?_
            ·rintro b a w' ⟨gb132, m14_, ha, Q_HO_11, Q_BK121, Q_BK122, Q_BK123, Q_HB, Q_BK132, Q_GW132, Q_GE132, Q_NB121_132, Q_NB132_121, Q_NB122_132, Q_NB132_122, Q_NB123_132, Q_NB132_123, Q_BK132_e15, Q_X14_⟩ hb_ hon hoff
             refine ⟨_, rfl, fun K hK => ?_⟩
             have e40 : a.tmps[40]? = some (.slice (some ad125) l2.length c2) := by rw [ha]; exact (putSel_off rfl).trans rfl
             have e41 : a.tmps[41]? = some (.int .i64 x34_2) := by rw [ha]; exact (putSel_off rfl).trans rfl
             replace ha := Aside0.mk ha
             have HO_11 := Aside0.mk Q_HO_11
             have BK121 := Aside0.mk Q_BK121
             have BK122 := Aside0.mk Q_BK122
             have BK123 := Aside0.mk Q_BK123
             have HB := Aside0.mk Q_HB
             have hs0_ : w'.cell? (ad125.add (x34_2).toNat) = some (.int .i64 (rd l2 x34_2)) := ((HB.out.cell (World.block_lt_of_cell? w _ hw125_0)).trans hw125_0)
             refine value_ (w1 := w') (v := .pointer (some (ad125.add (x34_2).toNat))) (by rfl) rfl ?_ ?_
             ·go_simp
              (try simp only [i64_w])
              try rfl
             refine hK.out _ _ ⟨gb132, m14_, (by rw [ha.out]; exact putSel_upk 2 hb_ rfl rfl rfl), Q_HO_11, Q_BK121, Q_BK122, Q_BK123, Q_HB, Q_BK132, Q_GW132, Q_GE132, Q_NB121_132, Q_NB132_121, Q_NB122_132, Q_NB132_122, Q_NB123_132, Q_NB132_123, ab (hoff 15 (by kernel_rfl)) (by decide), Q_X14_⟩
            refine steps_cons ?_ ?_
            ·rintro b a w' ⟨gb132, m14_, ha, Q_HO_11, Q_BK121, Q_BK122, Q_BK123, Q_HB, Q_BK132, Q_GW132, Q_GE132, Q_NB121_132, Q_NB132_121, Q_NB122_132, Q_NB132_122, Q_NB123_132, Q_NB132_123, Q_BK132_e15, Q_X14_⟩ hb_ hon hoff
             refine ⟨_, rfl, fun K hK => ?_⟩
             have e42 : a.tmps[42]? = some (.pointer (some (ad125.add (x34_2).toNat))) := by rw [ha]; exact putSel_on (e := (4, 42, .pointer (some (ad125.add (x34_2).toNat)))) 2 rfl rfl (hon 4 (by kernel_rfl)) rfl
             replace ha := Aside0.mk ha
             have HO_11 := Aside0.mk Q_HO_11
             have BK121 := Aside0.mk Q_BK121
             have BK122 := Aside0.mk Q_BK122
             have BK123 := Aside0.mk Q_BK123
             have HB := Aside0.mk Q_HB
             have hs0_ : w'.cell? (ad125.add (x34_2).toNat) = some (.int .i64 (rd l2 x34_2)) := ((HB.out.cell (World.block_lt_of_cell? w _ hw125_0)).trans hw125_0)
             refine value_ (w1 := w') (v := .int .i64 (rd l2 x34_2)) (by rfl) rfl ?_ ?_
             ·go_simp
              (try simp only [i64_w])
              try rfl
             refine hK.out _ _ ⟨gb132, m14_, (by rw [ha.out]; exact putSel_upk 3 hb_ rfl rfl rfl), Q_HO_11, Q_BK121, Q_BK122, Q_BK123, Q_HB, Q_BK132, Q_GW132, Q_GE132, Q_NB121_132, Q_NB132_121, Q_NB122_132, Q_NB132_122, Q_NB123_132, Q_NB132_123, ab (hoff 15 (by kernel_rfl)) (by decide), Q_X14_⟩
            refine steps_cons ?_ ?_
            ·rintro b a w' ⟨gb132, m14_, ha, Q_HO_11, Q_BK121, Q_BK122, Q_BK123, Q_HB, Q_BK132, Q_GW132, Q_GE132, Q_NB121_132, Q_NB132_121, Q_NB122_132, Q_NB132_122, Q_NB123_132, Q_NB132_123, Q_BK132_e15, Q_X14_⟩ hb_ hon hoff
             refine ⟨_, rfl, fun K hK => ?_⟩
             have e44 : a.tmps[44]? = some (.slice (some ad126) l3.length c3) := by rw [ha]; exact (putSel_off rfl).trans rfl
             have e45 : a.tmps[45]? = some (.int .i64 x34_2) := by rw [ha]; exact (putSel_off rfl).trans rfl
             replace ha := Aside0.mk ha
             have HO_11 := Aside0.mk Q_HO_11
             have BK121 := Aside0.mk Q_BK121
             have BK122 := Aside0.mk Q_BK122
             have BK123 := Aside0.mk Q_BK123
             have HB := Aside0.mk Q_HB
             have hs1_ : w'.cell? (ad126.add (x34_2).toNat) = some (.int .i64 (rd l3 x34_2)) := ((HB.out.cell (World.block_lt_of_cell? w _ hw126_0)).trans hw126_0)
             refine value_ (w1 := w') (v := .pointer (some (ad126.add (x34_2).toNat))) (by rfl) rfl ?_ ?_
             ·go_simp
              (try simp only [i64_w])
              try rfl
             refine hK.out _ _ ⟨gb132, m14_, (by rw [ha.out]; exact putSel_upk 4 hb_ rfl rfl rfl), Q_HO_11, Q_BK121, Q_BK122, Q_BK123, Q_HB, Q_BK132, Q_GW132, Q_GE132, Q_NB121_132, Q_NB132_121, Q_NB122_132, Q_NB132_122, Q_NB123_132, Q_NB132_123, ab (hoff 15 (by kernel_rfl)) (by decide), Q_X14_⟩
            refine steps_cons ?_ ?_
            ·rintro b a w' ⟨gb132, m14_, ha, Q_HO_11, Q_BK121, Q_BK122, Q_BK123, Q_HB, Q_BK132, Q_GW132, Q_GE132, Q_NB121_132, Q_NB132_121, Q_NB122_132, Q_NB132_122, Q_NB123_132, Q_NB132_123, Q_BK132_e15, Q_X14_⟩ hb_ hon hoff
             refine ⟨_, rfl, fun K hK => ?_⟩
             have e46 : a.tmps[46]? = some (.pointer (some (ad126.add (x34_2).toNat))) := by rw [ha]; exact putSel_on (e := (8, 46, .pointer (some (ad126.add (x34_2).toNat)))) 4 rfl rfl (hon 8 (by kernel_rfl)) rfl
             replace ha := Aside0.mk ha
             have HO_11 := Aside0.mk Q_HO_11
             have BK121 := Aside0.mk Q_BK121
             have BK122 := Aside0.mk Q_BK122
             have BK123 := Aside0.mk Q_BK123
             have HB := Aside0.mk Q_HB
             have hs1_ : w'.cell? (ad126.add (x34_2).toNat) = some (.int .i64 (rd l3 x34_2)) := ((HB.out.cell (World.block_lt_of_cell? w _ hw126_0)).trans hw126_0)
             refine value_ (w1 := w') (v := .int .i64 (rd l3 x34_2)) (by rfl) rfl ?_ ?_
             ·go_simp
              (try simp only [i64_w])
              try rfl
             refine hK.out _ _ ⟨gb132, m14_, (by rw [ha.out]; exact putSel_upk 5 hb_ rfl rfl rfl), Q_HO_11, Q_BK121, Q_BK122, Q_BK123, Q_HB, Q_BK132, Q_GW132, Q_GE132, Q_NB121_132, Q_NB132_121, Q_NB122_132, Q_NB132_122, Q_NB123_132, Q_NB132_123, ab (hoff 15 (by kernel_rfl)) (by decide), Q_X14_⟩
            refine steps_cons ?_ ?_
            ·rintro b a w' ⟨gb132, m14_, ha, Q_HO_11, Q_BK121, Q_BK122, Q_BK123, Q_HB, Q_BK132, Q_GW132, Q_GE132, Q_NB121_132, Q_NB132_121, Q_NB122_132, Q_NB132_122, Q_NB123_132, Q_NB132_123, Q_BK132_e15, Q_X14_⟩ hb_ hon hoff
             refine ⟨_, rfl, fun K hK => ?_⟩
             have e38 : a.tmps[38]? = some (.agg #[.int .i64 a0_0, .int .i64 a0_1, .int .i64 a0_2, .int .i64 a0_3, .int .i64 a0_4, .int .i64 a0_5, .int .i64 a0_6]) := by rw [ha]; exact putSel_on (e := (0, 38, .agg #[.int .i64 a0_0, .int .i64 a0_1, .int .i64 a0_2, .int .i64 a0_3, .int .i64 a0_4, .int .i64 a0_5, .int .i64 a0_6])) 0 rfl rfl (hon 0 (by kernel_rfl)) rfl
             have e39 : a.tmps[39]? = some (.agg #[.bool x123000_2, .int .i64 x123001_2, .int .i64 x123002_2, .int .i64 x123003_2]) := by rw [ha]; exact putSel_on (e := (1, 39, .agg #[.bool x123000_2, .int .i64 x123001_2, .int .i64 x123002_2, .int .i64 x123003_2])) 1 rfl rfl (hon 1 (by kernel_rfl)) rfl
             have e43 : a.tmps[43]? = some (.int .i64 (rd l2 x34_2)) := by rw [ha]; exact putSel_on (e := (5, 43, .int .i64 (rd l2 x34_2))) 3 rfl rfl (hon 5 (by kernel_rfl)) rfl
             have e47 : a.tmps[47]? = some (.int .i64 (rd l3 x34_2)) := by rw [ha]; exact putSel_on (e := (9, 47, .int .i64 (rd l3 x34_2))) 5 rfl rfl (hon 9 (by kernel_rfl)) rfl
             replace ha := Aside0.mk ha
             have HO_11 := Aside0.mk Q_HO_11
             have BK121 := Aside0.mk Q_BK121
             have BK122 := Aside0.mk Q_BK122
             have BK123 := Aside0.mk Q_BK123
             have HB := Aside0.mk Q_HB
             refine goes_ Try.func24 (by kernel_rfl) rfl #[.agg #[.int .i64 a0_0, .int .i64 a0_1, .int .i64 a0_2, .int .i64 a0_3, .int .i64 a0_4, .int .i64 a0_5, .int .i64 a0_6], .agg #[.bool x123000_2, .int .i64 x123001_2, .int .i64 x123002_2, .int .i64 x123003_2], .int .i64 (rd l2 x34_2), .int .i64 (rd l3 x34_2)] (by rfl) rfl rfl (by first | (simp only [List.map_toArray, List.map_cons, List.map_nil, Act.eval, Array.getD_eq_getD_getElem?, Option.getD_some, e38, e39, e43, e47]; done) | (simp only [List.map_toArray, List.map_cons, List.map_nil, Act.eval, Array.getD_eq_getD_getElem?, Option.getD_some, e38, e39, e43, e47]; rfl)) ?_
             with_reducible refine (spec_HoldStep.calls k2 a0_0 a0_1 a0_2 a0_3 a0_4 a0_5 a0_6 x123000_2 x123001_2 x123002_2 x123003_2 (rd l2 x34_2) (rd l3 x34_2) t127 t128 t129 t130 false _ A38.out).mono ?_
             rintro e w58 ⟨rfl, hb⟩
             refine ⟨_, rfl, ?_⟩
             have n0_ := a_ (Kd.R_below (rk HO_11.out) hb)
             have n1_ := a_ (blk_below (pk BK121.out) hb)
             have n2_ := a_ (blk_below (pk BK122.out) hb)
             have n3_ := a_ (blk_below (pk BK123.out) hb)
             have n4_ := a_ (below_step (by repeat (with_reducible first | exact HB.out | refine bz ?_ (by assumption) | apply bA | apply bN | apply bD)) hb)
             have z_BK132 := fun (h0_ : b 14 = true) (h1_ : b 15 = false) => (show w58.heap[gb132]? = some (.cells #[.bool false, .int .i64 0, .int .i64 0, .int .i64 0] 27 (0, 0)) from by first | exact (blk_below (g := gb132) (o := .cells #[.bool false, .int .i64 0, .int .i64 0, .int .i64 0] 27 (0, 0)) (by refine pk ?_; exact (Q_BK132 h0_ h1_)) hb))
             clear HO_11
             clear BK121
             clear BK122
             clear BK123
             clear HB
             have HO_11 := n0_
             have BK121 := n1_
             have BK122 := n2_
             have BK123 := n3_
             have HB := n4_
             clear n0_ n1_ n2_ n3_ n4_
             (try clear hb)
             (try clear hb2)
             (try clear hk)
             (try clear hi)
             refine hK.out _ _ ⟨gb132, m14_, (by rw [ha.out]; exact putSel_upk 6 hb_ rfl rfl rfl), (rk HO_11.out), (pk BK121.out), (pk BK122.out), (pk BK123.out), (by repeat (with_reducible first | exact HB.out | refine bz ?_ (by assumption) | apply bA | apply bN | apply bD)), z_BK132, Q_GW132, Q_GE132, Q_NB121_132, Q_NB132_121, Q_NB122_132, Q_NB132_122, Q_NB123_132, Q_NB132_123, ab (hoff 15 (by kernel_rfl)) (by decide), Q_X14_⟩
            refine steps_cons ?_ ?_
            ·rintro b a w' ⟨gb132, m14_, ha, Q_HO_11, Q_BK121, Q_BK122, Q_BK123, Q_HB, Q_BK132, Q_GW132, Q_GE132, Q_NB121_132, Q_NB132_121, Q_NB122_132, Q_NB132_122, Q_NB123_132, Q_NB132_123, Q_BK132_e15, Q_X14_⟩ hb_ hon hoff
             refine ⟨_, rfl, fun K hK => ?_⟩
             have e48 : a.tmps[48]? = some (.tuple #[.agg #[.bool t127, .int .i64 t128, .int .i64 t129, .int .i64 t130], .bool false]) := by rw [ha]; exact putSel_on (e := (10, 48, .tuple #[.agg #[.bool t127, .int .i64 t128, .int .i64 t129, .int .i64 t130], .bool false])) 6 rfl rfl (hon 10 (by kernel_rfl)) rfl
             replace ha := Aside0.mk ha
             have HO_11 := Aside0.mk Q_HO_11
             have BK121 := Aside0.mk Q_BK121
             have BK122 := Aside0.mk Q_BK122
             have BK123 := Aside0.mk Q_BK123
             have HB := Aside0.mk Q_HB
             refine value_ (w1 := w') (v := .tuple #[.agg #[.bool t127, .int .i64 t128, .int .i64 t129, .int .i64 t130], .bool false]) (by rfl) rfl ?_ ?_
             ·go_simp
              (try simp only [i64_w])
              try rfl
             refine hK.out _ _ ⟨gb132, m14_, (by rw [ha.out]; exact putSel_upk 7 hb_ rfl rfl rfl), Q_HO_11, Q_BK121, Q_BK122, Q_BK123, Q_HB, Q_BK132, Q_GW132, Q_GE132, Q_NB121_132, Q_NB132_121, Q_NB122_132, Q_NB132_122, Q_NB123_132, Q_NB132_123, ab (hoff 15 (by kernel_rfl)) (by decide), Q_X14_⟩
            refine steps_cons ?_ ?_
            ·rintro b a w' ⟨gb132, m14_, ha, Q_HO_11, Q_BK121, Q_BK122, Q_BK123, Q_HB, Q_BK132, Q_GW132, Q_GE132, Q_NB121_132, Q_NB132_121, Q_NB122_132, Q_NB132_122, Q_NB123_132, Q_NB132_123, Q_BK132_e15, Q_X14_⟩ hb_ hon hoff
             refine ⟨_, rfl, fun K hK => ?_⟩
             have e37 : a.tmps[37]? = some (.tuple #[.agg #[.bool t127, .int .i64 t128, .int .i64 t129, .int .i64 t130], .bool false]) := by rw [ha]; exact putSel_on (e := (11, 37, .tuple #[.agg #[.bool t127, .int .i64 t128, .int .i64 t129, .int .i64 t130], .bool false])) 7 rfl rfl (hon 11 (by kernel_rfl)) rfl
             replace ha := Aside0.mk ha
             have HO_11 := Aside0.mk Q_HO_11
             have BK121 := Aside0.mk Q_BK121
             have BK122 := Aside0.mk Q_BK122
             have BK123 := Aside0.mk Q_BK123
             have HB := Aside0.mk Q_HB
             refine value_ (w1 := w') (v := .agg #[.bool t127, .int .i64 t128, .int .i64 t129, .int .i64 t130]) (by rfl) rfl ?_ ?_
             ·go_simp
              (try simp only [i64_w])
              try rfl
             refine hK.out _ _ ⟨gb132, m14_, (by rw [ha.out]; exact putSel_upk 8 hb_ rfl rfl rfl), Q_HO_11, Q_BK121, Q_BK122, Q_BK123, Q_HB, Q_BK132, Q_GW132, Q_GE132, Q_NB121_132, Q_NB132_121, Q_NB122_132, Q_NB132_122, Q_NB123_132, Q_NB132_123, ab (hoff 15 (by kernel_rfl)) (by decide), Q_X14_⟩
            refine steps_cons ?_ ?_
            ·rintro b a w' ⟨gb132, m14_, ha, Q_HO_11, Q_BK121, Q_BK122, Q_BK123, Q_HB, Q_BK132, Q_GW132, Q_GE132, Q_NB121_132, Q_NB132_121, Q_NB122_132, Q_NB132_122, Q_NB123_132, Q_NB132_123, Q_BK132_e15, Q_X14_⟩ hb_ hon hoff
             refine ⟨_, rfl, fun K hK => ?_⟩
             have e37 : a.tmps[37]? = some (.tuple #[.agg #[.bool t127, .int .i64 t128, .int .i64 t129, .int .i64 t130], .bool false]) := by rw [ha]; exact putSel_on (e := (11, 37, .tuple #[.agg #[.bool t127, .int .i64 t128, .int .i64 t129, .int .i64 t130], .bool false])) 7 rfl rfl (hon 11 (by kernel_rfl)) rfl
             replace ha := Aside0.mk ha
             have HO_11 := Aside0.mk Q_HO_11
             have BK121 := Aside0.mk Q_BK121
             have BK122 := Aside0.mk Q_BK122
             have BK123 := Aside0.mk Q_BK123
             have HB := Aside0.mk Q_HB
             refine value_ (w1 := w') (v := .bool false) (by rfl) rfl ?_ ?_
             ·go_simp
              (try simp only [i64_w])
              try rfl
             refine hK.out _ _ ⟨gb132, m14_, (by rw [ha.out]; exact putSel_upk 9 hb_ rfl rfl rfl), Q_HO_11, Q_BK121, Q_BK122, Q_BK123, Q_HB, Q_BK132, Q_GW132, Q_GE132, Q_NB121_132, Q_NB132_121, Q_NB122_132, Q_NB132_122, Q_NB123_132, Q_NB132_123, Q_BK132_e15, Q_X14_⟩
            refine steps_cons ?_ ?_
            ·rintro b a w' ⟨gb132, m14_, ha, Q_HO_11, Q_BK121, Q_BK122, Q_BK123, Q_HB, Q_BK132, Q_GW132, Q_GE132, Q_NB121_132, Q_NB132_121, Q_NB122_132, Q_NB132_122, Q_NB123_132, Q_NB132_123, Q_BK132_e15, Q_X14_⟩ hb_ hon hoff
             refine ⟨_, rfl, fun K hK => ?_⟩
             replace ha := Aside0.mk ha
             have HO_11 := Aside0.mk Q_HO_11
             have BK121 := Aside0.mk Q_BK121
             have BK122 := Aside0.mk Q_BK122
             have BK123 := Aside0.mk Q_BK123
             have HB := Aside0.mk Q_HB
             refine box_step ?hg (N := 13) ?hd (cs := #[.bool false, .int .i64 0, .int .i64 0, .int .i64 0]) (t := 27) ?hr ?_; (case hd => rfl); (case hg => rfl); (case hr => first | (go_simp; done) | (go_simp; rfl))
             intro gb132 hg w58 hbox hb
             replace HO_11 := a_ (Kd.R_below (rk HO_11.out) hb)
             have BK132 := a_ (hbox)
             have GW132 := a_ (bsg hg HB.out)
             have GE132 := a_ (bsg hg HB.out)
             replace HB := a_ (below_step (by repeat (with_reducible first | exact HB.out | refine bz ?_ (by assumption) | apply bA | apply bN | apply bD)) hb)
             have NB121_132 := a_ (nel hg BK121.out)
             have NB132_121 := a_ (nle hg BK121.out)
             replace BK121 := a_ (blk_below (pk BK121.out) hb)
             have NB122_132 := a_ (nel hg BK122.out)
             have NB132_122 := a_ (nle hg BK122.out)
             replace BK122 := a_ (blk_below (pk BK122.out) hb)
             have NB123_132 := a_ (nel hg BK123.out)
             have NB132_123 := a_ (nle hg BK123.out)
             replace BK123 := a_ (blk_below (pk BK123.out) hb)
             clear hb hbox hg
             refine hK.out _ _ ⟨gb132, (.pointer (some ⟨gb132, 0, none⟩)), (by rw [ha.out]; exact putSel_upk 10 hb_ rfl rfl rfl), (rk HO_11.out), (pk BK121.out), (pk BK122.out), (pk BK123.out), (by repeat (with_reducible first | exact HB.out | refine bz ?_ (by assumption) | apply bA | apply bN | apply bD)), fun _ _ => (pk BK132.out), fun _ => GW132.out, fun _ => GE132.out, fun _ => NB121_132.out, fun _ => NB132_121.out, fun _ => NB122_132.out, fun _ => NB132_122.out, fun _ => NB123_132.out, fun _ => NB132_123.out, ab (hoff 15 (by kernel_rfl)) (by decide), fun _ => rfl⟩
            refine steps_cons ?_ ?_
            ·rintro b a w' ⟨gb132, m14_, ha, Q_HO_11, Q_BK121, Q_BK122, Q_BK123, Q_HB, Q_BK132, Q_GW132, Q_GE132, Q_NB121_132, Q_NB132_121, Q_NB122_132, Q_NB132_122, Q_NB123_132, Q_NB132_123, Q_BK132_e15, Q_X14_⟩ hb_ hon hoff
             refine ⟨_, rfl, fun K hK => ?_⟩
             have e13 : a.tmps[13]? = some (m14_) := by rw [ha]; exact putSel_on (e := (14, 13, m14_)) 10 rfl rfl (hon 14 (by kernel_rfl)) rfl
             rw [Q_X14_ (hon 14 (by kernel_rfl))] at e13
             have e49 : a.tmps[49]? = some (.agg #[.bool t127, .int .i64 t128, .int .i64 t129, .int .i64 t130]) := by rw [ha]; exact putSel_on (e := (12, 49, .agg #[.bool t127, .int .i64 t128, .int .i64 t129, .int .i64 t130])) 8 rfl rfl (hon 12 (by kernel_rfl)) rfl
             replace ha := Aside0.mk ha
             have HO_11 := Aside0.mk Q_HO_11
             have BK121 := Aside0.mk Q_BK121
             have BK122 := Aside0.mk Q_BK122
             have BK123 := Aside0.mk Q_BK123
             have HB := Aside0.mk Q_HB
             have BK132 := a_ (Q_BK132 (hon 14 (by kernel_rfl)) hb_)
             have GW132 := a_ (Q_GW132 (hon 14 (by kernel_rfl)))
             have GE132 := a_ (Q_GE132 (hon 14 (by kernel_rfl)))
             have NB121_132 := a_ (Q_NB121_132 (hon 14 (by kernel_rfl)))
             have NB132_121 := a_ (Q_NB132_121 (hon 14 (by kernel_rfl)))
             have NB122_132 := a_ (Q_NB122_132 (hon 14 (by kernel_rfl)))
             have NB132_122 := a_ (Q_NB132_122 (hon 14 (by kernel_rfl)))
             have NB123_132 := a_ (Q_NB123_132 (hon 14 (by kernel_rfl)))
             have NB132_123 := a_ (Q_NB132_123 (hon 14 (by kernel_rfl)))
             have hs61 : w'.cell? ⟨gb132, 0, none⟩ = some (.bool false) := (blk_cell BK132.out 0).trans rfl
             have hfs61 := blk_frozen BK132.out 0
             have hns61_0 := NB121_132.out
             have hns61_1 := NB122_132.out
             have hns61_2 := NB123_132.out
             have hms61_0 := NB132_121.out
             have hms61_1 := NB132_122.out
             have hms61_2 := NB132_123.out
             have hs62 : w'.cell? ⟨gb132, 1, none⟩ = some (.int .i64 0) := (blk_cell BK132.out 1).trans rfl
             have hfs62 := blk_frozen BK132.out 1
             have hns62_0 := NB121_132.out
             have hns62_1 := NB122_132.out
             have hns62_2 := NB123_132.out
             have hms62_0 := NB132_121.out
             have hms62_1 := NB132_122.out
             have hms62_2 := NB132_123.out
             have hs63 : w'.cell? ⟨gb132, 2, none⟩ = some (.int .i64 0) := (blk_cell BK132.out 2).trans rfl
             have hfs63 := blk_frozen BK132.out 2
             have hns63_0 := NB121_132.out
             have hns63_1 := NB122_132.out
             have hns63_2 := NB123_132.out
             have hms63_0 := NB132_121.out
             have hms63_1 := NB132_122.out
             have hms63_2 := NB132_123.out
             have hs64 : w'.cell? ⟨gb132, 3, none⟩ = some (.int .i64 0) := (blk_cell BK132.out 3).trans rfl
             have hfs64 := blk_frozen BK132.out 3
             have hns64_0 := NB121_132.out
             have hns64_1 := NB122_132.out
             have hns64_2 := NB123_132.out
             have hms64_0 := NB132_121.out
             have hms64_1 := NB132_122.out
             have hms64_2 := NB132_123.out
             refine skip_ (w1 := ?_) ?_ ?_ ?_ ?_
             rotate_left
             ·rfl
             ·rfl
             ·go_simp
              rfl
             refine hK.out _ _ ⟨gb132, m14_, (by rw [ha.out]; exact putSel_none (v := undef) rfl), (rk (Kd.R_mono (fr4 HO_11.out BK132.out (by decide) 0 (.bool t127) 1 (.int .i64 t128) 2 (.int .i64 t129) 3 (.int .i64 t130)) (fun _ hk => trivial))), (by refine pk ?_; refine blk_far ?_ NB121_132.out _; refine pk ?_; refine blk_far ?_ NB121_132.out _; refine pk ?_; refine blk_far ?_ NB121_132.out _; refine pk ?_; refine blk_far ?_ NB121_132.out _; refine pk ?_; exact BK121.out), (by refine pk ?_; refine blk_far ?_ NB122_132.out _; refine pk ?_; refine blk_far ?_ NB122_132.out _; refine pk ?_; refine blk_far ?_ NB122_132.out _; refine pk ?_; refine blk_far ?_ NB122_132.out _; refine pk ?_; exact BK122.out), (by refine pk ?_; refine blk_far ?_ NB123_132.out _; refine pk ?_; refine blk_far ?_ NB123_132.out _; refine pk ?_; refine blk_far ?_ NB123_132.out _; refine pk ?_; refine blk_far ?_ NB123_132.out _; refine pk ?_; exact BK123.out), (by repeat (with_reducible first | exact HB.out | refine bz ?_ (by assumption) | apply bA | apply bN | apply bD)), fun _ h1_ => absurd ((up_self b 15).symm.trans h1_) (by decide), fun _ => GW132.out, fun _ => GE132.out, fun _ => NB121_132.out, fun _ => NB132_121.out, fun _ => NB122_132.out, fun _ => NB132_122.out, fun _ => NB123_132.out, fun _ => NB132_123.out, fun _ => (by refine pk ?_; refine blk_put (cs := #[.bool t127, .int .i64 t128, .int .i64 t129, .int .i64 0]) ?_ 3 _ rfl; refine pk ?_; refine blk_put (cs := #[.bool t127, .int .i64 t128, .int .i64 0, .int .i64 0]) ?_ 2 _ rfl; refine pk ?_; refine blk_put (cs := #[.bool t127, .int .i64 0, .int .i64 0, .int .i64 0]) ?_ 1 _ rfl; refine pk ?_; refine blk_put (cs := #[.bool false, .int .i64 0, .int .i64 0, .int .i64 0]) ?_ 0 _ rfl; refine pk ?_; exact BK132.out), Q_X14_⟩
            refine steps_cons ?_ ?_
            ·rintro b a w' ⟨gb132, m14_, ha, Q_HO_11, Q_BK121, Q_BK122, Q_BK123, Q_HB, Q_BK132, Q_GW132, Q_GE132, Q_NB121_132, Q_NB132_121, Q_NB122_132, Q_NB132_122, Q_NB123_132, Q_NB132_123, Q_BK132_e15, Q_X14_⟩ hb_ hon hoff
             refine ⟨_, rfl, fun K hK => ?_⟩
             have e50 : a.tmps[50]? = some (.bool false) := by rw [ha]; exact putSel_on (e := (13, 50, .bool false)) 9 rfl rfl (hon 13 (by kernel_rfl)) rfl
             replace ha := Aside0.mk ha
             have HO_11 := Aside0.mk Q_HO_11
             have BK121 := Aside0.mk Q_BK121
             have BK122 := Aside0.mk Q_BK122
             have BK123 := Aside0.mk Q_BK123
             have HB := Aside0.mk Q_HB
             have GW132 := a_ (Q_GW132 (hon 14 (by kernel_rfl)))
             have GE132 := a_ (Q_GE132 (hon 14 (by kernel_rfl)))
             have NB121_132 := a_ (Q_NB121_132 (hon 14 (by kernel_rfl)))
             have NB132_121 := a_ (Q_NB132_121 (hon 14 (by kernel_rfl)))
             have NB122_132 := a_ (Q_NB122_132 (hon 14 (by kernel_rfl)))
             have NB132_122 := a_ (Q_NB132_122 (hon 14 (by kernel_rfl)))
             have NB123_132 := a_ (Q_NB123_132 (hon 14 (by kernel_rfl)))
             have NB132_123 := a_ (Q_NB132_123 (hon 14 (by kernel_rfl)))
             have BK132 := a_ (Q_BK132_e15 (hon 15 (by kernel_rfl)))
             refine value_ (w1 := w') (v := .bool false) (by rfl) rfl ?_ ?_
             ·go_simp
              (try simp only [i64_w])
              try rfl
             refine hK.out _ _ ⟨gb132, m14_, (by rw [ha.out]; exact putSel_upk 11 hb_ rfl rfl rfl), Q_HO_11, Q_BK121, Q_BK122, Q_BK123, Q_HB, fun _ h1_ => absurd ((hon 15 (by kernel_rfl)).symm.trans h1_) (by decide), Q_GW132, Q_GE132, Q_NB121_132, Q_NB132_121, Q_NB122_132, Q_NB132_122, Q_NB123_132, Q_NB132_123, Q_BK132_e15, Q_X14_⟩
            exact steps_nil
           rintro b a w64 hall ⟨gb132, m14_, ha, Q_HO_11, Q_BK121, Q_BK122, Q_BK123, Q_HB, Q_BK132, Q_GW132, Q_GE132, Q_NB121_132, Q_NB132_121, Q_NB122_132, Q_NB132_122, Q_NB123_132, Q_NB132_123, Q_BK132_e15, Q_X14_⟩
           clear BK121 BK122 BK123 HB HO_11
           have hb0_ := hall 0 (by kernel_rfl)
           have hb1_ := hall 1 (by kernel_rfl)
           have hb4_ := hall 4 (by kernel_rfl)
           have hb5_ := hall 5 (by kernel_rfl)
           have hb8_ := hall 8 (by kernel_rfl)
           have hb9_ := hall 9 (by kernel_rfl)
           have hb10_ := hall 10 (by kernel_rfl)
           have hb11_ := hall 11 (by kernel_rfl)
           have hb12_ := hall 12 (by kernel_rfl)
           have hb13_ := hall 13 (by kernel_rfl)
           have hb14_ := hall 14 (by kernel_rfl)
           have hb15_ := hall 15 (by kernel_rfl)
           have hb16_ := hall 16 (by kernel_rfl)
           subst ha
           obtain rfl := Q_X14_ hb14_
           simp only [putSel, hb0_, hb1_, hb4_, hb5_, hb8_, hb9_, hb10_, hb11_, hb12_, hb13_, hb14_, hb15_, hb16_, if_true, Act.put, sB, sC, sD]
           have HO_11 := Aside0.mk Q_HO_11
           clear Q_HO_11
           have BK121 := Aside0.mk Q_BK121
           clear Q_BK121
           have BK122 := Aside0.mk Q_BK122
           clear Q_BK122
           have BK123 := Aside0.mk Q_BK123
           clear Q_BK123
           have HB := Aside0.mk Q_HB
           clear Q_HB
           clear Q_BK132
           have GW132 := a_ (Q_GW132 hb14_)
           clear Q_GW132
           have GE132 := a_ (Q_GE132 hb14_)
           clear Q_GE132
           have NB121_132 := a_ (Q_NB121_132 hb14_)
           clear Q_NB121_132
           have NB132_121 := a_ (Q_NB132_121 hb14_)
           clear Q_NB132_121
           have NB122_132 := a_ (Q_NB122_132 hb14_)
           clear Q_NB122_132
           have NB132_122 := a_ (Q_NB132_122 hb14_)
           clear Q_NB132_122
           have NB123_132 := a_ (Q_NB123_132 hb14_)
           clear Q_NB123_132
           have NB132_123 := a_ (Q_NB132_123 hb14_)
           clear Q_NB132_123
           have BK132 := a_ (Q_BK132_e15 hb15_)
           clear Q_BK132_e15
           clear hall hb0_ hb1_ hb4_ hb5_ hb8_ hb9_ hb10_ hb11_ hb12_ hb13_ hb14_ hb15_ hb16_
           have hnb65 := NB123_121.out
           have hnc65 := NB121_123.out
           have hnb66 := NB123_122.out
           have hnc66 := NB122_123.out
           have hnb67 := NB123_132.out
           have hnc67 := NB132_123.out
           have hcz68_0 : _ = some (Value.bool x124000_2) := (blk_cell BK123.out 0).trans rfl
           have hcz68_1 : _ = some (Value.int .i64 x124001_2) := (blk_cell BK123.out 1).trans rfl
           have hcz68_2 : _ = some (Value.int .i64 x124002_2) := (blk_cell BK123.out 2).trans rfl
           have hcz68_3 : _ = some (Value.int .i64 x124003_2) := (blk_cell BK123.out 3).trans rfl
           have hfz68_0 := blk_frozen BK123.out 0
           have hfz68_1 := blk_frozen BK123.out 1
           have hfz68_2 := blk_frozen BK123.out 2
           have hfz68_3 := blk_frozen BK123.out 3
           try go_wp2
           refine bodyPost_ret (results_list (rs := [.tmp 8, .cell 9 27, .tmp 10]) rfl (by simp) (.tmp (.cell gb123 27 #[.bool false, .int .i64 0, .int .i64 0, .int .i64 0] (0, 0) _ rfl (by refine pk ?_; refine blk_put (cs := #[.bool false, .int .i64 0, .int .i64 0, .int .i64 x124003_2]) ?_ 3 _ rfl; refine pk ?_; refine blk_put (cs := #[.bool false, .int .i64 0, .int .i64 x124002_2, .int .i64 x124003_2]) ?_ 2 _ rfl; refine pk ?_; refine blk_put (cs := #[.bool false, .int .i64 x124001_2, .int .i64 x124002_2, .int .i64 x124003_2]) ?_ 1 _ rfl; refine pk ?_; refine blk_put (cs := #[.bool x124000_2, .int .i64 x124001_2, .int .i64 x124002_2, .int .i64 x124003_2]) ?_ 0 _ rfl; refine pk ?_; exact BK123.out) Try.underlying27 rfl (by kernel_rfl) (.tmp .nil)))) rfl ?_
           exact ⟨_, by first | rfl | (simp [errW_none, errW_some] <;> rfl) | (simp [*, errW_none, errW_some] <;> rfl), by first | exact Kd.R_nil _ _ _ _ _ | exact Kd.N_nil _ _ _ _ _ | exact Kd.V_nil _ _ _ _ _ | exact Kd.Q_nil _ _ _ _ _ | exact Kd.S_nil _ _ _ _ _, by repeat (with_reducible first | exact HB.out | refine bz ?_ (by assumption) | apply bA | apply bN | apply bD)⟩
         ·rw [if_neg c37] at H
          exact absurd H (by simp)
        ·rw [if_neg c36] at H
         exact absurd H (by simp)
       ·rw [if_neg c35] at H
        exact absurd H (by simp)
      ·rw [if_neg c34] at H
       have c34b0 : decide (x34_2 < (l2.length : Int)) = false := decide_eq_false c34
       clear c34
       simp only [Option.some.injEq, Prod.mk.injEq] at H
       obtain ⟨rfl, rfl, rfl, rfl, rfl, rfl⟩ := H
       try go_wp2
       replace HO_11 := a_ (Kd.R_drew HO_11.out)
       replace BK121 := a_ (blk_drew BK121.out)
       replace BK122 := a_ (blk_drew BK122.out)
       replace BK123 := a_ (blk_drew BK123.out)
       replace HB := a_ (below_drew1 HB.out)
       refine start_ (n := 5) (S := fun w' => w'.cell? ⟨gb122, 0, none⟩ = some (.bool x123000_2) ∧ w'.cell? ⟨gb122, 1, none⟩ = some (.int .i64 x123001_2) ∧ w'.cell? ⟨gb122, 2, none⟩ = some (.int .i64 x123002_2) ∧ w'.cell? ⟨gb122, 3, none⟩ = some (.int .i64 x123003_2)) (ds := []) #[false, false, false, false, false] (by kernel_rfl) rfl rfl ⟨(blk_cell BK122.out 0).trans rfl, (blk_cell BK122.out 1).trans rfl, (blk_cell BK122.out 2).trans rfl, (blk_cell BK122.out 3).trans rfl⟩ (fun hHeld => ?_)
       generalize wr.drew = w69 at HO_11 BK121 BK122 BK123 HB hHeld ⊢
       refine pure_ (i := 0) (N := some 61) (v := ?_) (a' := ?_) #[true, false, false, false, false] rfl rfl (by kernel_rfl) (fun _ _ _ h => h) (Or.inl ⟨by rfl, ?_⟩) ?_ ?_
       rotate_left
       ·intro w'
        go_simp
        with_reducible rfl
       rotate_left
       ·simp only [Act.put, sB, sC, sD, i64_w, i32_w]
        rfl
       refine pure_ (i := 2) (N := some 8) (v := ?_) (a' := ?_) #[true, false, true, false, false] rfl rfl (by kernel_rfl) (fun _ _ _ h => h) (Or.inl ⟨by rfl, ?_⟩) ?_ ?_
       rotate_left
       ·intro w'
        go_simp
        with_reducible rfl
       rotate_left
       ·simp only [Act.put, sB, sC, sD, i64_w, i32_w]
        rfl
       refine take_ (i := 1) (N := some 62) (v := ?_) (a' := ?_) #[true, true, true, false, false] rfl rfl (by kernel_rfl) (fun _ _ _ h => h) (Or.inl ⟨by rfl, ?_⟩) hHeld ?_ ?_
       rotate_left
       ·rintro w' ⟨s0, s1, s2, s3⟩
        go_simp
        with_reducible rfl
       rotate_left
       ·simp only [Act.put, sB, sC, sD, i64_w, i32_w]
        rfl
       refine one_ (i := 3) (N := none) #[true, true, true, true, false] rfl rfl (by kernel_rfl) (by decide) (fun K hK => ?_)
       have hs70 : w69.cell? ⟨gb123, 0, none⟩ = some (.bool x124000_2) := (blk_cell BK123.out 0).trans rfl
       have hfs70 := blk_frozen BK123.out 0
       have hns70_0 := NB121_123.out
       have hns70_1 := NB122_123.out
       have hms70_0 := NB123_121.out
       have hms70_1 := NB123_122.out
       have hs71 : w69.cell? ⟨gb123, 1, none⟩ = some (.int .i64 x124001_2) := (blk_cell BK123.out 1).trans rfl
       have hfs71 := blk_frozen BK123.out 1
       have hns71_0 := NB121_123.out
       have hns71_1 := NB122_123.out
       have hms71_0 := NB123_121.out
       have hms71_1 := NB123_122.out
       have hs72 : w69.cell? ⟨gb123, 2, none⟩ = some (.int .i64 x124002_2) := (blk_cell BK123.out 2).trans rfl
       have hfs72 := blk_frozen BK123.out 2
       have hns72_0 := NB121_123.out
       have hns72_1 := NB122_123.out
       have hms72_0 := NB123_121.out
       have hms72_1 := NB123_122.out
       have hs73 : w69.cell? ⟨gb123, 3, none⟩ = some (.int .i64 x124003_2) := (blk_cell BK123.out 3).trans rfl
       have hfs73 := blk_frozen BK123.out 3
       have hns73_0 := NB121_123.out
       have hns73_1 := NB122_123.out
       have hms73_0 := NB123_121.out
       have hms73_1 := NB123_122.out
       refine skip_ (w1 := ?_) ?_ ?_ ?_ ?_
       rotate_left
       ·rfl
       ·rfl
       ·go_simp
        rfl
       refine hK.out _ _ ⟨((cell_far (p := ⟨gb123, _, none⟩) NB122_123.out _).trans (((cell_far (p := ⟨gb123, _, none⟩) NB122_123.out _).trans (((cell_far (p := ⟨gb123, _, none⟩) NB122_123.out _).trans (((cell_far (p := ⟨gb123, _, none⟩) NB122_123.out _).trans (hHeld.1)))))))), ((cell_far (p := ⟨gb123, _, none⟩) NB122_123.out _).trans (((cell_far (p := ⟨gb123, _, none⟩) NB122_123.out _).trans (((cell_far (p := ⟨gb123, _, none⟩) NB122_123.out _).trans (((cell_far (p := ⟨gb123, _, none⟩) NB122_123.out _).trans (hHeld.2.1)))))))), ((cell_far (p := ⟨gb123, _, none⟩) NB122_123.out _).trans (((cell_far (p := ⟨gb123, _, none⟩) NB122_123.out _).trans (((cell_far (p := ⟨gb123, _, none⟩) NB122_123.out _).trans (((cell_far (p := ⟨gb123, _, none⟩) NB122_123.out _).trans (hHeld.2.2.1)))))))), ((cell_far (p := ⟨gb123, _, none⟩) NB122_123.out _).trans (((cell_far (p := ⟨gb123, _, none⟩) NB122_123.out _).trans (((cell_far (p := ⟨gb123, _, none⟩) NB122_123.out _).trans (((cell_far (p := ⟨gb123, _, none⟩) NB122_123.out _).trans (hHeld.2.2.2))))))))⟩ (fun hHeld => ?_)
       clear hK K
       refine pure_ (i := 4) (N := some 10) (v := ?_) (a' := ?_) #[true, true, true, true, true] rfl rfl (by kernel_rfl) (fun _ _ _ h => h) (Or.inl ⟨by rfl, ?_⟩) ?_ ?_
       rotate_left
       ·intro w'
        go_simp
        with_reducible rfl
       rotate_left
       ·simp only [Act.put, sB, sC, sD, i64_w, i32_w]
        rfl
       refine done_ (by kernel_rfl) ?_
       try go_wp2
       refine bodyPost_ret (results_list (rs := [.tmp 8, .cell 9 27, .tmp 10]) rfl (by simp) (.tmp (.cell gb123 27 #[.bool x123000_2, .int .i64 x123001_2, .int .i64 x123002_2, .int .i64 x123003_2] (0, 0) _ rfl (by refine pk ?_; refine blk_put (cs := #[.bool x123000_2, .int .i64 x123001_2, .int .i64 x123002_2, .int .i64 x124003_2]) ?_ 3 _ rfl; refine pk ?_; refine blk_put (cs := #[.bool x123000_2, .int .i64 x123001_2, .int .i64 x124002_2, .int .i64 x124003_2]) ?_ 2 _ rfl; refine pk ?_; refine blk_put (cs := #[.bool x123000_2, .int .i64 x124001_2, .int .i64 x124002_2, .int .i64 x124003_2]) ?_ 1 _ rfl; refine pk ?_; refine blk_put (cs := #[.bool x124000_2, .int .i64 x124001_2, .int .i64 x124002_2, .int .i64 x124003_2]) ?_ 0 _ rfl; refine pk ?_; exact BK123.out) Try.underlying27 rfl (by kernel_rfl) (.tmp .nil)))) rfl ?_
       exact ⟨_, by first | rfl | (simp [errW_none, errW_some] <;> rfl) | (simp [*, errW_none, errW_some] <;> rfl), by refine rk ?_; exact Kd.R_mono (fr4 HO_11.out BK123.out (by decide) 0 (.bool x123000_2) 1 (.int .i64 x123001_2) 2 (.int .i64 x123002_2) 3 (.int .i64 x123003_2)) (fun _ hk => trivial), by repeat (with_reducible first | exact HB.out | refine bz ?_ (by assumption) | apply bA | apply bN | apply bD)⟩

end Go.Proofs.Ytineniimpdjpnaa.PFnExactRunHold
