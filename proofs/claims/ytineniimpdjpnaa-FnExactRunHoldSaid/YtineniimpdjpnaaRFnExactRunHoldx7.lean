-- Written by a program of this session out of the loaded functions' print; helper lemmas as print.sh lays them.
import Derived.Test.YtineniimpdjpnaaUp2
import Derived.Test.YtineniimpdjpnaaUp
import Derived.Test.YtineniimpdjpnaaRFnExactRunHoldx0
import Derived.Test.YtineniimpdjpnaaRFnExactRunHoldx5
import Derived.Test.YtineniimpdjpnaaRFnExactRunHoldx6
namespace Go.Proofs.Ytineniimpdjpnaa.PFnExactRunHold
open Go.RowKit Go.Proofs.YtineniimpdjpnaaW.PrintWords Go.Proofs.YtineniimpdjpnaaW.PrintLast Go.Proofs.YtineniimpdjpnaaW.PrintMore
attribute [local go_sem] max2_int min2_int max_two min_two max_three min_three max_four min_four  -- for this text's walks alone
set_option linter.unusedVariables false
set_option linter.unusedSimpArgs false

/-! ### impl_RunHold: function 10 -/
mutual
def impl_RunHold.j0 : Nat → List Int → List Int → Bool → Int → Int → Int → Int → Int → Int → Int → Bool → Int → Int → Int → Option (List Int × Bool × Int × Int × Int × Bool)
 | 0, _, _, _, _, _, _, _, _, _, _, _, _, _, _ => none
 | k + 1, x2, x3, x29, x172000, x172001, x172002, x172003, x172004, x172005, x172006, x173000, x173001, x173002, x173003 => if x29 = true then (some (([] : List Int), false, 0, 0, 0, false)) else (impl_RunHold.l0 k x2 x3 ([] : List Int) (x2.length : Int) 0 x172000 x172001 x172002 x172003 x172004 x172005 x172006 x173000 x173001 x173002 x173003)
def impl_RunHold.l0 : Nat → List Int → List Int → List Int → Int → Int → Int → Int → Int → Int → Int → Int → Int → Bool → Int → Int → Int → Option (List Int × Bool × Int × Int × Int × Bool)
 | 0, _, _, _, _, _, _, _, _, _, _, _, _, _, _, _, _ => none
 | k + 1, x2, x3, x11, x32, x33, x172000, x172001, x172002, x172003, x172004, x172005, x172006, x173000, x173001, x173002, x173003 => if x33 < x32 then (if 0 ≤ x33 then (if x33 < (x2.length : Int) then (if x33 < (x3.length : Int) then ((impl_HoldStep.f k x172000 x172001 x172002 x172003 x172004 x172005 x172006 x173000 x173001 x173002 x173003 (rd x2 x33) (rd x3 x33)).bind fun bt177 => (if bt177.2.2.2.2 = true then (if x11.length < 17592186044416 then (impl_RunHold.l0 k x2 x3 (x11 ++ [bt177.2.2.2.1]) x32 (wrap64 (x33 + 1)) x172000 x172001 x172002 x172003 x172004 x172005 x172006 bt177.1 bt177.2.1 bt177.2.2.1 bt177.2.2.2.1) else (none)) else (some (([] : List Int), false, 0, 0, 0, false)))) else (none)) else (none)) else (none)) else (some (x11, x173000, x173001, x173002, x173003, true))
end
def impl_RunHold.f (k : Nat) (a0_0 : Int) (a0_1 : Int) (a0_2 : Int) (a0_3 : Int) (a0_4 : Int) (a0_5 : Int) (a0_6 : Int) (a1_0 : Bool) (a1_1 : Int) (a1_2 : Int) (a1_3 : Int) (l2 : List Int) (l3 : List Int) : Option (List Int × Bool × Int × Int × Int × Bool) := (impl_GoodHold.f a0_0 a0_1 a0_2 a0_3 a0_4 a0_5 a0_6 a1_0 a1_1 a1_2 a1_3).bind fun t174 => (if t174 = true then (if (l2.length : Int) > 60 then (impl_RunHold.j0 k l2 l3 true a0_0 a0_1 a0_2 a0_3 a0_4 a0_5 a0_6 a1_0 a1_1 a1_2 a1_3) else (impl_RunHold.j0 k l2 l3 ((l2.length : Int) != (l3.length : Int)) a0_0 a0_1 a0_2 a0_3 a0_4 a0_5 a0_6 a1_0 a1_1 a1_2 a1_3)) else (impl_RunHold.j0 k l2 l3 true a0_0 a0_1 a0_2 a0_3 a0_4 a0_5 a0_6 a1_0 a1_1 a1_2 a1_3))
theorem impl_RunHold.mono_l : ∀ k, (∀ y0 y1 y2 y3 y4 y5 y6 y7 y8 y9 y10 y11 y12 y13, LeO (impl_RunHold.j0 k y0 y1 y2 y3 y4 y5 y6 y7 y8 y9 y10 y11 y12 y13) (impl_RunHold.j0 (k + 1) y0 y1 y2 y3 y4 y5 y6 y7 y8 y9 y10 y11 y12 y13)) ∧ (∀ y0 y1 y2 y3 y4 y5 y6 y7 y8 y9 y10 y11 y12 y13 y14 y15, LeO (impl_RunHold.l0 k y0 y1 y2 y3 y4 y5 y6 y7 y8 y9 y10 y11 y12 y13 y14 y15) (impl_RunHold.l0 (k + 1) y0 y1 y2 y3 y4 y5 y6 y7 y8 y9 y10 y11 y12 y13 y14 y15))
 | 0 => ⟨fun _ _ _ _ _ _ _ _ _ _ _ _ _ _ r h => by simp [impl_RunHold.j0] at h, fun _ _ _ _ _ _ _ _ _ _ _ _ _ _ _ _ r h => by simp [impl_RunHold.l0] at h⟩
 | k + 1 => by
  obtain ⟨ih0, ih1⟩ := impl_RunHold.mono_l k
  refine ⟨?_, ?_⟩
  ·intro y0 y1 y2 y3 y4 y5 y6 y7 y8 y9 y10 y11 y12 y13
   unfold impl_RunHold.j0
   repeat' first
   | (with_reducible exact ih0 _ _ _ _ _ _ _ _ _ _ _ _ _ _)
   | (with_reducible exact ih1 _ _ _ _ _ _ _ _ _ _ _ _ _ _ _ _)
   | (with_reducible exact impl_HoldStep.mono _ _ _ _ _ _ _ _ _ _ _ _ _ _)
   | (with_reducible exact LeO.refl _)
   | (with_reducible exact LeO.none _)
   | (with_reducible refine LeO.ite ?_ ?_)
   | (with_reducible refine LeO.bind ?_ (fun _ => ?_))
   | exact ih0 _ _ _ _ _ _ _ _ _ _ _ _ _ _
   | exact ih1 _ _ _ _ _ _ _ _ _ _ _ _ _ _ _ _
   | exact impl_HoldStep.mono _ _ _ _ _ _ _ _ _ _ _ _ _ _
   | exact LeO.none _
   | refine LeO.ite ?_ ?_
   | refine LeO.bind ?_ (fun _ => ?_)
  ·intro y0 y1 y2 y3 y4 y5 y6 y7 y8 y9 y10 y11 y12 y13 y14 y15
   unfold impl_RunHold.l0
   repeat' first
   | (with_reducible exact ih0 _ _ _ _ _ _ _ _ _ _ _ _ _ _)
   | (with_reducible exact ih1 _ _ _ _ _ _ _ _ _ _ _ _ _ _ _ _)
   | (with_reducible exact impl_HoldStep.mono _ _ _ _ _ _ _ _ _ _ _ _ _ _)
   | (with_reducible exact LeO.refl _)
   | (with_reducible exact LeO.none _)
   | (with_reducible refine LeO.ite ?_ ?_)
   | (with_reducible refine LeO.bind ?_ (fun _ => ?_))
   | exact ih0 _ _ _ _ _ _ _ _ _ _ _ _ _ _
   | exact ih1 _ _ _ _ _ _ _ _ _ _ _ _ _ _ _ _
   | exact impl_HoldStep.mono _ _ _ _ _ _ _ _ _ _ _ _ _ _
   | exact LeO.none _
   | refine LeO.ite ?_ ?_
   | refine LeO.bind ?_ (fun _ => ?_)
theorem impl_RunHold.mono : ∀ a0 a1 a2 a3 a4 a5 a6 a7 a8 a9 a10 a11 a12 k, LeO (impl_RunHold.f k a0 a1 a2 a3 a4 a5 a6 a7 a8 a9 a10 a11 a12) (impl_RunHold.f (k + 1) a0 a1 a2 a3 a4 a5 a6 a7 a8 a9 a10 a11 a12) := by
 intro a0 a1 a2 a3 a4 a5 a6 a7 a8 a9 a10 a11 a12 k
 obtain ⟨ih0, ih1⟩ := impl_RunHold.mono_l k
 unfold impl_RunHold.f
 repeat' first
   | (with_reducible exact ih0 _ _ _ _ _ _ _ _ _ _ _ _ _ _)
   | (with_reducible exact ih1 _ _ _ _ _ _ _ _ _ _ _ _ _ _ _ _)
   | (with_reducible exact impl_HoldStep.mono _ _ _ _ _ _ _ _ _ _ _ _ _ _)
   | (with_reducible exact LeO.refl _)
   | (with_reducible exact LeO.none _)
   | (with_reducible refine LeO.ite ?_ ?_)
   | (with_reducible refine LeO.bind ?_ (fun _ => ?_))
   | exact ih0 _ _ _ _ _ _ _ _ _ _ _ _ _ _
   | exact ih1 _ _ _ _ _ _ _ _ _ _ _ _ _ _ _ _
   | exact impl_HoldStep.mono _ _ _ _ _ _ _ _ _ _ _ _ _ _
   | exact LeO.none _
   | refine LeO.ite ?_ ?_
   | refine LeO.bind ?_ (fun _ => ?_)
def impl_RunHold.T8 : Bool × List (List Nat × List Nat) := (true, [([], []), ([], []), ([], []), ([], []), ([2, 3], [2, 3]), ([4], [4]), ([], []), ([], []), ([6, 7], [6, 7]), ([8], [8]), ([0, 1, 5, 9], [0, 1, 5, 9]), ([10], [10]), ([11], [11]), ([11], [11]), ([12, 10, 0, 1, 2, 3, 4, 5, 6, 7, 8, 9, 10, 11, 12], [12]), ([13, 14, 0, 1, 2, 3, 4, 5, 6, 7, 8, 9, 10, 11, 12, 13, 14], [13])])
def impl_RunHold.B8 : List Nat := [0, 0, 0, 0, 12, 28, 0, 0, 192, 448, 1023, 2047, 4095, 4095, 8191, 32767]
theorem impl_RunHold.tab8 : rtab .any (opsOf Try.f10 8) = impl_RunHold.T8 := by kernel_rfl
theorem impl_RunHold.bits8 : waitsOk impl_RunHold.T8.2 impl_RunHold.B8 = true := by kernel_rfl
set_option maxHeartbeats 8000000 in
set_option maxRecDepth 100000 in
theorem impl_RunHold.calls (k : Nat) (a0_0 : Int) (a0_1 : Int) (a0_2 : Int) (a0_3 : Int) (a0_4 : Int) (a0_5 : Int) (a0_6 : Int) (a1_0 : Bool) (a1_1 : Int) (a1_2 : Int) (a1_3 : Int) (A2 : Option Addr) (c2 : Nat) (l2 : List Int) (A3 : Option Addr) (c3 : Nat) (l3 : List Int) (r1 : List Int) (r2 : Bool) (r3 : Int) (r4 : Int) (r5 : Int) (r6 : Bool) (w : World) (hr2 : Kd.C (Kd.int .i64) w A2 l2.length l2) (hc2 : l2.length ≤ c2) (hr3 : Kd.C (Kd.int .i64) w A3 l3.length l3) (hc3 : l3.length ≤ c3) (h : impl_RunHold.f k a0_0 a0_1 a0_2 a0_3 a0_4 a0_5 a0_6 a1_0 a1_1 a1_2 a1_3 l2 l3 = some (r1, r2, r3, r4, r5, r6)) :
  Calls Try.prog 10 #[.agg #[.int .i64 a0_0, .int .i64 a0_1, .int .i64 a0_2, .int .i64 a0_3, .int .i64 a0_4, .int .i64 a0_5, .int .i64 a0_6], .agg #[.bool a1_0, .int .i64 a1_1, .int .i64 a1_2, .int .i64 a1_3], .slice A2 l2.length c2, .slice A3 l3.length c3] w fun e w' => ∃ v0_ : Value, e = .returned (.tuple #[v0_, .agg #[.bool r2, .int .i64 r3, .int .i64 r4, .int .i64 r5], .bool r6]) ∧ Kd.R (Kd.int .i64) 3 w' w.heap.size (fun _ => True) v0_ r1 ∧ Below w.heap.size w w' := by
 have hu30 := Try.underlying30
 have hu27 := Try.underlying27
 have HR2 := Aside0.mk hr2
 have HC2 := Aside0.mk hc2
 clear hr2 hc2
 have HR3 := Aside0.mk hr3
 have HC3 := Aside0.mk hc3
 clear hr3 hc3
 have HB := a_ (Below.refl w.heap.size w)
 have H : ((impl_GoodHold.f a0_0 a0_1 a0_2 a0_3 a0_4 a0_5 a0_6 a1_0 a1_1 a1_2 a1_3).bind fun t174 => (if t174 = true then (if (l2.length : Int) > 60 then (impl_RunHold.j0 k l2 l3 true a0_0 a0_1 a0_2 a0_3 a0_4 a0_5 a0_6 a1_0 a1_1 a1_2 a1_3) else (impl_RunHold.j0 k l2 l3 ((l2.length : Int) != (l3.length : Int)) a0_0 a0_1 a0_2 a0_3 a0_4 a0_5 a0_6 a1_0 a1_1 a1_2 a1_3)) else (impl_RunHold.j0 k l2 l3 true a0_0 a0_1 a0_2 a0_3 a0_4 a0_5 a0_6 a1_0 a1_1 a1_2 a1_3))) = some (r1, r2, r3, r4, r5, r6) := h
 clear h
 have HC5 := Aside0.mk H
 clear H
 go_enter Try.func10, Try.ntmps10
 go_upto_region 1 with (first | ((with_reducible refine gate_dst (N := 4) rfl ?_); (try (refine gate_guard (by rfl) ?_; dsimp only)); refine box_event ?hg (N := 4) ?hd (cs := #[.int .i64 a0_0, .int .i64 a0_1, .int .i64 a0_2, .int .i64 a0_3, .int .i64 a0_4, .int .i64 a0_5, .int .i64 a0_6]) (t := 30) ?hr ?_; (case hd => rfl); (case hg => rfl); (case hr => first | (go_simp; done) | (go_simp; rfl)); intro gb171 hg w6 hbox hb; have BK171 := a_ (hbox); have GW171 := a_ (bsg hg HB.out); have GE171 := a_ (bsg hg HB.out); replace HB := a_ (below_step (un HB.out) hb); clear hb hbox hg) | ((with_reducible refine gate_dst (N := 5) rfl ?_); (try (refine gate_guard (by rfl) ?_; dsimp only)); refine box_event ?hg (N := 5) ?hd (cs := #[.bool a1_0, .int .i64 a1_1, .int .i64 a1_2, .int .i64 a1_3]) (t := 27) ?hr ?_; (case hd => rfl); (case hg => rfl); (case hr => first | (go_simp; done) | (go_simp; rfl)); intro gb172 hg w7 hbox hb; have BK172 := a_ (hbox); have GW172 := a_ (bsg hg HB.out); have GE172 := a_ (bsg hg HB.out); replace HB := a_ (below_step (by repeat (with_reducible first | exact HB.out | refine bz ?_ (by assumption) | apply bA | apply bN | apply bD)) hb); have NB171_172 := a_ (nel hg BK171.out); have NB172_171 := a_ (nle hg BK171.out); replace BK171 := a_ (blk_below (pk BK171.out) hb); clear hb hbox hg) | ((with_reducible refine gate_dst (N := 9) rfl ?_); (try (refine gate_guard (by rfl) ?_; dsimp only)); refine box_event ?hg (N := 9) ?hd (cs := #[.bool false, .int .i64 0, .int .i64 0, .int .i64 0]) (t := 27) ?hr ?_; (case hd => rfl); (case hg => rfl); (case hr => first | (go_simp; done) | (go_simp; rfl)); intro gb173 hg w8 hbox hb; have BK173 := a_ (hbox); have GW173 := a_ (bsg hg HB.out); have GE173 := a_ (bsg hg HB.out); replace HB := a_ (below_step (by repeat (with_reducible first | exact HB.out | refine bz ?_ (by assumption) | apply bA | apply bN | apply bD)) hb); have NB171_173 := a_ (nel hg BK171.out); have NB173_171 := a_ (nle hg BK171.out); replace BK171 := a_ (blk_below (pk BK171.out) hb); have NB172_173 := a_ (nel hg BK172.out); have NB173_172 := a_ (nle hg BK172.out); replace BK172 := a_ (blk_below (pk BK172.out) hb); clear hb hbox hg))
 (try simp only [Act.put, sB, sC, sD])
 go_cut [29] (fun v29 wc => ∃ (kq : Nat) (x29_4 : Bool), v29 = .bool x29_4 ∧ Aside0 (impl_RunHold.j0 kq l2 l3 x29_4 a0_0 a0_1 a0_2 a0_3 a0_4 a0_5 a0_6 a1_0 a1_1 a1_2 a1_3 = some (r1, r2, r3, r4, r5, r6)) ∧ Aside0 (kq ≤ k) ∧ Aside0 (wc.heap[gb171]? = some (.cells #[.int .i64 a0_0, .int .i64 a0_1, .int .i64 a0_2, .int .i64 a0_3, .int .i64 a0_4, .int .i64 a0_5, .int .i64 a0_6] 30 (0, 0))) ∧ Aside0 (wc.heap[gb172]? = some (.cells #[.bool a1_0, .int .i64 a1_1, .int .i64 a1_2, .int .i64 a1_3] 27 (0, 0))) ∧ Aside0 (wc.heap[gb173]? = some (.cells #[.bool false, .int .i64 0, .int .i64 0, .int .i64 0] 27 (0, 0))) ∧ Aside0 (Below w.heap.size w wc))
 case first =>
  have H := HC5.out
  clear HC5
  replace H := Option.bind_eq_some_iff.mp H
  obtain ⟨t174, A90, H⟩ := H
  replace H : (if t174 = true then (if (l2.length : Int) > 60 then (impl_RunHold.j0 k l2 l3 true a0_0 a0_1 a0_2 a0_3 a0_4 a0_5 a0_6 a1_0 a1_1 a1_2 a1_3) else (impl_RunHold.j0 k l2 l3 ((l2.length : Int) != (l3.length : Int)) a0_0 a0_1 a0_2 a0_3 a0_4 a0_5 a0_6 a1_0 a1_1 a1_2 a1_3)) else (impl_RunHold.j0 k l2 l3 true a0_0 a0_1 a0_2 a0_3 a0_4 a0_5 a0_6 a1_0 a1_1 a1_2 a1_3)) = some (r1, r2, r3, r4, r5, r6) := H
  have A9 := Aside0.mk A90
  clear A90
  by_cases c10 : t174 = true
  ·subst c10
   have H1 : (if (l2.length : Int) > 60 then (impl_RunHold.j0 k l2 l3 true a0_0 a0_1 a0_2 a0_3 a0_4 a0_5 a0_6 a1_0 a1_1 a1_2 a1_3) else (impl_RunHold.j0 k l2 l3 ((l2.length : Int) != (l3.length : Int)) a0_0 a0_1 a0_2 a0_3 a0_4 a0_5 a0_6 a1_0 a1_1 a1_2 a1_3)) = some (r1, r2, r3, r4, r5, r6) := by rw [if_pos rfl] at H; exact H
   clear H
   have H := H1
   clear H1
   by_cases c11 : (l2.length : Int) > 60
   ·rw [if_pos c11] at H
    have c11b0 : decide (60 < (l2.length : Int)) = true := decide_eq_true c11
    have c11b1 : decide (60 < l2.length) = true := decide_eq_true (by omega)
    clear c11
    (first | rw [c11b0] | (simp only [i64_w, i32_w]; rw [c11b0]) | skip)
    have H' := Aside0.mk H
    clear H
    have hnb12 := NB171_172.out
    have hnc12 := NB172_171.out
    have hnb13 := NB171_173.out
    have hnc13 := NB173_171.out
    have hcz14_0 : _ = some (Value.int .i64 a0_0) := (blk_cell BK171.out 0).trans rfl
    have hcz14_1 : _ = some (Value.int .i64 a0_1) := (blk_cell BK171.out 1).trans rfl
    have hcz14_2 : _ = some (Value.int .i64 a0_2) := (blk_cell BK171.out 2).trans rfl
    have hcz14_3 : _ = some (Value.int .i64 a0_3) := (blk_cell BK171.out 3).trans rfl
    have hcz14_4 : _ = some (Value.int .i64 a0_4) := (blk_cell BK171.out 4).trans rfl
    have hcz14_5 : _ = some (Value.int .i64 a0_5) := (blk_cell BK171.out 5).trans rfl
    have hcz14_6 : _ = some (Value.int .i64 a0_6) := (blk_cell BK171.out 6).trans rfl
    have hfz14_0 := blk_frozen BK171.out 0
    have hfz14_1 := blk_frozen BK171.out 1
    have hfz14_2 := blk_frozen BK171.out 2
    have hfz14_3 := blk_frozen BK171.out 3
    have hfz14_4 := blk_frozen BK171.out 4
    have hfz14_5 := blk_frozen BK171.out 5
    have hfz14_6 := blk_frozen BK171.out 6
    have hnb15 := NB172_173.out
    have hnc15 := NB173_172.out
    have hcz16_0 : _ = some (Value.bool a1_0) := (blk_cell BK172.out 0).trans rfl
    have hcz16_1 : _ = some (Value.int .i64 a1_1) := (blk_cell BK172.out 1).trans rfl
    have hcz16_2 : _ = some (Value.int .i64 a1_2) := (blk_cell BK172.out 2).trans rfl
    have hcz16_3 : _ = some (Value.int .i64 a1_3) := (blk_cell BK172.out 3).trans rfl
    have hfz16_0 := blk_frozen BK172.out 0
    have hfz16_1 := blk_frozen BK172.out 1
    have hfz16_2 := blk_frozen BK172.out 2
    have hfz16_3 := blk_frozen BK172.out 3
    go_wp2_with (first | ((with_reducible refine gate_callee (f := 25) rfl ?_); refine goesL_ (some 16) rfl rfl Try.func25 (by kernel_rfl) rfl #[.agg #[.int .i64 a0_0, .int .i64 a0_1, .int .i64 a0_2, .int .i64 a0_3, .int .i64 a0_4, .int .i64 a0_5, .int .i64 a0_6], .agg #[.bool a1_0, .int .i64 a1_1, .int .i64 a1_2, .int .i64 a1_3]] rfl (by (try simp only [lA, lB, lC]); first | done | rfl | (simp only [lD, lE]; rfl)) ?_; (with_reducible refine (impl_GoodHold.calls a0_0 a0_1 a0_2 a0_3 a0_4 a0_5 a0_6 a1_0 a1_1 a1_2 a1_3 true _ A9.out).mono ?_); rintro e w17 ⟨rfl, hb⟩; refine ⟨_, rfl, ?_⟩; replace BK171 := a_ (blk_below (pk BK171.out) hb); replace BK172 := a_ (blk_below (pk BK172.out) hb); replace BK173 := a_ (blk_below (pk BK173.out) hb); replace HB := a_ (below_step (by repeat (with_reducible first | exact HB.out | refine bz ?_ (by assumption) | apply bA | apply bN | apply bD)) hb); clear hb))
    go_meet
    case rel => exact ⟨_, (true), (by first | rfl | (simp; done) | (simp [*]; done)), H', ⟨by first | omega | exact Nat.le_refl _⟩, ⟨pk BK171.out⟩, ⟨pk BK172.out⟩, ⟨pk BK173.out⟩, ⟨by repeat (with_reducible first | exact HB.out | refine bz ?_ (by assumption) | apply bA | apply bN | apply bD)⟩⟩
   ·rw [if_neg c11] at H
    have c11b0 : decide (60 < (l2.length : Int)) = false := decide_eq_false c11
    have c11b1 : decide (60 < l2.length) = false := decide_eq_false (by omega)
    clear c11
    (first | rw [c11b0] | (simp only [i64_w, i32_w]; rw [c11b0]) | skip)
    have H' := Aside0.mk H
    clear H
    have hnb18 := NB171_172.out
    have hnc18 := NB172_171.out
    have hnb19 := NB171_173.out
    have hnc19 := NB173_171.out
    have hcz20_0 : _ = some (Value.int .i64 a0_0) := (blk_cell BK171.out 0).trans rfl
    have hcz20_1 : _ = some (Value.int .i64 a0_1) := (blk_cell BK171.out 1).trans rfl
    have hcz20_2 : _ = some (Value.int .i64 a0_2) := (blk_cell BK171.out 2).trans rfl
    have hcz20_3 : _ = some (Value.int .i64 a0_3) := (blk_cell BK171.out 3).trans rfl
    have hcz20_4 : _ = some (Value.int .i64 a0_4) := (blk_cell BK171.out 4).trans rfl
    have hcz20_5 : _ = some (Value.int .i64 a0_5) := (blk_cell BK171.out 5).trans rfl
    have hcz20_6 : _ = some (Value.int .i64 a0_6) := (blk_cell BK171.out 6).trans rfl
    have hfz20_0 := blk_frozen BK171.out 0
    have hfz20_1 := blk_frozen BK171.out 1
    have hfz20_2 := blk_frozen BK171.out 2
    have hfz20_3 := blk_frozen BK171.out 3
    have hfz20_4 := blk_frozen BK171.out 4
    have hfz20_5 := blk_frozen BK171.out 5
    have hfz20_6 := blk_frozen BK171.out 6
    have hnb21 := NB172_173.out
    have hnc21 := NB173_172.out
    have hcz22_0 : _ = some (Value.bool a1_0) := (blk_cell BK172.out 0).trans rfl
    have hcz22_1 : _ = some (Value.int .i64 a1_1) := (blk_cell BK172.out 1).trans rfl
    have hcz22_2 : _ = some (Value.int .i64 a1_2) := (blk_cell BK172.out 2).trans rfl
    have hcz22_3 : _ = some (Value.int .i64 a1_3) := (blk_cell BK172.out 3).trans rfl
    have hfz22_0 := blk_frozen BK172.out 0
    have hfz22_1 := blk_frozen BK172.out 1
    have hfz22_2 := blk_frozen BK172.out 2
    have hfz22_3 := blk_frozen BK172.out 3
    go_wp2_with (first | ((with_reducible refine gate_callee (f := 25) rfl ?_); refine goesL_ (some 16) rfl rfl Try.func25 (by kernel_rfl) rfl #[.agg #[.int .i64 a0_0, .int .i64 a0_1, .int .i64 a0_2, .int .i64 a0_3, .int .i64 a0_4, .int .i64 a0_5, .int .i64 a0_6], .agg #[.bool a1_0, .int .i64 a1_1, .int .i64 a1_2, .int .i64 a1_3]] rfl (by (try simp only [lA, lB, lC]); first | done | rfl | (simp only [lD, lE]; rfl)) ?_; (with_reducible refine (impl_GoodHold.calls a0_0 a0_1 a0_2 a0_3 a0_4 a0_5 a0_6 a1_0 a1_1 a1_2 a1_3 true _ A9.out).mono ?_); rintro e w23 ⟨rfl, hb⟩; refine ⟨_, rfl, ?_⟩; replace BK171 := a_ (blk_below (pk BK171.out) hb); replace BK172 := a_ (blk_below (pk BK172.out) hb); replace BK173 := a_ (blk_below (pk BK173.out) hb); replace HB := a_ (below_step (by repeat (with_reducible first | exact HB.out | refine bz ?_ (by assumption) | apply bA | apply bN | apply bD)) hb); clear hb))
    go_meet
    case rel => exact ⟨_, (((l2.length : Int) != (l3.length : Int))), (by first | rfl | (simp; done) | (simp [*]; done)), H', ⟨by first | omega | exact Nat.le_refl _⟩, ⟨pk BK171.out⟩, ⟨pk BK172.out⟩, ⟨pk BK173.out⟩, ⟨by repeat (with_reducible first | exact HB.out | refine bz ?_ (by assumption) | apply bA | apply bN | apply bD)⟩⟩
  ·replace c10 := Bool.eq_false_iff.mpr c10
   subst c10
   have H1 : (impl_RunHold.j0 k l2 l3 true a0_0 a0_1 a0_2 a0_3 a0_4 a0_5 a0_6 a1_0 a1_1 a1_2 a1_3) = some (r1, r2, r3, r4, r5, r6) := by rw [if_neg (show ¬ (false = true) by decide)] at H; exact H
   clear H
   have H := H1
   clear H1
   have H' := Aside0.mk H
   clear H
   have hnb24 := NB171_172.out
   have hnc24 := NB172_171.out
   have hnb25 := NB171_173.out
   have hnc25 := NB173_171.out
   have hcz26_0 : _ = some (Value.int .i64 a0_0) := (blk_cell BK171.out 0).trans rfl
   have hcz26_1 : _ = some (Value.int .i64 a0_1) := (blk_cell BK171.out 1).trans rfl
   have hcz26_2 : _ = some (Value.int .i64 a0_2) := (blk_cell BK171.out 2).trans rfl
   have hcz26_3 : _ = some (Value.int .i64 a0_3) := (blk_cell BK171.out 3).trans rfl
   have hcz26_4 : _ = some (Value.int .i64 a0_4) := (blk_cell BK171.out 4).trans rfl
   have hcz26_5 : _ = some (Value.int .i64 a0_5) := (blk_cell BK171.out 5).trans rfl
   have hcz26_6 : _ = some (Value.int .i64 a0_6) := (blk_cell BK171.out 6).trans rfl
   have hfz26_0 := blk_frozen BK171.out 0
   have hfz26_1 := blk_frozen BK171.out 1
   have hfz26_2 := blk_frozen BK171.out 2
   have hfz26_3 := blk_frozen BK171.out 3
   have hfz26_4 := blk_frozen BK171.out 4
   have hfz26_5 := blk_frozen BK171.out 5
   have hfz26_6 := blk_frozen BK171.out 6
   have hnb27 := NB172_173.out
   have hnc27 := NB173_172.out
   have hcz28_0 : _ = some (Value.bool a1_0) := (blk_cell BK172.out 0).trans rfl
   have hcz28_1 : _ = some (Value.int .i64 a1_1) := (blk_cell BK172.out 1).trans rfl
   have hcz28_2 : _ = some (Value.int .i64 a1_2) := (blk_cell BK172.out 2).trans rfl
   have hcz28_3 : _ = some (Value.int .i64 a1_3) := (blk_cell BK172.out 3).trans rfl
   have hfz28_0 := blk_frozen BK172.out 0
   have hfz28_1 := blk_frozen BK172.out 1
   have hfz28_2 := blk_frozen BK172.out 2
   have hfz28_3 := blk_frozen BK172.out 3
   go_wp2_with (first | ((with_reducible refine gate_callee (f := 25) rfl ?_); refine goesL_ (some 16) rfl rfl Try.func25 (by kernel_rfl) rfl #[.agg #[.int .i64 a0_0, .int .i64 a0_1, .int .i64 a0_2, .int .i64 a0_3, .int .i64 a0_4, .int .i64 a0_5, .int .i64 a0_6], .agg #[.bool a1_0, .int .i64 a1_1, .int .i64 a1_2, .int .i64 a1_3]] rfl (by (try simp only [lA, lB, lC]); first | done | rfl | (simp only [lD, lE]; rfl)) ?_; (with_reducible refine (impl_GoodHold.calls a0_0 a0_1 a0_2 a0_3 a0_4 a0_5 a0_6 a1_0 a1_1 a1_2 a1_3 false _ A9.out).mono ?_); rintro e w29 ⟨rfl, hb⟩; refine ⟨_, rfl, ?_⟩; replace BK171 := a_ (blk_below (pk BK171.out) hb); replace BK172 := a_ (blk_below (pk BK172.out) hb); replace BK173 := a_ (blk_below (pk BK173.out) hb); replace HB := a_ (below_step (by repeat (with_reducible first | exact HB.out | refine bz ?_ (by assumption) | apply bA | apply bN | apply bD)) hb); clear hb))
   go_meet
   case rel => exact ⟨_, (true), (by first | rfl | (simp; done) | (simp [*]; done)), H', ⟨by first | omega | exact Nat.le_refl _⟩, ⟨pk BK171.out⟩, ⟨pk BK172.out⟩, ⟨pk BK173.out⟩, ⟨by repeat (with_reducible first | exact HB.out | refine bz ?_ (by assumption) | apply bA | apply bN | apply bD)⟩⟩
 case rest =>
  clear HC5
  try clear c1; try clear c2; try clear p2; try clear c3; try clear c10; try clear c11; try clear c11b0; try clear c11b1; try clear c12; try clear c13; try clear c15; try clear c18; try clear c19; try clear c21; try clear c24; try clear c25; try clear c27; try clear hcz14_0; try clear hcz14_1; try clear hcz14_2; try clear hcz14_3; try clear hcz14_4; try clear hcz14_5; try clear hcz14_6; try clear hcz16_0; try clear hcz16_1; try clear hcz16_2; try clear hcz16_3; try clear hcz20_0; try clear hcz20_1; try clear hcz20_2; try clear hcz20_3; try clear hcz20_4; try clear hcz20_5; try clear hcz20_6; try clear hcz22_0; try clear hcz22_1; try clear hcz22_2; try clear hcz22_3; try clear hcz26_0; try clear hcz26_1; try clear hcz26_2; try clear hcz26_3; try clear hcz26_4; try clear hcz26_5; try clear hcz26_6; try clear hcz28_0; try clear hcz28_1; try clear hcz28_2; try clear hcz28_3; try clear hfz14_0; try clear hfz14_1; try clear hfz14_2; try clear hfz14_3; try clear hfz14_4; try clear hfz14_5; try clear hfz14_6; try clear hfz16_0; try clear hfz16_1; try clear hfz16_2; try clear hfz16_3; try clear hfz20_0; try clear hfz20_1; try clear hfz20_2; try clear hfz20_3; try clear hfz20_4; try clear hfz20_5; try clear hfz20_6; try clear hfz22_0; try clear hfz22_1; try clear hfz22_2; try clear hfz22_3; try clear hfz26_0; try clear hfz26_1; try clear hfz26_2; try clear hfz26_3; try clear hfz26_4; try clear hfz26_5; try clear hfz26_6; try clear hfz28_0; try clear hfz28_1; try clear hfz28_2; try clear hfz28_3
  obtain ⟨kq, x29_4, rfl, HA, HJ4, BK171, BK172, BK173, HB⟩ := hcut
  cases kq with
  | zero => exact absurd HA.out (by simp [impl_RunHold.j0])
  | succ kj4 =>
   have H := HA.out
   clear HA
   simp only [impl_RunHold.j0] at H
   by_cases c30 : x29_4 = true
   ·subst c30
    have H1 : (some (([] : List Int), false, 0, 0, 0, false)) = some (r1, r2, r3, r4, r5, r6) := by rw [if_pos rfl] at H; exact H
    clear H
    have H := H1
    clear H1
    simp only [Option.some.injEq, Prod.mk.injEq] at H
    obtain ⟨rfl, rfl, rfl, rfl, rfl, rfl⟩ := H
    have hnb31 := NB173_171.out
    have hnc31 := NB171_173.out
    have hnb32 := NB173_172.out
    have hnc32 := NB172_173.out
    have hcz33_0 : wc.cell? ⟨gb173, 0, none⟩ = some (.bool false) := (blk_cell BK173.out 0).trans rfl
    have hcz33_1 : wc.cell? ⟨gb173, 1, none⟩ = some (.int .i64 0) := (blk_cell BK173.out 1).trans rfl
    have hcz33_2 : wc.cell? ⟨gb173, 2, none⟩ = some (.int .i64 0) := (blk_cell BK173.out 2).trans rfl
    have hcz33_3 : wc.cell? ⟨gb173, 3, none⟩ = some (.int .i64 0) := (blk_cell BK173.out 3).trans rfl
    have hfz33_0 := blk_frozen BK173.out 0
    have hfz33_1 := blk_frozen BK173.out 1
    have hfz33_2 := blk_frozen BK173.out 2
    have hfz33_3 := blk_frozen BK173.out 3
    go_wp2
    refine bodyPost_ret (results_list (rs := [.tmp 8, .cell 9 27, .tmp 10]) rfl (by simp) (.tmp (.cell gb173 27 #[.bool false, .int .i64 0, .int .i64 0, .int .i64 0] (0, 0) _ rfl (by refine pk ?_; refine blk_put (cs := #[.bool false, .int .i64 0, .int .i64 0, .int .i64 0]) ?_ 3 _ rfl; refine pk ?_; refine blk_put (cs := #[.bool false, .int .i64 0, .int .i64 0, .int .i64 0]) ?_ 2 _ rfl; refine pk ?_; refine blk_put (cs := #[.bool false, .int .i64 0, .int .i64 0, .int .i64 0]) ?_ 1 _ rfl; refine pk ?_; refine blk_put (cs := #[.bool false, .int .i64 0, .int .i64 0, .int .i64 0]) ?_ 0 _ rfl; refine pk ?_; exact BK173.out) Try.underlying27 rfl (by kernel_rfl) (.tmp .nil)))) rfl ?_
    exact ⟨_, by first | rfl | (simp [errW_none, errW_some] <;> rfl) | (simp [*, errW_none, errW_some] <;> rfl), by first | exact Kd.R_nil _ _ _ _ _ | exact Kd.N_nil _ _ _ _ _ | exact Kd.V_nil _ _ _ _ _ | exact Kd.Q_nil _ _ _ _ _ | exact Kd.S_nil _ _ _ _ _, by repeat (with_reducible first | exact HB.out | refine bz ?_ (by assumption) | apply bA | apply bN | apply bD)⟩
   ·replace c30 := Bool.eq_false_iff.mpr c30
    subst c30
    have H1 : (impl_RunHold.l0 kj4 l2 l3 ([] : List Int) (l2.length : Int) 0 a0_0 a0_1 a0_2 a0_3 a0_4 a0_5 a0_6 a1_0 a1_1 a1_2 a1_3) = some (r1, r2, r3, r4, r5, r6) := by rw [if_neg (show ¬ (false = true) by decide)] at H; exact H
    clear H
    have H := H1
    clear H1
    have H' := Aside0.mk H
    clear H
    go_wp2
    go_loopg [11, 33] kj4 (fun kq v11 v33 w' => ∃ (x11_2 : List Int) (x33_2 : Int) (x173000_2 : Bool) (x173001_2 : Int) (x173002_2 : Int) (x173003_2 : Int) (x174000_2 : Bool) (x174001_2 : Int) (x174002_2 : Int) (x174003_2 : Int), v33 = .int .i64 x33_2 ∧ Aside0 (impl_RunHold.l0 kq l2 l3 x11_2 (l2.length : Int) x33_2 a0_0 a0_1 a0_2 a0_3 a0_4 a0_5 a0_6 x173000_2 x173001_2 x173002_2 x173003_2 = some (r1, r2, r3, r4, r5, r6)) ∧ Aside0 (kq ≤ kj4) ∧ Aside0 (Kd.R (Kd.int .i64) 3 w' w.heap.size (fun _ => True) v11 x11_2) ∧ Aside0 (w'.heap[gb171]? = some (.cells #[.int .i64 a0_0, .int .i64 a0_1, .int .i64 a0_2, .int .i64 a0_3, .int .i64 a0_4, .int .i64 a0_5, .int .i64 a0_6] 30 (0, 0))) ∧ Aside0 (w'.heap[gb172]? = some (.cells #[.bool x173000_2, .int .i64 x173001_2, .int .i64 x173002_2, .int .i64 x173003_2] 27 (0, 0))) ∧ Aside0 (w'.heap[gb173]? = some (.cells #[.bool x174000_2, .int .i64 x174001_2, .int .i64 x174002_2, .int .i64 x174003_2] 27 (0, 0))) ∧ Aside0 (Below w.heap.size w w'))
    case atStart => exact ⟨(([] : List Int)), (0), (a1_0), (a1_1), (a1_2), (a1_3), (false), (0), (0), (0), (by first | rfl | (simp; done) | (simp [*]; done)), H', ⟨Nat.le_refl _⟩, ⟨by first | exact Kd.R_nil _ _ _ _ _ | exact Kd.N_nil _ _ _ _ _ | exact Kd.V_nil _ _ _ _ _ | exact Kd.Q_nil _ _ _ _ _ | exact Kd.S_nil _ _ _ _ _⟩, ⟨pk BK171.out⟩, ⟨pk BK172.out⟩, ⟨pk BK173.out⟩, ⟨by repeat (with_reducible first | exact HB.out | refine bz ?_ (by assumption) | apply bA | apply bN | apply bD)⟩⟩
    case round =>
     clear H'
     try clear c1; try clear c2; try clear p2; try clear c3; try clear c10; try clear c11; try clear c11b0; try clear c11b1; try clear c12; try clear c13; try clear c15; try clear c18; try clear c19; try clear c21; try clear c24; try clear c25; try clear c27; try clear c30; try clear c31; try clear c32; try clear hcz14_0; try clear hcz14_1; try clear hcz14_2; try clear hcz14_3; try clear hcz14_4; try clear hcz14_5; try clear hcz14_6; try clear hcz16_0; try clear hcz16_1; try clear hcz16_2; try clear hcz16_3; try clear hcz20_0; try clear hcz20_1; try clear hcz20_2; try clear hcz20_3; try clear hcz20_4; try clear hcz20_5; try clear hcz20_6; try clear hcz22_0; try clear hcz22_1; try clear hcz22_2; try clear hcz22_3; try clear hcz26_0; try clear hcz26_1; try clear hcz26_2; try clear hcz26_3; try clear hcz26_4; try clear hcz26_5; try clear hcz26_6; try clear hcz28_0; try clear hcz28_1; try clear hcz28_2; try clear hcz28_3; try clear hcz33_0; try clear hcz33_1; try clear hcz33_2; try clear hcz33_3; try clear hfz14_0; try clear hfz14_1; try clear hfz14_2; try clear hfz14_3; try clear hfz14_4; try clear hfz14_5; try clear hfz14_6; try clear hfz16_0; try clear hfz16_1; try clear hfz16_2; try clear hfz16_3; try clear hfz20_0; try clear hfz20_1; try clear hfz20_2; try clear hfz20_3; try clear hfz20_4; try clear hfz20_5; try clear hfz20_6; try clear hfz22_0; try clear hfz22_1; try clear hfz22_2; try clear hfz22_3; try clear hfz26_0; try clear hfz26_1; try clear hfz26_2; try clear hfz26_3; try clear hfz26_4; try clear hfz26_5; try clear hfz26_6; try clear hfz28_0; try clear hfz28_1; try clear hfz28_2; try clear hfz28_3; try clear hfz33_0; try clear hfz33_1; try clear hfz33_2; try clear hfz33_3; try clear p2
     obtain ⟨x11_2, x33_2, x173000_2, x173001_2, x173002_2, x173003_2, x174000_2, x174001_2, x174002_2, x174003_2, rfl, HA, HK2, HO_11, BK171, BK172, BK173, HB⟩ := hrel
     cases gk with
     | zero => exact absurd HA.out (by simp [impl_RunHold.l0])
     | succ k2 =>
      have H := HA.out
      clear HA
      simp only [impl_RunHold.l0] at H
      by_cases c34 : x33_2 < (l2.length : Int)
      ·rw [if_pos c34] at H
       have c34b0 : decide (x33_2 < (l2.length : Int)) = true := decide_eq_true c34
       clear c34
       by_cases c35 : 0 ≤ x33_2
       ·rw [if_pos c35] at H
        have c35b0 : decide (0 ≤ x33_2) = true := decide_eq_true c35
        clear c35
        by_cases c36 : x33_2 < (l2.length : Int)
        ·rw [if_pos c36] at H
         have c36b0 : decide (x33_2 < (l2.length : Int)) = true := decide_eq_true c36
         clear c36
         by_cases c37 : x33_2 < (l3.length : Int)
         ·rw [if_pos c37] at H
          have c37b0 : decide (x33_2 < (l3.length : Int)) = true := decide_eq_true c37
          clear c37
          replace H := Option.bind_eq_some_iff.mp H
          obtain ⟨⟨t177, t178, t179, t180, t181⟩, A380, H⟩ := H
          replace H : (if t181 = true then (if x11_2.length < 17592186044416 then (impl_RunHold.l0 k2 l2 l3 (x11_2 ++ [t180]) (l2.length : Int) (wrap64 (x33_2 + 1)) a0_0 a0_1 a0_2 a0_3 a0_4 a0_5 a0_6 t177 t178 t179 t180) else (none)) else (some (([] : List Int), false, 0, 0, 0, false))) = some (r1, r2, r3, r4, r5, r6) := H
          have A38 := Aside0.mk A380
          clear A380
          by_cases c39 : t181 = true
          ·subst c39
           have H1 : (if x11_2.length < 17592186044416 then (impl_RunHold.l0 k2 l2 l3 (x11_2 ++ [t180]) (l2.length : Int) (wrap64 (x33_2 + 1)) a0_0 a0_1 a0_2 a0_3 a0_4 a0_5 a0_6 t177 t178 t179 t180) else (none)) = some (r1, r2, r3, r4, r5, r6) := by rw [if_pos rfl] at H; exact H
           clear H
           have H := H1
           clear H1
           by_cases c40 : x11_2.length < 17592186044416
           ·rw [if_pos c40] at H
            have LMc40 := Aside0.mk c40
            clear c40
            obtain ⟨y182, hy182⟩ : ∃ y_ : List Int, y_ = (x11_2 ++ [t180]) := ⟨_, rfl⟩
            replace H : (impl_RunHold.l0 k2 l2 l3 y182 (l2.length : Int) (wrap64 (x33_2 + 1)) a0_0 a0_1 a0_2 a0_3 a0_4 a0_5 a0_6 t177 t178 t179 t180) = some (r1, r2, r3, r4, r5, r6) := by first | (rw [hy182]; with_reducible exact H) | (have H2_ := (Option.bind_some _ _).symm.trans H; rw [hy182]; with_reducible exact H2_) | (have H2_ := (Option.bind_some _ _).symm.trans H; with_reducible exact H2_) | with_reducible exact H | (rw [hy182]; exact H) | exact H
            have Ny182 := Aside0.mk hy182
            clear hy182
            have H' := Aside0.mk H
            clear H
            try go_wp2
            replace HO_11 := a_ (Kd.R_drew HO_11.out)
            replace BK171 := a_ (blk_drew BK171.out)
            replace BK172 := a_ (blk_drew BK172.out)
            replace BK173 := a_ (blk_drew BK173.out)
            replace HB := a_ (below_drew1 HB.out)
            have p175 : 0 ≤ (x33_2 : Int) := of_decide_eq_true (by first | (with_reducible assumption) | assumption)
            have q175 : x33_2 < (l2.length : Int) := of_decide_eq_true (by first | (with_reducible assumption) | assumption)
            obtain ⟨ad175, e175, hx175_0⟩ := Kd.at_int HR2.out x33_2 p175 q175
            have hw175_0 := hx175_0
            cases e175
            replace hx175_0 := (HB.out.cell (World.block_lt_of_cell? w _ hx175_0)).trans hx175_0
            replace p175 := eq_true p175
            replace q175 := eq_true q175
            have p176 : 0 ≤ (x33_2 : Int) := of_decide_eq_true (by first | (with_reducible assumption) | assumption)
            have q176 : x33_2 < (l3.length : Int) := of_decide_eq_true (by first | (with_reducible assumption) | assumption)
            obtain ⟨ad176, e176, hx176_0⟩ := Kd.at_int HR3.out x33_2 p176 q176
            have hw176_0 := hx176_0
            cases e176
            replace hx176_0 := (HB.out.cell (World.block_lt_of_cell? w _ hx176_0)).trans hx176_0
            replace p176 := eq_true p176
            replace q176 := eq_true q176
            refine start_ (n := 16) (S := fun w' => w'.cell? ⟨gb171, 0, none⟩ = some (.int .i64 a0_0) ∧ w'.cell? ⟨gb171, 1, none⟩ = some (.int .i64 a0_1) ∧ w'.cell? ⟨gb171, 2, none⟩ = some (.int .i64 a0_2) ∧ w'.cell? ⟨gb171, 3, none⟩ = some (.int .i64 a0_3) ∧ w'.cell? ⟨gb171, 4, none⟩ = some (.int .i64 a0_4) ∧ w'.cell? ⟨gb171, 5, none⟩ = some (.int .i64 a0_5) ∧ w'.cell? ⟨gb171, 6, none⟩ = some (.int .i64 a0_6) ∧ w'.cell? ⟨gb172, 0, none⟩ = some (.bool x173000_2) ∧ w'.cell? ⟨gb172, 1, none⟩ = some (.int .i64 x173001_2) ∧ w'.cell? ⟨gb172, 2, none⟩ = some (.int .i64 x173002_2) ∧ w'.cell? ⟨gb172, 3, none⟩ = some (.int .i64 x173003_2) ∧ w'.cell? (ad175.add (x33_2).toNat) = some (.int .i64 (rd l2 x33_2)) ∧ w'.cell? (ad176.add (x33_2).toNat) = some (.int .i64 (rd l3 x33_2))) (ds := [14]) #[false, false, false, false, false, false, false, false, false, false, false, false, false, false, false, false] (by kernel_rfl) rfl rfl ⟨(blk_cell BK171.out 0).trans rfl, (blk_cell BK171.out 1).trans rfl, (blk_cell BK171.out 2).trans rfl, (blk_cell BK171.out 3).trans rfl, (blk_cell BK171.out 4).trans rfl, (blk_cell BK171.out 5).trans rfl, (blk_cell BK171.out 6).trans rfl, (blk_cell BK172.out 0).trans rfl, (blk_cell BK172.out 1).trans rfl, (blk_cell BK172.out 2).trans rfl, (blk_cell BK172.out 3).trans rfl, ((HB.out.cell (World.block_lt_of_cell? w _ hw175_0)).trans hw175_0), ((HB.out.cell (World.block_lt_of_cell? w _ hw176_0)).trans hw176_0)⟩ (fun hHeld => ?_); refine with_tabW impl_RunHold.tab8 impl_RunHold.bits8 (fun HT_ HW_ => ?_)
            generalize wr.drew = w41 at HO_11 BK171 BK172 BK173 HB hx175_0 hx176_0 hHeld ⊢
            refine pure_ (i := 2) (N := some 39) (v := ?_) (a' := ?_) #[false, false, true, false, false, false, false, false, false, false, false, false, false, false, false, false] rfl rfl (any_of HT_.out (by kernel_rfl)) (fun _ _ _ h => h) (Or.inl ⟨by rfl, ?_⟩) ?_ ?_
            rotate_left
            ·intro w'
             go_simp
             with_reducible rfl
            rotate_left
            ·simp only [Act.put, sB, sC, sD, i64_w, i32_w]
             rfl
            refine pure_ (i := 3) (N := some 40) (v := ?_) (a' := ?_) #[false, false, true, true, false, false, false, false, false, false, false, false, false, false, false, false] rfl rfl (any_of HT_.out (by kernel_rfl)) (fun _ _ _ h => h) (Or.inl ⟨by rfl, ?_⟩) ?_ ?_
            rotate_left
            ·intro w'
             go_simp
             with_reducible rfl
            rotate_left
            ·simp only [Act.put, sB, sC, sD, i64_w, i32_w]
             rfl
            refine pure_ (i := 4) (N := some 41) (v := ?_) (a' := ?_) #[false, false, true, true, true, false, false, false, false, false, false, false, false, false, false, false] rfl rfl (any_of HT_.out (by kernel_rfl)) (fun _ _ _ h => h) (Or.inl ⟨by rfl, ?_⟩) ?_ ?_
            rotate_left
            ·intro w'
             go_simp
             with_reducible rfl
            rotate_left
            ·simp only [Act.put, sB, sC, sD, i64_w, i32_w]
             rfl
            refine pure_ (i := 6) (N := some 43) (v := ?_) (a' := ?_) #[false, false, true, true, true, false, true, false, false, false, false, false, false, false, false, false] rfl rfl (any_of HT_.out (by kernel_rfl)) (fun _ _ _ h => h) (Or.inl ⟨by rfl, ?_⟩) ?_ ?_
            rotate_left
            ·intro w'
             go_simp
             with_reducible rfl
            rotate_left
            ·simp only [Act.put, sB, sC, sD, i64_w, i32_w]
             rfl
            refine pure_ (i := 7) (N := some 44) (v := ?_) (a' := ?_) #[false, false, true, true, true, false, true, true, false, false, false, false, false, false, false, false] rfl rfl (any_of HT_.out (by kernel_rfl)) (fun _ _ _ h => h) (Or.inl ⟨by rfl, ?_⟩) ?_ ?_
            rotate_left
            ·intro w'
             go_simp
             with_reducible rfl
            rotate_left
            ·simp only [Act.put, sB, sC, sD, i64_w, i32_w]
             rfl
            refine pure_ (i := 8) (N := some 45) (v := ?_) (a' := ?_) #[false, false, true, true, true, false, true, true, true, false, false, false, false, false, false, false] rfl rfl (any_of HT_.out (by kernel_rfl)) (fun _ _ _ h => h) (Or.inl ⟨by rfl, ?_⟩) ?_ ?_
            rotate_left
            ·intro w'
             go_simp
             with_reducible rfl
            rotate_left
            ·simp only [Act.put, sB, sC, sD, i64_w, i32_w]
             rfl
            refine take_ (i := 0) (N := some 37) (v := ?_) (a' := ?_) #[true, false, true, true, true, false, true, true, true, false, false, false, false, false, false, false] rfl rfl (take_ofW HT_.out HW_.out (by kernel_rfl)) (fun _ _ _ h => h) (Or.inl ⟨by rfl, ?_⟩) hHeld ?_ ?_
            rotate_left
            ·rintro w' ⟨s0, s1, s2, s3, s4, s5, s6, s7, s8, s9, s10, s11, s12⟩
             go_simp
             with_reducible rfl
            rotate_left
            ·simp only [Act.put, sB, sC, sD, i64_w, i32_w]
             rfl
            refine take_ (i := 1) (N := some 38) (v := ?_) (a' := ?_) #[true, true, true, true, true, false, true, true, true, false, false, false, false, false, false, false] rfl rfl (take_ofW HT_.out HW_.out (by kernel_rfl)) (fun _ _ _ h => h) (Or.inl ⟨by rfl, ?_⟩) hHeld ?_ ?_
            rotate_left
            ·rintro w' ⟨s0, s1, s2, s3, s4, s5, s6, s7, s8, s9, s10, s11, s12⟩
             go_simp
             with_reducible rfl
            rotate_left
            ·simp only [Act.put, sB, sC, sD, i64_w, i32_w]
             rfl
            refine take_ (i := 5) (N := some 42) (v := ?_) (a' := ?_) #[true, true, true, true, true, true, true, true, true, false, false, false, false, false, false, false] rfl rfl (take_ofW HT_.out HW_.out (by kernel_rfl)) (fun _ _ _ h => h) (Or.inl ⟨by rfl, ?_⟩) hHeld ?_ ?_
            rotate_left
            ·rintro w' ⟨s0, s1, s2, s3, s4, s5, s6, s7, s8, s9, s10, s11, s12⟩
             go_simp
             with_reducible rfl
            rotate_left
            ·simp only [Act.put, sB, sC, sD, i64_w, i32_w]
             rfl
            refine take_ (i := 9) (N := some 46) (v := ?_) (a' := ?_) #[true, true, true, true, true, true, true, true, true, true, false, false, false, false, false, false] rfl rfl (take_ofW HT_.out HW_.out (by kernel_rfl)) (fun _ _ _ h => h) (Or.inl ⟨by rfl, ?_⟩) hHeld ?_ ?_
            rotate_left
            ·rintro w' ⟨s0, s1, s2, s3, s4, s5, s6, s7, s8, s9, s10, s11, s12⟩
             go_simp
             with_reducible rfl
            rotate_left
            ·simp only [Act.put, sB, sC, sD, i64_w, i32_w]
             rfl
            refine one_ (i := 10) (N := some 47) #[true, true, true, true, true, true, true, true, true, true, true, false, false, false, false, false] rfl rfl (one_of HT_.out (by kernel_rfl)) (by decide) (fun K hK => ?_)
            refine goes_ Try.func20 (by kernel_rfl) rfl #[.agg #[.int .i64 a0_0, .int .i64 a0_1, .int .i64 a0_2, .int .i64 a0_3, .int .i64 a0_4, .int .i64 a0_5, .int .i64 a0_6], .agg #[.bool x173000_2, .int .i64 x173001_2, .int .i64 x173002_2, .int .i64 x173003_2], .int .i64 (rd l2 x33_2), .int .i64 (rd l3 x33_2)] (by rfl) rfl rfl (by (try simp only [lA, lB, lC]); first | done | rfl | (simp only [lD, lE]; rfl)) ?_
            with_reducible refine (impl_HoldStep.calls k2 a0_0 a0_1 a0_2 a0_3 a0_4 a0_5 a0_6 x173000_2 x173001_2 x173002_2 x173003_2 (rd l2 x33_2) (rd l3 x33_2) t177 t178 t179 t180 true _ A38.out).mono ?_
            rintro e w42 ⟨rfl, hb⟩
            refine ⟨_, rfl, ?_⟩
            replace HO_11 := a_ (Kd.R_below (rk HO_11.out) hb)
            replace BK171 := a_ (blk_below (pk BK171.out) hb)
            replace BK172 := a_ (blk_below (pk BK172.out) hb)
            replace BK173 := a_ (blk_below (pk BK173.out) hb)
            replace HB := a_ (below_step (by repeat (with_reducible first | exact HB.out | refine bz ?_ (by assumption) | apply bA | apply bN | apply bD)) hb)
            (try clear hb)
            (try clear hb2)
            (try clear hk)
            (try clear hi)
            refine hK.out _ _ ⟨(blk_cell BK171.out 0).trans rfl, (blk_cell BK171.out 1).trans rfl, (blk_cell BK171.out 2).trans rfl, (blk_cell BK171.out 3).trans rfl, (blk_cell BK171.out 4).trans rfl, (blk_cell BK171.out 5).trans rfl, (blk_cell BK171.out 6).trans rfl, (blk_cell BK172.out 0).trans rfl, (blk_cell BK172.out 1).trans rfl, (blk_cell BK172.out 2).trans rfl, (blk_cell BK172.out 3).trans rfl, ((HB.out.cell (World.block_lt_of_cell? w _ hw175_0)).trans hw175_0), ((HB.out.cell (World.block_lt_of_cell? w _ hw176_0)).trans hw176_0)⟩ (fun hHeld => ?_)
            clear hK K
            refine norm_ (a' := ?_) ?_ ?_
            rotate_left
            ·show Act.put _ (some 47) _ = _
             simp only [Act.put, sB, sC, sD, i64_w, i32_w]
             rfl
            refine pure_ (i := 11) (N := some 36) (v := ?_) (a' := ?_) #[true, true, true, true, true, true, true, true, true, true, true, true, false, false, false, false] rfl rfl (any_of HT_.out (by kernel_rfl)) (fun _ _ _ h => h) (Or.inl ⟨by rfl, ?_⟩) ?_ ?_
            rotate_left
            ·intro w'
             go_simp
             with_reducible rfl
            rotate_left
            ·simp only [Act.put, sB, sC, sD, i64_w, i32_w]
             rfl
            refine pure_ (i := 12) (N := some 48) (v := ?_) (a' := ?_) #[true, true, true, true, true, true, true, true, true, true, true, true, true, false, false, false] rfl rfl (any_of HT_.out (by kernel_rfl)) (fun _ _ _ h => h) (Or.inl ⟨by rfl, ?_⟩) ?_ ?_
            rotate_left
            ·intro w'
             go_simp
             with_reducible rfl
            rotate_left
            ·simp only [Act.put, sB, sC, sD, i64_w, i32_w]
             rfl
            refine pure_ (i := 13) (N := some 49) (v := ?_) (a' := ?_) #[true, true, true, true, true, true, true, true, true, true, true, true, true, true, false, false] rfl rfl (any_of HT_.out (by kernel_rfl)) (fun _ _ _ h => h) (Or.inl ⟨by rfl, ?_⟩) ?_ ?_
            rotate_left
            ·intro w'
             go_simp
             with_reducible rfl
            rotate_left
            ·simp only [Act.put, sB, sC, sD, i64_w, i32_w]
             rfl
            refine last_ (i := 14) (N := none) #[true, true, true, true, true, true, true, true, true, true, true, true, true, true, true, false] rfl rfl (one_of HT_.out (by kernel_rfl)) (by decide) (fun K hK => ?_)
            have hs43 : w42.cell? ⟨gb172, 0, none⟩ = some (.bool x173000_2) := (blk_cell BK172.out 0).trans rfl
            have hfs43 := blk_frozen BK172.out 0
            have hns43_0 := NB171_172.out
            have hns43_2 := NB173_172.out
            have hms43_0 := NB172_171.out
            have hms43_2 := NB172_173.out
            have hs44 : w42.cell? ⟨gb172, 1, none⟩ = some (.int .i64 x173001_2) := (blk_cell BK172.out 1).trans rfl
            have hfs44 := blk_frozen BK172.out 1
            have hns44_0 := NB171_172.out
            have hns44_2 := NB173_172.out
            have hms44_0 := NB172_171.out
            have hms44_2 := NB172_173.out
            have hs45 : w42.cell? ⟨gb172, 2, none⟩ = some (.int .i64 x173002_2) := (blk_cell BK172.out 2).trans rfl
            have hfs45 := blk_frozen BK172.out 2
            have hns45_0 := NB171_172.out
            have hns45_2 := NB173_172.out
            have hms45_0 := NB172_171.out
            have hms45_2 := NB172_173.out
            have hs46 : w42.cell? ⟨gb172, 3, none⟩ = some (.int .i64 x173003_2) := (blk_cell BK172.out 3).trans rfl
            have hfs46 := blk_frozen BK172.out 3
            have hns46_0 := NB171_172.out
            have hns46_2 := NB173_172.out
            have hms46_0 := NB172_171.out
            have hms46_2 := NB172_173.out
            refine skip_ (w1 := ?_) ?_ ?_ ?_ ?_
            rotate_left
            ·rfl
            ·rfl
            ·go_simp
             rfl
            refine hK.out _ _ ?_
            clear hK K
            refine pure_ (i := 15) (N := some 13) (v := ?_) (a' := ?_) #[true, true, true, true, true, true, true, true, true, true, true, true, true, true, true, true] rfl rfl (any_of HT_.out (by kernel_rfl)) (fun _ _ _ h => h) (Or.inl ⟨by rfl, ?_⟩) ?_ ?_
            rotate_left
            ·intro w'
             go_simp
             with_reducible rfl
            rotate_left
            ·simp only [Act.put, sB, sC, sD, i64_w, i32_w]
             rfl
            refine done_ (done_of HT_.out (by kernel_rfl)) ?_
            have hnb47 := NB172_171.out
            have hnc47 := NB171_172.out
            have hnb48 := NB172_173.out
            have hnc48 := NB173_172.out
            have hcz49_0 : _ = some (Value.bool x173000_2) := (blk_cell BK172.out 0).trans rfl
            have hcz49_1 : _ = some (Value.int .i64 x173001_2) := (blk_cell BK172.out 1).trans rfl
            have hcz49_2 : _ = some (Value.int .i64 x173002_2) := (blk_cell BK172.out 2).trans rfl
            have hcz49_3 : _ = some (Value.int .i64 x173003_2) := (blk_cell BK172.out 3).trans rfl
            have hfz49_0 := blk_frozen BK172.out 0
            have hfz49_1 := blk_frozen BK172.out 1
            have hfz49_2 := blk_frozen BK172.out 2
            have hfz49_3 := blk_frozen BK172.out 3
            try go_wp2_with (first | ((with_reducible refine gate_builtin (b := .append) (xs := #[.tmp 53, .tmp 56]) rfl ?_); (try (refine gate_guard (by rfl) ?_; dsimp only)); at_builtin; refine Kd.R_append (Kd.int .i64) (w0 := w) w.heap.size rfl (.tmp 53) (.tmp 56) 26 3 (.int .i64 0) 8 rfl Try.underlying26 info3 rfl (by decide) (by omega) u11 x11_2 t180 [.int .i64 t180] (fun _ => True) (fun _ => False) rfl (by first | (go_simp; done) | (go_simp; rfl)) ?aP (fun _ hk => hk.elim) ?aF ?aO ?aB ?aS ?aL ?_; (case aP => exact rfl); (case aB => exact (by repeat (with_reducible first | exact HB.out | refine bz ?_ (by assumption) | apply bA | apply bN | apply bD))); (case aF => exact (fun _ _ => trivial)); (case aO => exact (rk (Kd.R_mono (fr4 HO_11.out BK172.out (by decide) 0 (.bool t177) 1 (.int .i64 t178) 2 (.int .i64 t179) 3 (.int .i64 t180)) (fun _ hk => trivial)))); (case aS => exact (bs HB.out)); (case aL => have := LMc40.out; omega); intro v183 w50 ho hb hg hat; rw [← Ny182.out] at ho; replace BK171 := a_ (blk_grown (g := gb171) (o := .cells #[.int .i64 a0_0, .int .i64 a0_1, .int .i64 a0_2, .int .i64 a0_3, .int .i64 a0_4, .int .i64 a0_5, .int .i64 a0_6] 30 (0, 0)) (by refine pk ?_; refine blk_far ?_ NB171_172.out _; refine pk ?_; refine blk_far ?_ NB171_172.out _; refine pk ?_; refine blk_far ?_ NB171_172.out _; refine pk ?_; refine blk_far ?_ NB171_172.out _; refine pk ?_; exact BK171.out) hg (Kd.R_ne HO_11.out BK171.out (by decide))); replace BK172 := a_ (blk_grown (g := gb172) (o := .cells #[.bool t177, .int .i64 t178, .int .i64 t179, .int .i64 t180] 27 (0, 0)) (by refine pk ?_; refine blk_put (cs := #[.bool t177, .int .i64 t178, .int .i64 t179, .int .i64 x173003_2]) ?_ 3 _ rfl; refine pk ?_; refine blk_put (cs := #[.bool t177, .int .i64 t178, .int .i64 x173002_2, .int .i64 x173003_2]) ?_ 2 _ rfl; refine pk ?_; refine blk_put (cs := #[.bool t177, .int .i64 x173001_2, .int .i64 x173002_2, .int .i64 x173003_2]) ?_ 1 _ rfl; refine pk ?_; refine blk_put (cs := #[.bool x173000_2, .int .i64 x173001_2, .int .i64 x173002_2, .int .i64 x173003_2]) ?_ 0 _ rfl; refine pk ?_; exact BK172.out) hg (Kd.R_ne HO_11.out BK172.out (by decide))); replace BK173 := a_ (blk_grown (g := gb173) (o := .cells #[.bool x174000_2, .int .i64 x174001_2, .int .i64 x174002_2, .int .i64 x174003_2] 27 (0, 0)) (by refine pk ?_; refine blk_far ?_ NB173_172.out _; refine pk ?_; refine blk_far ?_ NB173_172.out _; refine pk ?_; refine blk_far ?_ NB173_172.out _; refine pk ?_; refine blk_far ?_ NB173_172.out _; refine pk ?_; exact BK173.out) hg (Kd.R_ne HO_11.out BK173.out (by decide))); replace HB := a_ (hb); have HO184 := a_ (ho); clear HO_11 ho hb hg hat))
            go_roundg k2
            case measure => have := HJ4.out; have := HK2.out; omega
            case rel => exact ⟨(y182), (wrap64 (x33_2 + 1)), (t177), (t178), (t179), (t180), (x174000_2), (x174001_2), (x174002_2), (x174003_2), (by first | rfl | (simp; done) | (simp [*]; done)), H', ⟨by have := HJ4.out; have := HK2.out; omega⟩, ⟨rk (HO184.out)⟩, ⟨pk BK171.out⟩, ⟨pk BK172.out⟩, ⟨pk BK173.out⟩, ⟨by repeat (with_reducible first | exact HB.out | refine bz ?_ (by assumption) | apply bA | apply bN | apply bD)⟩⟩
           ·rw [if_neg c40] at H
            exact absurd H (by simp)
          ·replace c39 := Bool.eq_false_iff.mpr c39
           subst c39
           have H1 : (some (([] : List Int), false, 0, 0, 0, false)) = some (r1, r2, r3, r4, r5, r6) := by rw [if_neg (show ¬ (false = true) by decide)] at H; exact H
           clear H
           have H := H1
           clear H1
           simp only [Option.some.injEq, Prod.mk.injEq] at H
           obtain ⟨rfl, rfl, rfl, rfl, rfl, rfl⟩ := H
           try go_wp2
           replace HO_11 := a_ (Kd.R_drew HO_11.out)
           replace BK171 := a_ (blk_drew BK171.out)
           replace BK172 := a_ (blk_drew BK172.out)
           replace BK173 := a_ (blk_drew BK173.out)
           replace HB := a_ (below_drew1 HB.out)
           have p175 : 0 ≤ (x33_2 : Int) := of_decide_eq_true (by first | (with_reducible assumption) | assumption)
           have q175 : x33_2 < (l2.length : Int) := of_decide_eq_true (by first | (with_reducible assumption) | assumption)
           obtain ⟨ad175, e175, hx175_0⟩ := Kd.at_int HR2.out x33_2 p175 q175
           have hw175_0 := hx175_0
           cases e175
           replace hx175_0 := (HB.out.cell (World.block_lt_of_cell? w _ hx175_0)).trans hx175_0
           replace p175 := eq_true p175
           replace q175 := eq_true q175
           have p176 : 0 ≤ (x33_2 : Int) := of_decide_eq_true (by first | (with_reducible assumption) | assumption)
           have q176 : x33_2 < (l3.length : Int) := of_decide_eq_true (by first | (with_reducible assumption) | assumption)
           obtain ⟨ad176, e176, hx176_0⟩ := Kd.at_int HR3.out x33_2 p176 q176
           have hw176_0 := hx176_0
           cases e176
           replace hx176_0 := (HB.out.cell (World.block_lt_of_cell? w _ hx176_0)).trans hx176_0
           replace p176 := eq_true p176
           replace q176 := eq_true q176
           refine start_ (n := 16) (S := fun w' => w'.cell? ⟨gb171, 0, none⟩ = some (.int .i64 a0_0) ∧ w'.cell? ⟨gb171, 1, none⟩ = some (.int .i64 a0_1) ∧ w'.cell? ⟨gb171, 2, none⟩ = some (.int .i64 a0_2) ∧ w'.cell? ⟨gb171, 3, none⟩ = some (.int .i64 a0_3) ∧ w'.cell? ⟨gb171, 4, none⟩ = some (.int .i64 a0_4) ∧ w'.cell? ⟨gb171, 5, none⟩ = some (.int .i64 a0_5) ∧ w'.cell? ⟨gb171, 6, none⟩ = some (.int .i64 a0_6) ∧ w'.cell? ⟨gb172, 0, none⟩ = some (.bool x173000_2) ∧ w'.cell? ⟨gb172, 1, none⟩ = some (.int .i64 x173001_2) ∧ w'.cell? ⟨gb172, 2, none⟩ = some (.int .i64 x173002_2) ∧ w'.cell? ⟨gb172, 3, none⟩ = some (.int .i64 x173003_2) ∧ w'.cell? (ad175.add (x33_2).toNat) = some (.int .i64 (rd l2 x33_2)) ∧ w'.cell? (ad176.add (x33_2).toNat) = some (.int .i64 (rd l3 x33_2))) (ds := [14]) #[false, false, false, false, false, false, false, false, false, false, false, false, false, false, false, false] (by kernel_rfl) rfl rfl ⟨(blk_cell BK171.out 0).trans rfl, (blk_cell BK171.out 1).trans rfl, (blk_cell BK171.out 2).trans rfl, (blk_cell BK171.out 3).trans rfl, (blk_cell BK171.out 4).trans rfl, (blk_cell BK171.out 5).trans rfl, (blk_cell BK171.out 6).trans rfl, (blk_cell BK172.out 0).trans rfl, (blk_cell BK172.out 1).trans rfl, (blk_cell BK172.out 2).trans rfl, (blk_cell BK172.out 3).trans rfl, ((HB.out.cell (World.block_lt_of_cell? w _ hw175_0)).trans hw175_0), ((HB.out.cell (World.block_lt_of_cell? w _ hw176_0)).trans hw176_0)⟩ (fun hHeld => ?_); refine with_tabW impl_RunHold.tab8 impl_RunHold.bits8 (fun HT_ HW_ => ?_)
           generalize wr.drew = w51 at HO_11 BK171 BK172 BK173 HB hx175_0 hx176_0 hHeld ⊢
           refine pure_ (i := 2) (N := some 39) (v := ?_) (a' := ?_) #[false, false, true, false, false, false, false, false, false, false, false, false, false, false, false, false] rfl rfl (any_of HT_.out (by kernel_rfl)) (fun _ _ _ h => h) (Or.inl ⟨by rfl, ?_⟩) ?_ ?_
           rotate_left
           ·intro w'
            go_simp
            with_reducible rfl
           rotate_left
           ·simp only [Act.put, sB, sC, sD, i64_w, i32_w]
            rfl
           refine pure_ (i := 3) (N := some 40) (v := ?_) (a' := ?_) #[false, false, true, true, false, false, false, false, false, false, false, false, false, false, false, false] rfl rfl (any_of HT_.out (by kernel_rfl)) (fun _ _ _ h => h) (Or.inl ⟨by rfl, ?_⟩) ?_ ?_
           rotate_left
           ·intro w'
            go_simp
            with_reducible rfl
           rotate_left
           ·simp only [Act.put, sB, sC, sD, i64_w, i32_w]
            rfl
           refine pure_ (i := 4) (N := some 41) (v := ?_) (a' := ?_) #[false, false, true, true, true, false, false, false, false, false, false, false, false, false, false, false] rfl rfl (any_of HT_.out (by kernel_rfl)) (fun _ _ _ h => h) (Or.inl ⟨by rfl, ?_⟩) ?_ ?_
           rotate_left
           ·intro w'
            go_simp
            with_reducible rfl
           rotate_left
           ·simp only [Act.put, sB, sC, sD, i64_w, i32_w]
            rfl
           refine pure_ (i := 6) (N := some 43) (v := ?_) (a' := ?_) #[false, false, true, true, true, false, true, false, false, false, false, false, false, false, false, false] rfl rfl (any_of HT_.out (by kernel_rfl)) (fun _ _ _ h => h) (Or.inl ⟨by rfl, ?_⟩) ?_ ?_
           rotate_left
           ·intro w'
            go_simp
            with_reducible rfl
           rotate_left
           ·simp only [Act.put, sB, sC, sD, i64_w, i32_w]
            rfl
           refine pure_ (i := 7) (N := some 44) (v := ?_) (a' := ?_) #[false, false, true, true, true, false, true, true, false, false, false, false, false, false, false, false] rfl rfl (any_of HT_.out (by kernel_rfl)) (fun _ _ _ h => h) (Or.inl ⟨by rfl, ?_⟩) ?_ ?_
           rotate_left
           ·intro w'
            go_simp
            with_reducible rfl
           rotate_left
           ·simp only [Act.put, sB, sC, sD, i64_w, i32_w]
            rfl
           refine pure_ (i := 8) (N := some 45) (v := ?_) (a' := ?_) #[false, false, true, true, true, false, true, true, true, false, false, false, false, false, false, false] rfl rfl (any_of HT_.out (by kernel_rfl)) (fun _ _ _ h => h) (Or.inl ⟨by rfl, ?_⟩) ?_ ?_
           rotate_left
           ·intro w'
            go_simp
            with_reducible rfl
           rotate_left
           ·simp only [Act.put, sB, sC, sD, i64_w, i32_w]
            rfl
           refine take_ (i := 0) (N := some 37) (v := ?_) (a' := ?_) #[true, false, true, true, true, false, true, true, true, false, false, false, false, false, false, false] rfl rfl (take_ofW HT_.out HW_.out (by kernel_rfl)) (fun _ _ _ h => h) (Or.inl ⟨by rfl, ?_⟩) hHeld ?_ ?_
           rotate_left
           ·rintro w' ⟨s0, s1, s2, s3, s4, s5, s6, s7, s8, s9, s10, s11, s12⟩
            go_simp
            with_reducible rfl
           rotate_left
           ·simp only [Act.put, sB, sC, sD, i64_w, i32_w]
            rfl
           refine take_ (i := 1) (N := some 38) (v := ?_) (a' := ?_) #[true, true, true, true, true, false, true, true, true, false, false, false, false, false, false, false] rfl rfl (take_ofW HT_.out HW_.out (by kernel_rfl)) (fun _ _ _ h => h) (Or.inl ⟨by rfl, ?_⟩) hHeld ?_ ?_
           rotate_left
           ·rintro w' ⟨s0, s1, s2, s3, s4, s5, s6, s7, s8, s9, s10, s11, s12⟩
            go_simp
            with_reducible rfl
           rotate_left
           ·simp only [Act.put, sB, sC, sD, i64_w, i32_w]
            rfl
           refine take_ (i := 5) (N := some 42) (v := ?_) (a' := ?_) #[true, true, true, true, true, true, true, true, true, false, false, false, false, false, false, false] rfl rfl (take_ofW HT_.out HW_.out (by kernel_rfl)) (fun _ _ _ h => h) (Or.inl ⟨by rfl, ?_⟩) hHeld ?_ ?_
           rotate_left
           ·rintro w' ⟨s0, s1, s2, s3, s4, s5, s6, s7, s8, s9, s10, s11, s12⟩
            go_simp
            with_reducible rfl
           rotate_left
           ·simp only [Act.put, sB, sC, sD, i64_w, i32_w]
            rfl
           refine take_ (i := 9) (N := some 46) (v := ?_) (a' := ?_) #[true, true, true, true, true, true, true, true, true, true, false, false, false, false, false, false] rfl rfl (take_ofW HT_.out HW_.out (by kernel_rfl)) (fun _ _ _ h => h) (Or.inl ⟨by rfl, ?_⟩) hHeld ?_ ?_
           rotate_left
           ·rintro w' ⟨s0, s1, s2, s3, s4, s5, s6, s7, s8, s9, s10, s11, s12⟩
            go_simp
            with_reducible rfl
           rotate_left
           ·simp only [Act.put, sB, sC, sD, i64_w, i32_w]
            rfl
           refine one_ (i := 10) (N := some 47) #[true, true, true, true, true, true, true, true, true, true, true, false, false, false, false, false] rfl rfl (one_of HT_.out (by kernel_rfl)) (by decide) (fun K hK => ?_)
           refine goes_ Try.func20 (by kernel_rfl) rfl #[.agg #[.int .i64 a0_0, .int .i64 a0_1, .int .i64 a0_2, .int .i64 a0_3, .int .i64 a0_4, .int .i64 a0_5, .int .i64 a0_6], .agg #[.bool x173000_2, .int .i64 x173001_2, .int .i64 x173002_2, .int .i64 x173003_2], .int .i64 (rd l2 x33_2), .int .i64 (rd l3 x33_2)] (by rfl) rfl rfl (by (try simp only [lA, lB, lC]); first | done | rfl | (simp only [lD, lE]; rfl)) ?_
           with_reducible refine (impl_HoldStep.calls k2 a0_0 a0_1 a0_2 a0_3 a0_4 a0_5 a0_6 x173000_2 x173001_2 x173002_2 x173003_2 (rd l2 x33_2) (rd l3 x33_2) t177 t178 t179 t180 false _ A38.out).mono ?_
           rintro e w52 ⟨rfl, hb⟩
           refine ⟨_, rfl, ?_⟩
           replace HO_11 := a_ (Kd.R_below (rk HO_11.out) hb)
           replace BK171 := a_ (blk_below (pk BK171.out) hb)
           replace BK172 := a_ (blk_below (pk BK172.out) hb)
           replace BK173 := a_ (blk_below (pk BK173.out) hb)
           replace HB := a_ (below_step (by repeat (with_reducible first | exact HB.out | refine bz ?_ (by assumption) | apply bA | apply bN | apply bD)) hb)
           (try clear hb)
           (try clear hb2)
           (try clear hk)
           (try clear hi)
           refine hK.out _ _ ⟨(blk_cell BK171.out 0).trans rfl, (blk_cell BK171.out 1).trans rfl, (blk_cell BK171.out 2).trans rfl, (blk_cell BK171.out 3).trans rfl, (blk_cell BK171.out 4).trans rfl, (blk_cell BK171.out 5).trans rfl, (blk_cell BK171.out 6).trans rfl, (blk_cell BK172.out 0).trans rfl, (blk_cell BK172.out 1).trans rfl, (blk_cell BK172.out 2).trans rfl, (blk_cell BK172.out 3).trans rfl, ((HB.out.cell (World.block_lt_of_cell? w _ hw175_0)).trans hw175_0), ((HB.out.cell (World.block_lt_of_cell? w _ hw176_0)).trans hw176_0)⟩ (fun hHeld => ?_)
           clear hK K
           refine norm_ (a' := ?_) ?_ ?_
           rotate_left
           ·show Act.put _ (some 47) _ = _
            simp only [Act.put, sB, sC, sD, i64_w, i32_w]
            rfl
           refine pure_ (i := 11) (N := some 36) (v := ?_) (a' := ?_) #[true, true, true, true, true, true, true, true, true, true, true, true, false, false, false, false] rfl rfl (any_of HT_.out (by kernel_rfl)) (fun _ _ _ h => h) (Or.inl ⟨by rfl, ?_⟩) ?_ ?_
           rotate_left
           ·intro w'
            go_simp
            with_reducible rfl
           rotate_left
           ·simp only [Act.put, sB, sC, sD, i64_w, i32_w]
            rfl
           refine pure_ (i := 12) (N := some 48) (v := ?_) (a' := ?_) #[true, true, true, true, true, true, true, true, true, true, true, true, true, false, false, false] rfl rfl (any_of HT_.out (by kernel_rfl)) (fun _ _ _ h => h) (Or.inl ⟨by rfl, ?_⟩) ?_ ?_
           rotate_left
           ·intro w'
            go_simp
            with_reducible rfl
           rotate_left
           ·simp only [Act.put, sB, sC, sD, i64_w, i32_w]
            rfl
           refine pure_ (i := 13) (N := some 49) (v := ?_) (a' := ?_) #[true, true, true, true, true, true, true, true, true, true, true, true, true, true, false, false] rfl rfl (any_of HT_.out (by kernel_rfl)) (fun _ _ _ h => h) (Or.inl ⟨by rfl, ?_⟩) ?_ ?_
           rotate_left
           ·intro w'
            go_simp
            with_reducible rfl
           rotate_left
           ·simp only [Act.put, sB, sC, sD, i64_w, i32_w]
            rfl
           refine last_ (i := 14) (N := none) #[true, true, true, true, true, true, true, true, true, true, true, true, true, true, true, false] rfl rfl (one_of HT_.out (by kernel_rfl)) (by decide) (fun K hK => ?_)
           have hs53 : w52.cell? ⟨gb172, 0, none⟩ = some (.bool x173000_2) := (blk_cell BK172.out 0).trans rfl
           have hfs53 := blk_frozen BK172.out 0
           have hns53_0 := NB171_172.out
           have hns53_2 := NB173_172.out
           have hms53_0 := NB172_171.out
           have hms53_2 := NB172_173.out
           have hs54 : w52.cell? ⟨gb172, 1, none⟩ = some (.int .i64 x173001_2) := (blk_cell BK172.out 1).trans rfl
           have hfs54 := blk_frozen BK172.out 1
           have hns54_0 := NB171_172.out
           have hns54_2 := NB173_172.out
           have hms54_0 := NB172_171.out
           have hms54_2 := NB172_173.out
           have hs55 : w52.cell? ⟨gb172, 2, none⟩ = some (.int .i64 x173002_2) := (blk_cell BK172.out 2).trans rfl
           have hfs55 := blk_frozen BK172.out 2
           have hns55_0 := NB171_172.out
           have hns55_2 := NB173_172.out
           have hms55_0 := NB172_171.out
           have hms55_2 := NB172_173.out
           have hs56 : w52.cell? ⟨gb172, 3, none⟩ = some (.int .i64 x173003_2) := (blk_cell BK172.out 3).trans rfl
           have hfs56 := blk_frozen BK172.out 3
           have hns56_0 := NB171_172.out
           have hns56_2 := NB173_172.out
           have hms56_0 := NB172_171.out
           have hms56_2 := NB172_173.out
           refine skip_ (w1 := ?_) ?_ ?_ ?_ ?_
           rotate_left
           ·rfl
           ·rfl
           ·go_simp
            rfl
           refine hK.out _ _ ?_
           clear hK K
           refine pure_ (i := 15) (N := some 13) (v := ?_) (a' := ?_) #[true, true, true, true, true, true, true, true, true, true, true, true, true, true, true, true] rfl rfl (any_of HT_.out (by kernel_rfl)) (fun _ _ _ h => h) (Or.inl ⟨by rfl, ?_⟩) ?_ ?_
           rotate_left
           ·intro w'
            go_simp
            with_reducible rfl
           rotate_left
           ·simp only [Act.put, sB, sC, sD, i64_w, i32_w]
            rfl
           refine done_ (done_of HT_.out (by kernel_rfl)) ?_
           have hnb57 := NB173_171.out
           have hnc57 := NB171_173.out
           have hnb58 := NB173_172.out
           have hnc58 := NB172_173.out
           have hcz59_0 : _ = some (Value.bool x174000_2) := (blk_cell BK173.out 0).trans rfl
           have hcz59_1 : _ = some (Value.int .i64 x174001_2) := (blk_cell BK173.out 1).trans rfl
           have hcz59_2 : _ = some (Value.int .i64 x174002_2) := (blk_cell BK173.out 2).trans rfl
           have hcz59_3 : _ = some (Value.int .i64 x174003_2) := (blk_cell BK173.out 3).trans rfl
           have hfz59_0 := blk_frozen BK173.out 0
           have hfz59_1 := blk_frozen BK173.out 1
           have hfz59_2 := blk_frozen BK173.out 2
           have hfz59_3 := blk_frozen BK173.out 3
           try go_wp2
           refine bodyPost_ret (results_list (rs := [.tmp 8, .cell 9 27, .tmp 10]) rfl (by simp) (.tmp (.cell gb173 27 #[.bool false, .int .i64 0, .int .i64 0, .int .i64 0] (0, 0) _ rfl (by refine pk ?_; refine blk_put (cs := #[.bool false, .int .i64 0, .int .i64 0, .int .i64 x174003_2]) ?_ 3 _ rfl; refine pk ?_; refine blk_put (cs := #[.bool false, .int .i64 0, .int .i64 x174002_2, .int .i64 x174003_2]) ?_ 2 _ rfl; refine pk ?_; refine blk_put (cs := #[.bool false, .int .i64 x174001_2, .int .i64 x174002_2, .int .i64 x174003_2]) ?_ 1 _ rfl; refine pk ?_; refine blk_put (cs := #[.bool x174000_2, .int .i64 x174001_2, .int .i64 x174002_2, .int .i64 x174003_2]) ?_ 0 _ rfl; refine pk ?_; refine blk_far ?_ NB173_172.out _; refine pk ?_; refine blk_far ?_ NB173_172.out _; refine pk ?_; refine blk_far ?_ NB173_172.out _; refine pk ?_; refine blk_far ?_ NB173_172.out _; refine pk ?_; exact BK173.out) Try.underlying27 rfl (by kernel_rfl) (.tmp .nil)))) rfl ?_
           exact ⟨_, by first | rfl | (simp [errW_none, errW_some] <;> rfl) | (simp [*, errW_none, errW_some] <;> rfl), by first | exact Kd.R_nil _ _ _ _ _ | exact Kd.N_nil _ _ _ _ _ | exact Kd.V_nil _ _ _ _ _ | exact Kd.Q_nil _ _ _ _ _ | exact Kd.S_nil _ _ _ _ _, by repeat (with_reducible first | exact HB.out | refine bz ?_ (by assumption) | apply bA | apply bN | apply bD)⟩
         ·rw [if_neg c37] at H
          exact absurd H (by simp)
        ·rw [if_neg c36] at H
         exact absurd H (by simp)
       ·rw [if_neg c35] at H
        exact absurd H (by simp)
      ·rw [if_neg c34] at H
       have c34b0 : decide (x33_2 < (l2.length : Int)) = false := decide_eq_false c34
       clear c34
       simp only [Option.some.injEq, Prod.mk.injEq] at H
       obtain ⟨rfl, rfl, rfl, rfl, rfl, rfl⟩ := H
       try go_wp2
       replace HO_11 := a_ (Kd.R_drew HO_11.out)
       replace BK171 := a_ (blk_drew BK171.out)
       replace BK172 := a_ (blk_drew BK172.out)
       replace BK173 := a_ (blk_drew BK173.out)
       replace HB := a_ (below_drew1 HB.out)
       refine start_ (n := 5) (S := fun w' => w'.cell? ⟨gb172, 0, none⟩ = some (.bool x173000_2) ∧ w'.cell? ⟨gb172, 1, none⟩ = some (.int .i64 x173001_2) ∧ w'.cell? ⟨gb172, 2, none⟩ = some (.int .i64 x173002_2) ∧ w'.cell? ⟨gb172, 3, none⟩ = some (.int .i64 x173003_2)) (ds := []) #[false, false, false, false, false] (by kernel_rfl) rfl rfl ⟨(blk_cell BK172.out 0).trans rfl, (blk_cell BK172.out 1).trans rfl, (blk_cell BK172.out 2).trans rfl, (blk_cell BK172.out 3).trans rfl⟩ (fun hHeld => ?_)
       generalize wr.drew = w60 at HO_11 BK171 BK172 BK173 HB hHeld ⊢
       refine pure_ (i := 0) (N := some 59) (v := ?_) (a' := ?_) #[true, false, false, false, false] rfl rfl (by kernel_rfl) (fun _ _ _ h => h) (Or.inl ⟨by rfl, ?_⟩) ?_ ?_
       rotate_left
       ·intro w'
        go_simp
        with_reducible rfl
       rotate_left
       ·simp only [Act.put, sB, sC, sD, i64_w, i32_w]
        rfl
       refine pure_ (i := 2) (N := some 8) (v := ?_) (a' := ?_) #[true, false, true, false, false] rfl rfl (by kernel_rfl) (fun _ _ _ h => h) (Or.inl ⟨by rfl, ?_⟩) ?_ ?_
       rotate_left
       ·intro w'
        go_simp
        with_reducible rfl
       rotate_left
       ·simp only [Act.put, sB, sC, sD, i64_w, i32_w]
        rfl
       refine take_ (i := 1) (N := some 60) (v := ?_) (a' := ?_) #[true, true, true, false, false] rfl rfl (by kernel_rfl) (fun _ _ _ h => h) (Or.inl ⟨by rfl, ?_⟩) hHeld ?_ ?_
       rotate_left
       ·rintro w' ⟨s0, s1, s2, s3⟩
        go_simp
        with_reducible rfl
       rotate_left
       ·simp only [Act.put, sB, sC, sD, i64_w, i32_w]
        rfl
       refine one_ (i := 3) (N := none) #[true, true, true, true, false] rfl rfl (by kernel_rfl) (by decide) (fun K hK => ?_)
       have hs61 : w60.cell? ⟨gb173, 0, none⟩ = some (.bool x174000_2) := (blk_cell BK173.out 0).trans rfl
       have hfs61 := blk_frozen BK173.out 0
       have hns61_0 := NB171_173.out
       have hns61_1 := NB172_173.out
       have hms61_0 := NB173_171.out
       have hms61_1 := NB173_172.out
       have hs62 : w60.cell? ⟨gb173, 1, none⟩ = some (.int .i64 x174001_2) := (blk_cell BK173.out 1).trans rfl
       have hfs62 := blk_frozen BK173.out 1
       have hns62_0 := NB171_173.out
       have hns62_1 := NB172_173.out
       have hms62_0 := NB173_171.out
       have hms62_1 := NB173_172.out
       have hs63 : w60.cell? ⟨gb173, 2, none⟩ = some (.int .i64 x174002_2) := (blk_cell BK173.out 2).trans rfl
       have hfs63 := blk_frozen BK173.out 2
       have hns63_0 := NB171_173.out
       have hns63_1 := NB172_173.out
       have hms63_0 := NB173_171.out
       have hms63_1 := NB173_172.out
       have hs64 : w60.cell? ⟨gb173, 3, none⟩ = some (.int .i64 x174003_2) := (blk_cell BK173.out 3).trans rfl
       have hfs64 := blk_frozen BK173.out 3
       have hns64_0 := NB171_173.out
       have hns64_1 := NB172_173.out
       have hms64_0 := NB173_171.out
       have hms64_1 := NB173_172.out
       refine skip_ (w1 := ?_) ?_ ?_ ?_ ?_
       rotate_left
       ·rfl
       ·rfl
       ·go_simp
        rfl
       refine hK.out _ _ ⟨((cell_far (p := ⟨gb173, _, none⟩) NB172_173.out _).trans (((cell_far (p := ⟨gb173, _, none⟩) NB172_173.out _).trans (((cell_far (p := ⟨gb173, _, none⟩) NB172_173.out _).trans (((cell_far (p := ⟨gb173, _, none⟩) NB172_173.out _).trans (hHeld.1)))))))), ((cell_far (p := ⟨gb173, _, none⟩) NB172_173.out _).trans (((cell_far (p := ⟨gb173, _, none⟩) NB172_173.out _).trans (((cell_far (p := ⟨gb173, _, none⟩) NB172_173.out _).trans (((cell_far (p := ⟨gb173, _, none⟩) NB172_173.out _).trans (hHeld.2.1)))))))), ((cell_far (p := ⟨gb173, _, none⟩) NB172_173.out _).trans (((cell_far (p := ⟨gb173, _, none⟩) NB172_173.out _).trans (((cell_far (p := ⟨gb173, _, none⟩) NB172_173.out _).trans (((cell_far (p := ⟨gb173, _, none⟩) NB172_173.out _).trans (hHeld.2.2.1)))))))), ((cell_far (p := ⟨gb173, _, none⟩) NB172_173.out _).trans (((cell_far (p := ⟨gb173, _, none⟩) NB172_173.out _).trans (((cell_far (p := ⟨gb173, _, none⟩) NB172_173.out _).trans (((cell_far (p := ⟨gb173, _, none⟩) NB172_173.out _).trans (hHeld.2.2.2))))))))⟩ (fun hHeld => ?_)
       clear hK K
       refine pure_ (i := 4) (N := some 10) (v := ?_) (a' := ?_) #[true, true, true, true, true] rfl rfl (by kernel_rfl) (fun _ _ _ h => h) (Or.inl ⟨by rfl, ?_⟩) ?_ ?_
       rotate_left
       ·intro w'
        go_simp
        with_reducible rfl
       rotate_left
       ·simp only [Act.put, sB, sC, sD, i64_w, i32_w]
        rfl
       refine done_ (by kernel_rfl) ?_
       try go_wp2
       refine bodyPost_ret (results_list (rs := [.tmp 8, .cell 9 27, .tmp 10]) rfl (by simp) (.tmp (.cell gb173 27 #[.bool x173000_2, .int .i64 x173001_2, .int .i64 x173002_2, .int .i64 x173003_2] (0, 0) _ rfl (by refine pk ?_; refine blk_put (cs := #[.bool x173000_2, .int .i64 x173001_2, .int .i64 x173002_2, .int .i64 x174003_2]) ?_ 3 _ rfl; refine pk ?_; refine blk_put (cs := #[.bool x173000_2, .int .i64 x173001_2, .int .i64 x174002_2, .int .i64 x174003_2]) ?_ 2 _ rfl; refine pk ?_; refine blk_put (cs := #[.bool x173000_2, .int .i64 x174001_2, .int .i64 x174002_2, .int .i64 x174003_2]) ?_ 1 _ rfl; refine pk ?_; refine blk_put (cs := #[.bool x174000_2, .int .i64 x174001_2, .int .i64 x174002_2, .int .i64 x174003_2]) ?_ 0 _ rfl; refine pk ?_; exact BK173.out) Try.underlying27 rfl (by kernel_rfl) (.tmp .nil)))) rfl ?_
       exact ⟨_, by first | rfl | (simp [errW_none, errW_some] <;> rfl) | (simp [*, errW_none, errW_some] <;> rfl), by refine rk ?_; exact Kd.R_mono (fr4 HO_11.out BK173.out (by decide) 0 (.bool x173000_2) 1 (.int .i64 x173001_2) 2 (.int .i64 x173002_2) 3 (.int .i64 x173003_2)) (fun _ hk => trivial), by repeat (with_reducible first | exact HB.out | refine bz ?_ (by assumption) | apply bA | apply bN | apply bD)⟩

end Go.Proofs.Ytineniimpdjpnaa.PFnExactRunHold
