-- PRINTED BY print.sh 35421559b90ae4d0a3588c463048766b98c2df88dd9212a6774a882060cdf62d: not written by this session
import Derived.Test.YtonafpbnjgdlgaaPFnExactLoopAtx0
import Derived.Test.YtonafpbnjgdlgaaPFnExactLoopAtx1
namespace Go.Proofs.Ytonafpbnjgdlgaa.PFnExactLoopAt
open Go.RowKit Go.Proofs.YtonafpbnjgdlgaaW.PrintWords Go.Proofs.YtonafpbnjgdlgaaW.PrintLast Go.Proofs.YtonafpbnjgdlgaaW.PrintMore
attribute [local go_sem] max2_int min2_int max_two min_two max_three min_three max_four min_four   -- for this text's walks alone
set_option linter.unusedVariables false
set_option linter.unusedSimpArgs false

/-! ### spec_LoopAt: function 12 -/
mutual
def spec_LoopAt.l0 : Nat → List (S60) → Int → Bool → List (S60) → Int → Int → Int → Int → Int → Int → Int → Int → Int → Option (Int × Int × Int × Int × Int × Int × Int × Bool)
  | 0, _, _, _, _, _, _, _, _, _, _, _, _, _ => none
  | k + 1, x0, x1, x7, x15, x16, x17, x104000, x104001, x104002, x104003, x104004, x104005, x104006 => if x17 < x16 then (if 0 ≤ x17 then (if x17 < (x15.length : Int) then ((spec_GoodLoop.f ((rd_T60 x15 x17).f1.f0) ((rd_T60 x15 x17).f1.f1) ((rd_T60 x15 x17).f1.f2) ((rd_T60 x15 x17).f1.f3) ((rd_T60 x15 x17).f1.f4) ((rd_T60 x15 x17).f1.f5) ((rd_T60 x15 x17).f1.f6)).bind fun t106 => (if t106 = true then (if x17 > 0 then (if 0 ≤ (wrap64 (x17 - 1)) then (if (wrap64 (x17 - 1)) < (x0.length : Int) then (spec_LoopAt.j1 k x0 x1 x7 x15 x16 x17 (decide (((rd_T60 x0 (wrap64 (x17 - 1))).f0) ≥ ((rd_T60 x15 x17).f0))) x104000 x104001 x104002 x104003 x104004 x104005 x104006 ((rd_T60 x15 x17).f0) ((rd_T60 x15 x17).f1.f0) ((rd_T60 x15 x17).f1.f1) ((rd_T60 x15 x17).f1.f2) ((rd_T60 x15 x17).f1.f3) ((rd_T60 x15 x17).f1.f4) ((rd_T60 x15 x17).f1.f5) ((rd_T60 x15 x17).f1.f6)) else (none)) else (none)) else (spec_LoopAt.j1 k x0 x1 x7 x15 x16 x17 false x104000 x104001 x104002 x104003 x104004 x104005 x104006 ((rd_T60 x15 x17).f0) ((rd_T60 x15 x17).f1.f0) ((rd_T60 x15 x17).f1.f1) ((rd_T60 x15 x17).f1.f2) ((rd_T60 x15 x17).f1.f3) ((rd_T60 x15 x17).f1.f4) ((rd_T60 x15 x17).f1.f5) ((rd_T60 x15 x17).f1.f6))) else (spec_LoopAt.j1 k x0 x1 x7 x15 x16 x17 true x104000 x104001 x104002 x104003 x104004 x104005 x104006 ((rd_T60 x15 x17).f0) ((rd_T60 x15 x17).f1.f0) ((rd_T60 x15 x17).f1.f1) ((rd_T60 x15 x17).f1.f2) ((rd_T60 x15 x17).f1.f3) ((rd_T60 x15 x17).f1.f4) ((rd_T60 x15 x17).f1.f5) ((rd_T60 x15 x17).f1.f6)))) else (none)) else (none)) else (some (x104000, x104001, x104002, x104003, x104004, x104005, x104006, x7))
def spec_LoopAt.j1 : Nat → List (S60) → Int → Bool → List (S60) → Int → Int → Bool → Int → Int → Int → Int → Int → Int → Int → Int → Int → Int → Int → Int → Int → Int → Int → Option (Int × Int × Int × Int × Int × Int × Int × Bool)
  | 0, _, _, _, _, _, _, _, _, _, _, _, _, _, _, _, _, _, _, _, _, _, _ => none
  | k + 1, x0, x1, x7, x15, x16, x17, x40, x104000, x104001, x104002, x104003, x104004, x104005, x104006, x106000, x106001, x106002, x106003, x106004, x106005, x106006, x106007 => if x40 = true then (some (0, 0, 0, 0, 0, 0, 0, false)) else (if x106000 ≤ x1 then (spec_LoopAt.l0 k x0 x1 true x15 x16 (wrap64 (x17 + 1)) x106001 x106002 x106003 x106004 x106005 x106006 x106007) else (spec_LoopAt.l0 k x0 x1 x7 x15 x16 (wrap64 (x17 + 1)) x104000 x104001 x104002 x104003 x104004 x104005 x104006))
end
def spec_LoopAt.f (k : Nat) (l0 : List (S60)) (a1 : Int) : Option (Int × Int × Int × Int × Int × Int × Int × Bool) := if (l0.length : Int) > 60 then (some (0, 0, 0, 0, 0, 0, 0, false)) else (spec_LoopAt.l0 k l0 a1 false l0 (l0.length : Int) 0 0 0 0 0 0 0 0)
theorem spec_LoopAt.mono_l : ∀ k, (∀ y0 y1 y2 y3 y4 y5 y6 y7 y8 y9 y10 y11 y12, LeO (spec_LoopAt.l0 k y0 y1 y2 y3 y4 y5 y6 y7 y8 y9 y10 y11 y12) (spec_LoopAt.l0 (k + 1) y0 y1 y2 y3 y4 y5 y6 y7 y8 y9 y10 y11 y12)) ∧ (∀ y0 y1 y2 y3 y4 y5 y6 y7 y8 y9 y10 y11 y12 y13 y14 y15 y16 y17 y18 y19 y20 y21, LeO (spec_LoopAt.j1 k y0 y1 y2 y3 y4 y5 y6 y7 y8 y9 y10 y11 y12 y13 y14 y15 y16 y17 y18 y19 y20 y21) (spec_LoopAt.j1 (k + 1) y0 y1 y2 y3 y4 y5 y6 y7 y8 y9 y10 y11 y12 y13 y14 y15 y16 y17 y18 y19 y20 y21))
  | 0 => ⟨fun _ _ _ _ _ _ _ _ _ _ _ _ _ r h => by simp [spec_LoopAt.l0] at h, fun _ _ _ _ _ _ _ _ _ _ _ _ _ _ _ _ _ _ _ _ _ _ r h => by simp [spec_LoopAt.j1] at h⟩
  | k + 1 => by
    obtain ⟨ih0, ih1⟩ := spec_LoopAt.mono_l k
    refine ⟨?_, ?_⟩
    · intro y0 y1 y2 y3 y4 y5 y6 y7 y8 y9 y10 y11 y12
      unfold spec_LoopAt.l0
      repeat' first
      | (with_reducible exact ih0 _ _ _ _ _ _ _ _ _ _ _ _ _)
      | (with_reducible exact ih1 _ _ _ _ _ _ _ _ _ _ _ _ _ _ _ _ _ _ _ _ _ _)
      | (with_reducible exact LeO.refl _)
      | (with_reducible exact LeO.none _)
      | (with_reducible refine LeO.ite ?_ ?_)
      | (with_reducible refine LeO.bind ?_ (fun _ => ?_))
      | exact ih0 _ _ _ _ _ _ _ _ _ _ _ _ _
      | exact ih1 _ _ _ _ _ _ _ _ _ _ _ _ _ _ _ _ _ _ _ _ _ _
      | exact LeO.none _
      | refine LeO.ite ?_ ?_
      | refine LeO.bind ?_ (fun _ => ?_)
    · intro y0 y1 y2 y3 y4 y5 y6 y7 y8 y9 y10 y11 y12 y13 y14 y15 y16 y17 y18 y19 y20 y21
      unfold spec_LoopAt.j1
      repeat' first
      | (with_reducible exact ih0 _ _ _ _ _ _ _ _ _ _ _ _ _)
      | (with_reducible exact ih1 _ _ _ _ _ _ _ _ _ _ _ _ _ _ _ _ _ _ _ _ _ _)
      | (with_reducible exact LeO.refl _)
      | (with_reducible exact LeO.none _)
      | (with_reducible refine LeO.ite ?_ ?_)
      | (with_reducible refine LeO.bind ?_ (fun _ => ?_))
      | exact ih0 _ _ _ _ _ _ _ _ _ _ _ _ _
      | exact ih1 _ _ _ _ _ _ _ _ _ _ _ _ _ _ _ _ _ _ _ _ _ _
      | exact LeO.none _
      | refine LeO.ite ?_ ?_
      | refine LeO.bind ?_ (fun _ => ?_)
theorem spec_LoopAt.mono : ∀ a0 a1 k, LeO (spec_LoopAt.f k a0 a1) (spec_LoopAt.f (k + 1) a0 a1) := by
  intro a0 a1 k
  obtain ⟨ih0, ih1⟩ := spec_LoopAt.mono_l k
  unfold spec_LoopAt.f
  repeat' first
      | (with_reducible exact ih0 _ _ _ _ _ _ _ _ _ _ _ _ _)
      | (with_reducible exact ih1 _ _ _ _ _ _ _ _ _ _ _ _ _ _ _ _ _ _ _ _ _ _)
      | (with_reducible exact LeO.refl _)
      | (with_reducible exact LeO.none _)
      | (with_reducible refine LeO.ite ?_ ?_)
      | (with_reducible refine LeO.bind ?_ (fun _ => ?_))
      | exact ih0 _ _ _ _ _ _ _ _ _ _ _ _ _
      | exact ih1 _ _ _ _ _ _ _ _ _ _ _ _ _ _ _ _ _ _ _ _ _ _
      | exact LeO.none _
      | refine LeO.ite ?_ ?_
      | refine LeO.bind ?_ (fun _ => ?_)
def spec_LoopAt.T8 : Bool × List (List Nat × List Nat) := (true, [([], []), ([0], [0]), ([1], [1]), ([2], [2]), ([3, 2], [3]), ([4], [4]), ([5, 4], [4, 5]), ([6, 4, 4], [4, 6]), ([7], [7]), ([7], [7]), ([9, 7], [7, 9]), ([8, 10, 7], [7, 8, 10]), ([11, 7], [7, 11]), ([12, 7], [7, 12]), ([7], [7]), ([14, 7], [7, 14]), ([13, 15, 7], [7, 13, 15]), ([7, 16, 4], [4, 7, 16]), ([4, 17], [4, 17])])
def spec_LoopAt.B8 : List Nat := [0, 1, 3, 7, 15, 31, 63, 127, 255, 255, 767, 2047, 4095, 8191, 255, 16639, 65535, 131071, 262143]
theorem spec_LoopAt.tab8 : rtab .any (opsOf Try.f12 8) = spec_LoopAt.T8 := by kernel_rfl
theorem spec_LoopAt.bits8 : waitsOk spec_LoopAt.T8.2 spec_LoopAt.B8 = true := by kernel_rfl
set_option maxHeartbeats 8000000 in
set_option maxRecDepth 100000 in
theorem spec_LoopAt.calls (k : Nat) (A0 : Option Addr) (c0 : Nat) (l0 : List (S60)) (a1 : Int) (r1 : Int) (r2 : Int) (r3 : Int) (r4 : Int) (r5 : Int) (r6 : Int) (r7 : Int) (r8 : Bool) (w : World) (hr0 : Kd.C k60 w A0 l0.length l0) (hc0 : l0.length ≤ c0) (h : spec_LoopAt.f k l0 a1 = some (r1, r2, r3, r4, r5, r6, r7, r8)) :
    Calls Try.prog 12 #[.slice A0 l0.length c0, .int .i64 a1] w fun e w' => e = .returned (.tuple #[.agg #[.int .i64 r1, .int .i64 r2, .int .i64 r3, .int .i64 r4, .int .i64 r5, .int .i64 r6, .int .i64 r7], .bool r8]) ∧ Below w.heap.size w w' := by
  have hu25 := Try.underlying25
  have hu60 := Try.underlying60
  have HR0 := Aside0.mk hr0
  have HC0 := Aside0.mk hc0
  clear hr0 hc0
  have HB := Aside0.mk (Below.refl w.heap.size w)
  have H : (if (l0.length : Int) > 60 then (some (0, 0, 0, 0, 0, 0, 0, false)) else (spec_LoopAt.l0 k l0 a1 false l0 (l0.length : Int) 0 0 0 0 0 0 0 0)) = some (r1, r2, r3, r4, r5, r6, r7, r8) := h
  clear h
  by_cases c3 : (l0.length : Int) > 60
  · rw [if_pos c3] at H
    have c3b0 : decide (60 < (l0.length : Int)) = true := decide_eq_true c3
    have c3b1 : decide (60 < l0.length) = true := decide_eq_true (by omega)
    clear c3
    simp only [Option.some.injEq, Prod.mk.injEq] at H
    obtain ⟨rfl, rfl, rfl, rfl, rfl, rfl, rfl, rfl⟩ := H
    go_enter Try.func12, Try.ntmps12
    go_wp2_with (first | ((with_reducible refine gate_dst (N := 4) rfl ?_); refine box_event ?hg (N := 4) ?hd (cs := #[.int .i64 0, .int .i64 0, .int .i64 0, .int .i64 0, .int .i64 0, .int .i64 0, .int .i64 0]) (t := 25) ?hr ?_; (case hd => rfl); (case hg => rfl); (case hr => first | (go_simp; done) | (go_simp; rfl)); intro gb102 hg w4 hbox hb; have n0_ := Aside0.mk (below_step (by repeat (first | (with_reducible first | exact HB.out | apply below_alloc | apply pw_below_drewN | apply below_drew1) | exact HB.out)) hb); have n1_ := Aside0.mk (hbox); have n2_ := Aside0.mk ((by rw [hg]; exact (below_size (by repeat (first | (with_reducible first | exact HB.out | apply below_alloc | apply pw_below_drewN | apply below_drew1) | exact HB.out))) : w.heap.size ≤ gb102)); have n3_ := Aside0.mk ((by rw [hg]; exact (below_size (by repeat (first | (with_reducible first | exact HB.out | apply below_alloc | apply pw_below_drewN | apply below_drew1) | exact HB.out))) : w.heap.size ≤ gb102)); clear HB; have HB := n0_; have BK102 := n1_; have GW102 := n2_; have GE102 := n3_; clear n0_ n1_ n2_ n3_; clear hb hbox hg; have hcz5_0 : w4.cell? ⟨gb102, 0, none⟩ = some (.int .i64 0) := (blk_cell BK102.out 0).trans rfl; have hcz5_1 : w4.cell? ⟨gb102, 1, none⟩ = some (.int .i64 0) := (blk_cell BK102.out 1).trans rfl; have hcz5_2 : w4.cell? ⟨gb102, 2, none⟩ = some (.int .i64 0) := (blk_cell BK102.out 2).trans rfl; have hcz5_3 : w4.cell? ⟨gb102, 3, none⟩ = some (.int .i64 0) := (blk_cell BK102.out 3).trans rfl; have hcz5_4 : w4.cell? ⟨gb102, 4, none⟩ = some (.int .i64 0) := (blk_cell BK102.out 4).trans rfl; have hcz5_5 : w4.cell? ⟨gb102, 5, none⟩ = some (.int .i64 0) := (blk_cell BK102.out 5).trans rfl; have hcz5_6 : w4.cell? ⟨gb102, 6, none⟩ = some (.int .i64 0) := (blk_cell BK102.out 6).trans rfl; have hfz5_0 := blk_frozen BK102.out 0; have hfz5_1 := blk_frozen BK102.out 1; have hfz5_2 := blk_frozen BK102.out 2; have hfz5_3 := blk_frozen BK102.out 3; have hfz5_4 := blk_frozen BK102.out 4; have hfz5_5 := blk_frozen BK102.out 5; have hfz5_6 := blk_frozen BK102.out 6))
    refine bodyPost_ret (results_ct rfl _ _ gb102 25 #[.int .i64 0, .int .i64 0, .int .i64 0, .int .i64 0, .int .i64 0, .int .i64 0, .int .i64 0] (0, 0) _ rfl (by (with_reducible repeat (first | refine blk_drewN ?_ _ | refine blk_drew ?_ | refine blk_alloc ?_ _)); refine blk_put (cs := #[.int .i64 0, .int .i64 0, .int .i64 0, .int .i64 0, .int .i64 0, .int .i64 0, .int .i64 0]) ?_ 6 _ rfl; (with_reducible repeat (first | refine blk_drewN ?_ _ | refine blk_drew ?_ | refine blk_alloc ?_ _)); refine blk_put (cs := #[.int .i64 0, .int .i64 0, .int .i64 0, .int .i64 0, .int .i64 0, .int .i64 0, .int .i64 0]) ?_ 5 _ rfl; (with_reducible repeat (first | refine blk_drewN ?_ _ | refine blk_drew ?_ | refine blk_alloc ?_ _)); refine blk_put (cs := #[.int .i64 0, .int .i64 0, .int .i64 0, .int .i64 0, .int .i64 0, .int .i64 0, .int .i64 0]) ?_ 4 _ rfl; (with_reducible repeat (first | refine blk_drewN ?_ _ | refine blk_drew ?_ | refine blk_alloc ?_ _)); refine blk_put (cs := #[.int .i64 0, .int .i64 0, .int .i64 0, .int .i64 0, .int .i64 0, .int .i64 0, .int .i64 0]) ?_ 3 _ rfl; (with_reducible repeat (first | refine blk_drewN ?_ _ | refine blk_drew ?_ | refine blk_alloc ?_ _)); refine blk_put (cs := #[.int .i64 0, .int .i64 0, .int .i64 0, .int .i64 0, .int .i64 0, .int .i64 0, .int .i64 0]) ?_ 2 _ rfl; (with_reducible repeat (first | refine blk_drewN ?_ _ | refine blk_drew ?_ | refine blk_alloc ?_ _)); refine blk_put (cs := #[.int .i64 0, .int .i64 0, .int .i64 0, .int .i64 0, .int .i64 0, .int .i64 0, .int .i64 0]) ?_ 1 _ rfl; (with_reducible repeat (first | refine blk_drewN ?_ _ | refine blk_drew ?_ | refine blk_alloc ?_ _)); refine blk_put (cs := #[.int .i64 0, .int .i64 0, .int .i64 0, .int .i64 0, .int .i64 0, .int .i64 0, .int .i64 0]) ?_ 0 _ rfl; (with_reducible repeat (first | refine blk_drewN ?_ _ | refine blk_drew ?_ | refine blk_alloc ?_ _)); exact BK102.out) Try.underlying25 rfl (by kernel_rfl)) rfl ?_
    exact ⟨by first | rfl | (simp [errW_none, errW_some] <;> rfl) | (simp [*, errW_none, errW_some] <;> rfl), by repeat (first | (with_reducible first | exact HB.out | apply below_alloc | apply pw_below_drewN | apply below_drew1 | refine below_set ?_ GE102.out) | exact HB.out)⟩
  · rw [if_neg c3] at H
    have c3b0 : decide (60 < (l0.length : Int)) = false := decide_eq_false c3
    have c3b1 : decide (60 < l0.length) = false := decide_eq_false (by omega)
    clear c3
    have H' := Aside0.mk H
    clear H
    go_enter Try.func12, Try.ntmps12
    go_wp2_with (first | ((with_reducible refine gate_dst (N := 4) rfl ?_); refine box_event ?hg (N := 4) ?hd (cs := #[.int .i64 0, .int .i64 0, .int .i64 0, .int .i64 0, .int .i64 0, .int .i64 0, .int .i64 0]) (t := 25) ?hr ?_; (case hd => rfl); (case hg => rfl); (case hr => first | (go_simp; done) | (go_simp; rfl)); intro gb102 hg w6 hbox hb; have n0_ := Aside0.mk (below_step (by repeat (first | (with_reducible first | exact HB.out | apply below_alloc | apply pw_below_drewN | apply below_drew1) | exact HB.out)) hb); have n1_ := Aside0.mk (hbox); have n2_ := Aside0.mk ((by rw [hg]; exact (below_size (by repeat (first | (with_reducible first | exact HB.out | apply below_alloc | apply pw_below_drewN | apply below_drew1) | exact HB.out))) : w.heap.size ≤ gb102)); have n3_ := Aside0.mk ((by rw [hg]; exact (below_size (by repeat (first | (with_reducible first | exact HB.out | apply below_alloc | apply pw_below_drewN | apply below_drew1) | exact HB.out))) : w.heap.size ≤ gb102)); clear HB; have HB := n0_; have BK102 := n1_; have GW102 := n2_; have GE102 := n3_; clear n0_ n1_ n2_ n3_; clear hb hbox hg) | ((with_reducible refine gate_dst (N := 6) rfl ?_); refine box_event ?hg (N := 6) ?hd (cs := #[.int .i64 0, .int .i64 0, .int .i64 0, .int .i64 0, .int .i64 0, .int .i64 0, .int .i64 0]) (t := 25) ?hr ?_; (case hd => rfl); (case hg => rfl); (case hr => first | (go_simp; done) | (go_simp; rfl)); intro gb103 hg w7 hbox hb; have n0_ := Aside0.mk (blk_below (g := gb102) (o := .cells #[.int .i64 0, .int .i64 0, .int .i64 0, .int .i64 0, .int .i64 0, .int .i64 0, .int .i64 0] 25 (0, 0)) (by (with_reducible repeat (first | refine blk_drewN ?_ _ | refine blk_drew ?_ | refine blk_alloc ?_ _)); exact BK102.out) hb); have n1_ := Aside0.mk (below_step (by repeat (first | (with_reducible first | exact HB.out | apply below_alloc | apply pw_below_drewN | apply below_drew1 | refine below_set ?_ GE102.out) | exact HB.out)) hb); have n2_ := Aside0.mk (hbox); have n3_ := Aside0.mk ((by rw [hg]; exact (below_size (by repeat (first | (with_reducible first | exact HB.out | apply below_alloc | apply pw_below_drewN | apply below_drew1 | refine below_set ?_ GE102.out) | exact HB.out))) : w.heap.size ≤ gb103)); have n4_ := Aside0.mk ((by rw [hg]; exact (below_size (by repeat (first | (with_reducible first | exact HB.out | apply below_alloc | apply pw_below_drewN | apply below_drew1 | refine below_set ?_ GE102.out) | exact HB.out))) : w.heap.size ≤ gb103)); have n5_ := Aside0.mk ((by rw [hg]; exact Nat.ne_of_lt (blk_lt (g := gb102) (o := .cells #[.int .i64 0, .int .i64 0, .int .i64 0, .int .i64 0, .int .i64 0, .int .i64 0, .int .i64 0] 25 (0, 0)) (by (with_reducible repeat (first | refine blk_drewN ?_ _ | refine blk_drew ?_ | refine blk_alloc ?_ _)); exact BK102.out)) : gb102 ≠ gb103)); have n6_ := Aside0.mk ((by rw [hg]; exact Nat.ne_of_gt (blk_lt (g := gb102) (o := .cells #[.int .i64 0, .int .i64 0, .int .i64 0, .int .i64 0, .int .i64 0, .int .i64 0, .int .i64 0] 25 (0, 0)) (by (with_reducible repeat (first | refine blk_drewN ?_ _ | refine blk_drew ?_ | refine blk_alloc ?_ _)); exact BK102.out)) : gb103 ≠ gb102)); clear BK102; clear HB; have BK102 := n0_; have HB := n1_; have BK103 := n2_; have GW103 := n3_; have GE103 := n4_; have NB102_103 := n5_; have NB103_102 := n6_; clear n0_ n1_ n2_ n3_ n4_ n5_ n6_; clear hb hbox hg; have hnb8 := NB103_102.out; have hnc8 := NB102_103.out; have hcz9_0 : w7.cell? ⟨gb103, 0, none⟩ = some (.int .i64 0) := (blk_cell BK103.out 0).trans rfl; have hcz9_1 : w7.cell? ⟨gb103, 1, none⟩ = some (.int .i64 0) := (blk_cell BK103.out 1).trans rfl; have hcz9_2 : w7.cell? ⟨gb103, 2, none⟩ = some (.int .i64 0) := (blk_cell BK103.out 2).trans rfl; have hcz9_3 : w7.cell? ⟨gb103, 3, none⟩ = some (.int .i64 0) := (blk_cell BK103.out 3).trans rfl; have hcz9_4 : w7.cell? ⟨gb103, 4, none⟩ = some (.int .i64 0) := (blk_cell BK103.out 4).trans rfl; have hcz9_5 : w7.cell? ⟨gb103, 5, none⟩ = some (.int .i64 0) := (blk_cell BK103.out 5).trans rfl; have hcz9_6 : w7.cell? ⟨gb103, 6, none⟩ = some (.int .i64 0) := (blk_cell BK103.out 6).trans rfl; have hfz9_0 := blk_frozen BK103.out 0; have hfz9_1 := blk_frozen BK103.out 1; have hfz9_2 := blk_frozen BK103.out 2; have hfz9_3 := blk_frozen BK103.out 3; have hfz9_4 := blk_frozen BK103.out 4; have hfz9_5 := blk_frozen BK103.out 5; have hfz9_6 := blk_frozen BK103.out 6))
    go_loopg [7, 17] k (fun kq v7 v17 w' => ∃ (x7_1 : Bool) (x17_1 : Int) (x103000_1 : Int) (x103001_1 : Int) (x103002_1 : Int) (x103003_1 : Int) (x103004_1 : Int) (x103005_1 : Int) (x103006_1 : Int) (x104000_1 : Int) (x104001_1 : Int) (x104002_1 : Int) (x104003_1 : Int) (x104004_1 : Int) (x104005_1 : Int) (x104006_1 : Int), v7 = .bool x7_1 ∧ v17 = .int .i64 x17_1 ∧ Aside0 (spec_LoopAt.l0 kq l0 a1 x7_1 l0 (l0.length : Int) x17_1 x104000_1 x104001_1 x104002_1 x104003_1 x104004_1 x104005_1 x104006_1 = some (r1, r2, r3, r4, r5, r6, r7, r8)) ∧ Aside0 (kq ≤ k) ∧ Aside0 (w'.heap[gb102]? = some (.cells #[.int .i64 x103000_1, .int .i64 x103001_1, .int .i64 x103002_1, .int .i64 x103003_1, .int .i64 x103004_1, .int .i64 x103005_1, .int .i64 x103006_1] 25 (0, 0))) ∧ Aside0 (w'.heap[gb103]? = some (.cells #[.int .i64 x104000_1, .int .i64 x104001_1, .int .i64 x104002_1, .int .i64 x104003_1, .int .i64 x104004_1, .int .i64 x104005_1, .int .i64 x104006_1] 25 (0, 0))) ∧ Aside0 (Below w.heap.size w w'))
    case atStart => exact ⟨(false), (0), (0), (0), (0), (0), (0), (0), (0), (0), (0), (0), (0), (0), (0), (0), (by first | rfl | (simp; done) | (simp [*]; done)), (by first | rfl | (simp; done) | (simp [*]; done)), H', ⟨Nat.le_refl _⟩, ⟨by (with_reducible repeat (first | refine blk_drewN ?_ _ | refine blk_drew ?_ | refine blk_alloc ?_ _)); refine blk_far ?_ NB102_103.out _; (with_reducible repeat (first | refine blk_drewN ?_ _ | refine blk_drew ?_ | refine blk_alloc ?_ _)); refine blk_far ?_ NB102_103.out _; (with_reducible repeat (first | refine blk_drewN ?_ _ | refine blk_drew ?_ | refine blk_alloc ?_ _)); refine blk_far ?_ NB102_103.out _; (with_reducible repeat (first | refine blk_drewN ?_ _ | refine blk_drew ?_ | refine blk_alloc ?_ _)); refine blk_far ?_ NB102_103.out _; (with_reducible repeat (first | refine blk_drewN ?_ _ | refine blk_drew ?_ | refine blk_alloc ?_ _)); refine blk_far ?_ NB102_103.out _; (with_reducible repeat (first | refine blk_drewN ?_ _ | refine blk_drew ?_ | refine blk_alloc ?_ _)); refine blk_far ?_ NB102_103.out _; (with_reducible repeat (first | refine blk_drewN ?_ _ | refine blk_drew ?_ | refine blk_alloc ?_ _)); refine blk_far ?_ NB102_103.out _; (with_reducible repeat (first | refine blk_drewN ?_ _ | refine blk_drew ?_ | refine blk_alloc ?_ _)); exact BK102.out⟩, ⟨by (with_reducible repeat (first | refine blk_drewN ?_ _ | refine blk_drew ?_ | refine blk_alloc ?_ _)); refine blk_put (cs := #[.int .i64 0, .int .i64 0, .int .i64 0, .int .i64 0, .int .i64 0, .int .i64 0, .int .i64 0]) ?_ 6 _ rfl; (with_reducible repeat (first | refine blk_drewN ?_ _ | refine blk_drew ?_ | refine blk_alloc ?_ _)); refine blk_put (cs := #[.int .i64 0, .int .i64 0, .int .i64 0, .int .i64 0, .int .i64 0, .int .i64 0, .int .i64 0]) ?_ 5 _ rfl; (with_reducible repeat (first | refine blk_drewN ?_ _ | refine blk_drew ?_ | refine blk_alloc ?_ _)); refine blk_put (cs := #[.int .i64 0, .int .i64 0, .int .i64 0, .int .i64 0, .int .i64 0, .int .i64 0, .int .i64 0]) ?_ 4 _ rfl; (with_reducible repeat (first | refine blk_drewN ?_ _ | refine blk_drew ?_ | refine blk_alloc ?_ _)); refine blk_put (cs := #[.int .i64 0, .int .i64 0, .int .i64 0, .int .i64 0, .int .i64 0, .int .i64 0, .int .i64 0]) ?_ 3 _ rfl; (with_reducible repeat (first | refine blk_drewN ?_ _ | refine blk_drew ?_ | refine blk_alloc ?_ _)); refine blk_put (cs := #[.int .i64 0, .int .i64 0, .int .i64 0, .int .i64 0, .int .i64 0, .int .i64 0, .int .i64 0]) ?_ 2 _ rfl; (with_reducible repeat (first | refine blk_drewN ?_ _ | refine blk_drew ?_ | refine blk_alloc ?_ _)); refine blk_put (cs := #[.int .i64 0, .int .i64 0, .int .i64 0, .int .i64 0, .int .i64 0, .int .i64 0, .int .i64 0]) ?_ 1 _ rfl; (with_reducible repeat (first | refine blk_drewN ?_ _ | refine blk_drew ?_ | refine blk_alloc ?_ _)); refine blk_put (cs := #[.int .i64 0, .int .i64 0, .int .i64 0, .int .i64 0, .int .i64 0, .int .i64 0, .int .i64 0]) ?_ 0 _ rfl; (with_reducible repeat (first | refine blk_drewN ?_ _ | refine blk_drew ?_ | refine blk_alloc ?_ _)); exact BK103.out⟩, ⟨by repeat (first | (with_reducible first | exact HB.out | apply below_alloc | apply pw_below_drewN | apply below_drew1 | refine below_set ?_ GE102.out | refine below_set ?_ GE103.out) | exact HB.out)⟩⟩
    case round =>
      clear H'
      try clear c1
      try clear p2
      try clear c3
      try clear c3b0
      try clear c3b1
      try clear c8
      try clear hcz5_0
      try clear hcz5_1
      try clear hcz5_2
      try clear hcz5_3
      try clear hcz5_4
      try clear hcz5_5
      try clear hcz5_6
      try clear hcz9_0
      try clear hcz9_1
      try clear hcz9_2
      try clear hcz9_3
      try clear hcz9_4
      try clear hcz9_5
      try clear hcz9_6
      try clear hfz5_0
      try clear hfz5_1
      try clear hfz5_2
      try clear hfz5_3
      try clear hfz5_4
      try clear hfz5_5
      try clear hfz5_6
      try clear hfz9_0
      try clear hfz9_1
      try clear hfz9_2
      try clear hfz9_3
      try clear hfz9_4
      try clear hfz9_5
      try clear hfz9_6
      obtain ⟨x7_1, x17_1, x103000_1, x103001_1, x103002_1, x103003_1, x103004_1, x103005_1, x103006_1, x104000_1, x104001_1, x104002_1, x104003_1, x104004_1, x104005_1, x104006_1, rfl, rfl, HA, HK1, BK102, BK103, HB⟩ := hrel
      cases gk with
      | zero => exact absurd HA.out (by simp [spec_LoopAt.l0])
      | succ k1 =>
        have H := HA.out
        clear HA
        simp only [spec_LoopAt.l0] at H
        by_cases c10 : x17_1 < (l0.length : Int)
        · rw [if_pos c10] at H
          have c10b0 : decide (x17_1 < (l0.length : Int)) = true := decide_eq_true c10
          clear c10
          by_cases c11 : 0 ≤ x17_1
          · rw [if_pos c11] at H
            have c11b0 : decide (0 ≤ x17_1) = true := decide_eq_true c11
            clear c11
            by_cases c12 : x17_1 < (l0.length : Int)
            · rw [if_pos c12] at H
              have c12b0 : decide (x17_1 < (l0.length : Int)) = true := decide_eq_true c12
              clear c12
              have HC13 := Aside0.mk H
              clear H
              have p104 : 0 ≤ (x17_1 : Int) := of_decide_eq_true (by first | (with_reducible assumption) | assumption)
              have q104 : x17_1 < (l0.length : Int) := of_decide_eq_true (by first | (with_reducible assumption) | assumption)
              obtain ⟨ad104, e104, hx104_0, hx104_1, hx104_2, hx104_3, hx104_4, hx104_5, hx104_6, hx104_7⟩ := at_T60 HR0.out x17_1 p104 q104
              cases e104
              replace hx104_0 := (HB.out.cell (World.block_lt_of_cell? w _ hx104_0)).trans hx104_0
              replace hx104_1 := (HB.out.cell (World.block_lt_of_cell? w _ hx104_1)).trans hx104_1
              replace hx104_2 := (HB.out.cell (World.block_lt_of_cell? w _ hx104_2)).trans hx104_2
              replace hx104_3 := (HB.out.cell (World.block_lt_of_cell? w _ hx104_3)).trans hx104_3
              replace hx104_4 := (HB.out.cell (World.block_lt_of_cell? w _ hx104_4)).trans hx104_4
              replace hx104_5 := (HB.out.cell (World.block_lt_of_cell? w _ hx104_5)).trans hx104_5
              replace hx104_6 := (HB.out.cell (World.block_lt_of_cell? w _ hx104_6)).trans hx104_6
              replace hx104_7 := (HB.out.cell (World.block_lt_of_cell? w _ hx104_7)).trans hx104_7
              replace p104 := eq_true p104
              replace q104 := eq_true q104
              go_upto_region 8 with (first | ((with_reducible refine gate_dst (N := 9) rfl ?_); refine box_event ?hg (N := 9) ?hd (cs := #[.int .i64 0, .int .i64 0, .int .i64 0, .int .i64 0, .int .i64 0, .int .i64 0, .int .i64 0, .int .i64 0]) (t := 60) ?hr ?_; (case hd => rfl); (case hg => rfl); (case hr => first | (go_simp; done) | (go_simp; rfl)); intro gb105 hg w14 hbox hb; have n0_ := Aside0.mk (blk_below (g := gb102) (o := .cells #[.int .i64 x103000_1, .int .i64 x103001_1, .int .i64 x103002_1, .int .i64 x103003_1, .int .i64 x103004_1, .int .i64 x103005_1, .int .i64 x103006_1] 25 (0, 0)) (by (with_reducible repeat (first | refine blk_drewN ?_ _ | refine blk_drew ?_ | refine blk_alloc ?_ _)); exact BK102.out) hb); have n1_ := Aside0.mk (blk_below (g := gb103) (o := .cells #[.int .i64 x104000_1, .int .i64 x104001_1, .int .i64 x104002_1, .int .i64 x104003_1, .int .i64 x104004_1, .int .i64 x104005_1, .int .i64 x104006_1] 25 (0, 0)) (by (with_reducible repeat (first | refine blk_drewN ?_ _ | refine blk_drew ?_ | refine blk_alloc ?_ _)); exact BK103.out) hb); have n2_ := Aside0.mk (below_step (by repeat (first | (with_reducible first | exact HB.out | apply below_alloc | apply pw_below_drewN | apply below_drew1 | refine below_set ?_ GE102.out | refine below_set ?_ GE103.out) | exact HB.out)) hb); have n3_ := Aside0.mk (hbox); have n4_ := Aside0.mk ((by rw [hg]; exact (below_size (by repeat (first | (with_reducible first | exact HB.out | apply below_alloc | apply pw_below_drewN | apply below_drew1 | refine below_set ?_ GE102.out | refine below_set ?_ GE103.out) | exact HB.out))) : w.heap.size ≤ gb105)); have n5_ := Aside0.mk ((by rw [hg]; exact (below_size (by repeat (first | (with_reducible first | exact HB.out | apply below_alloc | apply pw_below_drewN | apply below_drew1 | refine below_set ?_ GE102.out | refine below_set ?_ GE103.out) | exact HB.out))) : w.heap.size ≤ gb105)); have n6_ := Aside0.mk ((by rw [hg]; exact Nat.ne_of_lt (blk_lt (g := gb102) (o := .cells #[.int .i64 x103000_1, .int .i64 x103001_1, .int .i64 x103002_1, .int .i64 x103003_1, .int .i64 x103004_1, .int .i64 x103005_1, .int .i64 x103006_1] 25 (0, 0)) (by (with_reducible repeat (first | refine blk_drewN ?_ _ | refine blk_drew ?_ | refine blk_alloc ?_ _)); exact BK102.out)) : gb102 ≠ gb105)); have n7_ := Aside0.mk ((by rw [hg]; exact Nat.ne_of_gt (blk_lt (g := gb102) (o := .cells #[.int .i64 x103000_1, .int .i64 x103001_1, .int .i64 x103002_1, .int .i64 x103003_1, .int .i64 x103004_1, .int .i64 x103005_1, .int .i64 x103006_1] 25 (0, 0)) (by (with_reducible repeat (first | refine blk_drewN ?_ _ | refine blk_drew ?_ | refine blk_alloc ?_ _)); exact BK102.out)) : gb105 ≠ gb102)); have n8_ := Aside0.mk ((by rw [hg]; exact Nat.ne_of_lt (blk_lt (g := gb103) (o := .cells #[.int .i64 x104000_1, .int .i64 x104001_1, .int .i64 x104002_1, .int .i64 x104003_1, .int .i64 x104004_1, .int .i64 x104005_1, .int .i64 x104006_1] 25 (0, 0)) (by (with_reducible repeat (first | refine blk_drewN ?_ _ | refine blk_drew ?_ | refine blk_alloc ?_ _)); exact BK103.out)) : gb103 ≠ gb105)); have n9_ := Aside0.mk ((by rw [hg]; exact Nat.ne_of_gt (blk_lt (g := gb103) (o := .cells #[.int .i64 x104000_1, .int .i64 x104001_1, .int .i64 x104002_1, .int .i64 x104003_1, .int .i64 x104004_1, .int .i64 x104005_1, .int .i64 x104006_1] 25 (0, 0)) (by (with_reducible repeat (first | refine blk_drewN ?_ _ | refine blk_drew ?_ | refine blk_alloc ?_ _)); exact BK103.out)) : gb105 ≠ gb103)); clear BK102; clear BK103; clear HB; have BK102 := n0_; have BK103 := n1_; have HB := n2_; have BK105 := n3_; have GW105 := n4_; have GE105 := n5_; have NB102_105 := n6_; have NB105_102 := n7_; have NB103_105 := n8_; have NB105_103 := n9_; clear n0_ n1_ n2_ n3_ n4_ n5_ n6_ n7_ n8_ n9_; clear hb hbox hg; have hnb15 := NB105_102.out; have hnc15 := NB102_105.out; have hnb16 := NB105_103.out; have hnc16 := NB103_105.out; have hcz17_0 : w14.cell? ⟨gb105, 0, none⟩ = some (.int .i64 0) := (blk_cell BK105.out 0).trans rfl; have hcz17_1 : w14.cell? ⟨gb105, 1, none⟩ = some (.int .i64 0) := (blk_cell BK105.out 1).trans rfl; have hcz17_2 : w14.cell? ⟨gb105, 2, none⟩ = some (.int .i64 0) := (blk_cell BK105.out 2).trans rfl; have hcz17_3 : w14.cell? ⟨gb105, 3, none⟩ = some (.int .i64 0) := (blk_cell BK105.out 3).trans rfl; have hcz17_4 : w14.cell? ⟨gb105, 4, none⟩ = some (.int .i64 0) := (blk_cell BK105.out 4).trans rfl; have hcz17_5 : w14.cell? ⟨gb105, 5, none⟩ = some (.int .i64 0) := (blk_cell BK105.out 5).trans rfl; have hcz17_6 : w14.cell? ⟨gb105, 6, none⟩ = some (.int .i64 0) := (blk_cell BK105.out 6).trans rfl; have hcz17_7 : w14.cell? ⟨gb105, 7, none⟩ = some (.int .i64 0) := (blk_cell BK105.out 7).trans rfl; have hfz17_0 := blk_frozen BK105.out 0; have hfz17_1 := blk_frozen BK105.out 1; have hfz17_2 := blk_frozen BK105.out 2; have hfz17_3 := blk_frozen BK105.out 3; have hfz17_4 := blk_frozen BK105.out 4; have hfz17_5 := blk_frozen BK105.out 5; have hfz17_6 := blk_frozen BK105.out 6; have hfz17_7 := blk_frozen BK105.out 7))
              (try simp only [Act.put, List.setIfInBounds_toArray, List.set_cons_zero, List.set_cons_succ])
              go_cut [40] (fun v40 wc => ∃ (kq : Nat) (x40_12 : Bool), v40 = .bool x40_12 ∧ Aside0 (spec_LoopAt.j1 kq l0 a1 x7_1 l0 (l0.length : Int) x17_1 x40_12 x104000_1 x104001_1 x104002_1 x104003_1 x104004_1 x104005_1 x104006_1 ((rd_T60 l0 x17_1).f0) ((rd_T60 l0 x17_1).f1.f0) ((rd_T60 l0 x17_1).f1.f1) ((rd_T60 l0 x17_1).f1.f2) ((rd_T60 l0 x17_1).f1.f3) ((rd_T60 l0 x17_1).f1.f4) ((rd_T60 l0 x17_1).f1.f5) ((rd_T60 l0 x17_1).f1.f6) = some (r1, r2, r3, r4, r5, r6, r7, r8)) ∧ Aside0 (kq ≤ k1) ∧ Aside0 (wc.heap[gb102]? = some (.cells #[.int .i64 x103000_1, .int .i64 x103001_1, .int .i64 x103002_1, .int .i64 x103003_1, .int .i64 x103004_1, .int .i64 x103005_1, .int .i64 x103006_1] 25 (0, 0))) ∧ Aside0 (wc.heap[gb103]? = some (.cells #[.int .i64 x104000_1, .int .i64 x104001_1, .int .i64 x104002_1, .int .i64 x104003_1, .int .i64 x104004_1, .int .i64 x104005_1, .int .i64 x104006_1] 25 (0, 0))) ∧ Aside0 (wc.heap[gb105]? = some (.cells #[.int .i64 ((rd_T60 l0 x17_1).f0), .int .i64 ((rd_T60 l0 x17_1).f1.f0), .int .i64 ((rd_T60 l0 x17_1).f1.f1), .int .i64 ((rd_T60 l0 x17_1).f1.f2), .int .i64 ((rd_T60 l0 x17_1).f1.f3), .int .i64 ((rd_T60 l0 x17_1).f1.f4), .int .i64 ((rd_T60 l0 x17_1).f1.f5), .int .i64 ((rd_T60 l0 x17_1).f1.f6)] 60 (0, 0))) ∧ Aside0 (Below w.heap.size w wc))
              case first =>
                have H := HC13.out
                clear HC13
                replace H := Option.bind_eq_some_iff.mp H
                obtain ⟨t106, A180, H⟩ := H
                replace H : (if t106 = true then (if x17_1 > 0 then (if 0 ≤ (wrap64 (x17_1 - 1)) then (if (wrap64 (x17_1 - 1)) < (l0.length : Int) then (spec_LoopAt.j1 k1 l0 a1 x7_1 l0 (l0.length : Int) x17_1 (decide (((rd_T60 l0 (wrap64 (x17_1 - 1))).f0) ≥ ((rd_T60 l0 x17_1).f0))) x104000_1 x104001_1 x104002_1 x104003_1 x104004_1 x104005_1 x104006_1 ((rd_T60 l0 x17_1).f0) ((rd_T60 l0 x17_1).f1.f0) ((rd_T60 l0 x17_1).f1.f1) ((rd_T60 l0 x17_1).f1.f2) ((rd_T60 l0 x17_1).f1.f3) ((rd_T60 l0 x17_1).f1.f4) ((rd_T60 l0 x17_1).f1.f5) ((rd_T60 l0 x17_1).f1.f6)) else (none)) else (none)) else (spec_LoopAt.j1 k1 l0 a1 x7_1 l0 (l0.length : Int) x17_1 false x104000_1 x104001_1 x104002_1 x104003_1 x104004_1 x104005_1 x104006_1 ((rd_T60 l0 x17_1).f0) ((rd_T60 l0 x17_1).f1.f0) ((rd_T60 l0 x17_1).f1.f1) ((rd_T60 l0 x17_1).f1.f2) ((rd_T60 l0 x17_1).f1.f3) ((rd_T60 l0 x17_1).f1.f4) ((rd_T60 l0 x17_1).f1.f5) ((rd_T60 l0 x17_1).f1.f6))) else (spec_LoopAt.j1 k1 l0 a1 x7_1 l0 (l0.length : Int) x17_1 true x104000_1 x104001_1 x104002_1 x104003_1 x104004_1 x104005_1 x104006_1 ((rd_T60 l0 x17_1).f0) ((rd_T60 l0 x17_1).f1.f0) ((rd_T60 l0 x17_1).f1.f1) ((rd_T60 l0 x17_1).f1.f2) ((rd_T60 l0 x17_1).f1.f3) ((rd_T60 l0 x17_1).f1.f4) ((rd_T60 l0 x17_1).f1.f5) ((rd_T60 l0 x17_1).f1.f6))) = some (r1, r2, r3, r4, r5, r6, r7, r8) := H
                have A18 := Aside0.mk A180
                clear A180
                by_cases c19 : t106 = true
                · subst c19
                  have H1 : (if x17_1 > 0 then (if 0 ≤ (wrap64 (x17_1 - 1)) then (if (wrap64 (x17_1 - 1)) < (l0.length : Int) then (spec_LoopAt.j1 k1 l0 a1 x7_1 l0 (l0.length : Int) x17_1 (decide (((rd_T60 l0 (wrap64 (x17_1 - 1))).f0) ≥ ((rd_T60 l0 x17_1).f0))) x104000_1 x104001_1 x104002_1 x104003_1 x104004_1 x104005_1 x104006_1 ((rd_T60 l0 x17_1).f0) ((rd_T60 l0 x17_1).f1.f0) ((rd_T60 l0 x17_1).f1.f1) ((rd_T60 l0 x17_1).f1.f2) ((rd_T60 l0 x17_1).f1.f3) ((rd_T60 l0 x17_1).f1.f4) ((rd_T60 l0 x17_1).f1.f5) ((rd_T60 l0 x17_1).f1.f6)) else (none)) else (none)) else (spec_LoopAt.j1 k1 l0 a1 x7_1 l0 (l0.length : Int) x17_1 false x104000_1 x104001_1 x104002_1 x104003_1 x104004_1 x104005_1 x104006_1 ((rd_T60 l0 x17_1).f0) ((rd_T60 l0 x17_1).f1.f0) ((rd_T60 l0 x17_1).f1.f1) ((rd_T60 l0 x17_1).f1.f2) ((rd_T60 l0 x17_1).f1.f3) ((rd_T60 l0 x17_1).f1.f4) ((rd_T60 l0 x17_1).f1.f5) ((rd_T60 l0 x17_1).f1.f6))) = some (r1, r2, r3, r4, r5, r6, r7, r8) := by rw [if_pos rfl] at H; exact H
                  clear H
                  have H := H1
                  clear H1
                  by_cases c20 : x17_1 > 0
                  · rw [if_pos c20] at H
                    have c20b0 : decide (0 < x17_1) = true := decide_eq_true c20
                    clear c20
                    (first | rw [c20b0] | (simp only [i64_w, i32_w]; rw [c20b0]) | skip)
                    obtain ⟨ji21, hji21⟩ : ∃ j_ : Int, (wrap64 (x17_1 - 1)) = j_ := ⟨_, rfl⟩
                    replace H : (if 0 ≤ (ji21) then (if (ji21) < (l0.length : Int) then (spec_LoopAt.j1 k1 l0 a1 x7_1 l0 (l0.length : Int) x17_1 (decide (((rd_T60 l0 (ji21)).f0) ≥ ((rd_T60 l0 x17_1).f0))) x104000_1 x104001_1 x104002_1 x104003_1 x104004_1 x104005_1 x104006_1 ((rd_T60 l0 x17_1).f0) ((rd_T60 l0 x17_1).f1.f0) ((rd_T60 l0 x17_1).f1.f1) ((rd_T60 l0 x17_1).f1.f2) ((rd_T60 l0 x17_1).f1.f3) ((rd_T60 l0 x17_1).f1.f4) ((rd_T60 l0 x17_1).f1.f5) ((rd_T60 l0 x17_1).f1.f6)) else (none)) else (none)) = some (r1, r2, r3, r4, r5, r6, r7, r8) := by first | (rw [hji21] at H; exact H) | (simp only [hji21] at H ⊢; exact H)
                    (try rw [hji21] at A18)
                    have hji21w : (IntKind.i64.wrap (x17_1 - 1)) = ji21 := (i64_w _).trans hji21
                    by_cases c22 : 0 ≤ (ji21)
                    · rw [if_pos c22] at H
                      have c22b0 : decide (0 ≤ (ji21)) = true := decide_eq_true c22
                      clear c22
                      by_cases c23 : (ji21) < (l0.length : Int)
                      · rw [if_pos c23] at H
                        have c23b0 : decide ((ji21) < (l0.length : Int)) = true := decide_eq_true c23
                        clear c23
                        have H' := Aside0.mk H
                        clear H
                        try go_wp2
                        have n0_ : Aside0 (((((((((w14.setCell ⟨gb105, 0, none⟩ (.int .i64 ((rd_T60 l0 x17_1).f0))).setCell ⟨gb105, 1, none⟩ (.int .i64 ((rd_T60 l0 x17_1).f1.f0))).setCell ⟨gb105, 2, none⟩ (.int .i64 ((rd_T60 l0 x17_1).f1.f1))).setCell ⟨gb105, 3, none⟩ (.int .i64 ((rd_T60 l0 x17_1).f1.f2))).setCell ⟨gb105, 4, none⟩ (.int .i64 ((rd_T60 l0 x17_1).f1.f3))).setCell ⟨gb105, 5, none⟩ (.int .i64 ((rd_T60 l0 x17_1).f1.f4))).setCell ⟨gb105, 6, none⟩ (.int .i64 ((rd_T60 l0 x17_1).f1.f5))).setCell ⟨gb105, 7, none⟩ (.int .i64 ((rd_T60 l0 x17_1).f1.f6))).heap[gb102]? = some (.cells #[.int .i64 x103000_1, .int .i64 x103001_1, .int .i64 x103002_1, .int .i64 x103003_1, .int .i64 x103004_1, .int .i64 x103005_1, .int .i64 x103006_1] 25 (0, 0))) := ⟨by (with_reducible repeat (first | refine blk_drewN ?_ _ | refine blk_drew ?_ | refine blk_alloc ?_ _)); refine blk_far ?_ NB102_105.out _; (with_reducible repeat (first | refine blk_drewN ?_ _ | refine blk_drew ?_ | refine blk_alloc ?_ _)); refine blk_far ?_ NB102_105.out _; (with_reducible repeat (first | refine blk_drewN ?_ _ | refine blk_drew ?_ | refine blk_alloc ?_ _)); refine blk_far ?_ NB102_105.out _; (with_reducible repeat (first | refine blk_drewN ?_ _ | refine blk_drew ?_ | refine blk_alloc ?_ _)); refine blk_far ?_ NB102_105.out _; (with_reducible repeat (first | refine blk_drewN ?_ _ | refine blk_drew ?_ | refine blk_alloc ?_ _)); refine blk_far ?_ NB102_105.out _; (with_reducible repeat (first | refine blk_drewN ?_ _ | refine blk_drew ?_ | refine blk_alloc ?_ _)); refine blk_far ?_ NB102_105.out _; (with_reducible repeat (first | refine blk_drewN ?_ _ | refine blk_drew ?_ | refine blk_alloc ?_ _)); refine blk_far ?_ NB102_105.out _; (with_reducible repeat (first | refine blk_drewN ?_ _ | refine blk_drew ?_ | refine blk_alloc ?_ _)); refine blk_far ?_ NB102_105.out _; (with_reducible repeat (first | refine blk_drewN ?_ _ | refine blk_drew ?_ | refine blk_alloc ?_ _)); exact BK102.out⟩
                        have n1_ : Aside0 (((((((((w14.setCell ⟨gb105, 0, none⟩ (.int .i64 ((rd_T60 l0 x17_1).f0))).setCell ⟨gb105, 1, none⟩ (.int .i64 ((rd_T60 l0 x17_1).f1.f0))).setCell ⟨gb105, 2, none⟩ (.int .i64 ((rd_T60 l0 x17_1).f1.f1))).setCell ⟨gb105, 3, none⟩ (.int .i64 ((rd_T60 l0 x17_1).f1.f2))).setCell ⟨gb105, 4, none⟩ (.int .i64 ((rd_T60 l0 x17_1).f1.f3))).setCell ⟨gb105, 5, none⟩ (.int .i64 ((rd_T60 l0 x17_1).f1.f4))).setCell ⟨gb105, 6, none⟩ (.int .i64 ((rd_T60 l0 x17_1).f1.f5))).setCell ⟨gb105, 7, none⟩ (.int .i64 ((rd_T60 l0 x17_1).f1.f6))).heap[gb103]? = some (.cells #[.int .i64 x104000_1, .int .i64 x104001_1, .int .i64 x104002_1, .int .i64 x104003_1, .int .i64 x104004_1, .int .i64 x104005_1, .int .i64 x104006_1] 25 (0, 0))) := ⟨by (with_reducible repeat (first | refine blk_drewN ?_ _ | refine blk_drew ?_ | refine blk_alloc ?_ _)); refine blk_far ?_ NB103_105.out _; (with_reducible repeat (first | refine blk_drewN ?_ _ | refine blk_drew ?_ | refine blk_alloc ?_ _)); refine blk_far ?_ NB103_105.out _; (with_reducible repeat (first | refine blk_drewN ?_ _ | refine blk_drew ?_ | refine blk_alloc ?_ _)); refine blk_far ?_ NB103_105.out _; (with_reducible repeat (first | refine blk_drewN ?_ _ | refine blk_drew ?_ | refine blk_alloc ?_ _)); refine blk_far ?_ NB103_105.out _; (with_reducible repeat (first | refine blk_drewN ?_ _ | refine blk_drew ?_ | refine blk_alloc ?_ _)); refine blk_far ?_ NB103_105.out _; (with_reducible repeat (first | refine blk_drewN ?_ _ | refine blk_drew ?_ | refine blk_alloc ?_ _)); refine blk_far ?_ NB103_105.out _; (with_reducible repeat (first | refine blk_drewN ?_ _ | refine blk_drew ?_ | refine blk_alloc ?_ _)); refine blk_far ?_ NB103_105.out _; (with_reducible repeat (first | refine blk_drewN ?_ _ | refine blk_drew ?_ | refine blk_alloc ?_ _)); refine blk_far ?_ NB103_105.out _; (with_reducible repeat (first | refine blk_drewN ?_ _ | refine blk_drew ?_ | refine blk_alloc ?_ _)); exact BK103.out⟩
                        have n2_ : Aside0 (((((((((w14.setCell ⟨gb105, 0, none⟩ (.int .i64 ((rd_T60 l0 x17_1).f0))).setCell ⟨gb105, 1, none⟩ (.int .i64 ((rd_T60 l0 x17_1).f1.f0))).setCell ⟨gb105, 2, none⟩ (.int .i64 ((rd_T60 l0 x17_1).f1.f1))).setCell ⟨gb105, 3, none⟩ (.int .i64 ((rd_T60 l0 x17_1).f1.f2))).setCell ⟨gb105, 4, none⟩ (.int .i64 ((rd_T60 l0 x17_1).f1.f3))).setCell ⟨gb105, 5, none⟩ (.int .i64 ((rd_T60 l0 x17_1).f1.f4))).setCell ⟨gb105, 6, none⟩ (.int .i64 ((rd_T60 l0 x17_1).f1.f5))).setCell ⟨gb105, 7, none⟩ (.int .i64 ((rd_T60 l0 x17_1).f1.f6))).heap[gb105]? = some (.cells #[.int .i64 ((rd_T60 l0 x17_1).f0), .int .i64 ((rd_T60 l0 x17_1).f1.f0), .int .i64 ((rd_T60 l0 x17_1).f1.f1), .int .i64 ((rd_T60 l0 x17_1).f1.f2), .int .i64 ((rd_T60 l0 x17_1).f1.f3), .int .i64 ((rd_T60 l0 x17_1).f1.f4), .int .i64 ((rd_T60 l0 x17_1).f1.f5), .int .i64 ((rd_T60 l0 x17_1).f1.f6)] 60 (0, 0))) := ⟨by (with_reducible repeat (first | refine blk_drewN ?_ _ | refine blk_drew ?_ | refine blk_alloc ?_ _)); refine blk_put (cs := #[.int .i64 ((rd_T60 l0 x17_1).f0), .int .i64 ((rd_T60 l0 x17_1).f1.f0), .int .i64 ((rd_T60 l0 x17_1).f1.f1), .int .i64 ((rd_T60 l0 x17_1).f1.f2), .int .i64 ((rd_T60 l0 x17_1).f1.f3), .int .i64 ((rd_T60 l0 x17_1).f1.f4), .int .i64 ((rd_T60 l0 x17_1).f1.f5), .int .i64 0]) ?_ 7 _ rfl; (with_reducible repeat (first | refine blk_drewN ?_ _ | refine blk_drew ?_ | refine blk_alloc ?_ _)); refine blk_put (cs := #[.int .i64 ((rd_T60 l0 x17_1).f0), .int .i64 ((rd_T60 l0 x17_1).f1.f0), .int .i64 ((rd_T60 l0 x17_1).f1.f1), .int .i64 ((rd_T60 l0 x17_1).f1.f2), .int .i64 ((rd_T60 l0 x17_1).f1.f3), .int .i64 ((rd_T60 l0 x17_1).f1.f4), .int .i64 0, .int .i64 0]) ?_ 6 _ rfl; (with_reducible repeat (first | refine blk_drewN ?_ _ | refine blk_drew ?_ | refine blk_alloc ?_ _)); refine blk_put (cs := #[.int .i64 ((rd_T60 l0 x17_1).f0), .int .i64 ((rd_T60 l0 x17_1).f1.f0), .int .i64 ((rd_T60 l0 x17_1).f1.f1), .int .i64 ((rd_T60 l0 x17_1).f1.f2), .int .i64 ((rd_T60 l0 x17_1).f1.f3), .int .i64 0, .int .i64 0, .int .i64 0]) ?_ 5 _ rfl; (with_reducible repeat (first | refine blk_drewN ?_ _ | refine blk_drew ?_ | refine blk_alloc ?_ _)); refine blk_put (cs := #[.int .i64 ((rd_T60 l0 x17_1).f0), .int .i64 ((rd_T60 l0 x17_1).f1.f0), .int .i64 ((rd_T60 l0 x17_1).f1.f1), .int .i64 ((rd_T60 l0 x17_1).f1.f2), .int .i64 0, .int .i64 0, .int .i64 0, .int .i64 0]) ?_ 4 _ rfl; (with_reducible repeat (first | refine blk_drewN ?_ _ | refine blk_drew ?_ | refine blk_alloc ?_ _)); refine blk_put (cs := #[.int .i64 ((rd_T60 l0 x17_1).f0), .int .i64 ((rd_T60 l0 x17_1).f1.f0), .int .i64 ((rd_T60 l0 x17_1).f1.f1), .int .i64 0, .int .i64 0, .int .i64 0, .int .i64 0, .int .i64 0]) ?_ 3 _ rfl; (with_reducible repeat (first | refine blk_drewN ?_ _ | refine blk_drew ?_ | refine blk_alloc ?_ _)); refine blk_put (cs := #[.int .i64 ((rd_T60 l0 x17_1).f0), .int .i64 ((rd_T60 l0 x17_1).f1.f0), .int .i64 0, .int .i64 0, .int .i64 0, .int .i64 0, .int .i64 0, .int .i64 0]) ?_ 2 _ rfl; (with_reducible repeat (first | refine blk_drewN ?_ _ | refine blk_drew ?_ | refine blk_alloc ?_ _)); refine blk_put (cs := #[.int .i64 ((rd_T60 l0 x17_1).f0), .int .i64 0, .int .i64 0, .int .i64 0, .int .i64 0, .int .i64 0, .int .i64 0, .int .i64 0]) ?_ 1 _ rfl; (with_reducible repeat (first | refine blk_drewN ?_ _ | refine blk_drew ?_ | refine blk_alloc ?_ _)); refine blk_put (cs := #[.int .i64 0, .int .i64 0, .int .i64 0, .int .i64 0, .int .i64 0, .int .i64 0, .int .i64 0, .int .i64 0]) ?_ 0 _ rfl; (with_reducible repeat (first | refine blk_drewN ?_ _ | refine blk_drew ?_ | refine blk_alloc ?_ _)); exact BK105.out⟩
                        have n3_ : Aside0 (Below w.heap.size w ((((((((w14.setCell ⟨gb105, 0, none⟩ (.int .i64 ((rd_T60 l0 x17_1).f0))).setCell ⟨gb105, 1, none⟩ (.int .i64 ((rd_T60 l0 x17_1).f1.f0))).setCell ⟨gb105, 2, none⟩ (.int .i64 ((rd_T60 l0 x17_1).f1.f1))).setCell ⟨gb105, 3, none⟩ (.int .i64 ((rd_T60 l0 x17_1).f1.f2))).setCell ⟨gb105, 4, none⟩ (.int .i64 ((rd_T60 l0 x17_1).f1.f3))).setCell ⟨gb105, 5, none⟩ (.int .i64 ((rd_T60 l0 x17_1).f1.f4))).setCell ⟨gb105, 6, none⟩ (.int .i64 ((rd_T60 l0 x17_1).f1.f5))).setCell ⟨gb105, 7, none⟩ (.int .i64 ((rd_T60 l0 x17_1).f1.f6)))) := ⟨by repeat (first | (with_reducible first | exact HB.out | apply below_alloc | apply pw_below_drewN | apply below_drew1 | refine below_set ?_ GE102.out | refine below_set ?_ GE103.out | refine below_set ?_ GE105.out) | exact HB.out)⟩
                        (try clear BK102)
                        (try clear BK103)
                        (try clear BK105)
                        (try clear HB)
                        generalize ((((((((w14.setCell ⟨gb105, 0, none⟩ (.int .i64 ((rd_T60 l0 x17_1).f0))).setCell ⟨gb105, 1, none⟩ (.int .i64 ((rd_T60 l0 x17_1).f1.f0))).setCell ⟨gb105, 2, none⟩ (.int .i64 ((rd_T60 l0 x17_1).f1.f1))).setCell ⟨gb105, 3, none⟩ (.int .i64 ((rd_T60 l0 x17_1).f1.f2))).setCell ⟨gb105, 4, none⟩ (.int .i64 ((rd_T60 l0 x17_1).f1.f3))).setCell ⟨gb105, 5, none⟩ (.int .i64 ((rd_T60 l0 x17_1).f1.f4))).setCell ⟨gb105, 6, none⟩ (.int .i64 ((rd_T60 l0 x17_1).f1.f5))).setCell ⟨gb105, 7, none⟩ (.int .i64 ((rd_T60 l0 x17_1).f1.f6))) = w24 at n0_ n1_ n2_ n3_ ⊢
                        have BK102 := n0_
                        have BK103 := n1_
                        have BK105 := n2_
                        have HB := n3_
                        clear n0_ n1_ n2_ n3_
                        have n0_ := Aside0.mk (blk_drew BK102.out)
                        have n1_ := Aside0.mk (blk_drew BK103.out)
                        have n2_ := Aside0.mk (blk_drew BK105.out)
                        have n3_ := Aside0.mk (below_drew1 HB.out)
                        clear BK102
                        clear BK103
                        clear BK105
                        clear HB
                        have BK102 := n0_
                        have BK103 := n1_
                        have BK105 := n2_
                        have HB := n3_
                        clear n0_ n1_ n2_ n3_
                        have p107 : 0 ≤ ((ji21) : Int) := of_decide_eq_true (by first | (with_reducible assumption) | assumption)
                        have q107 : (ji21) < (l0.length : Int) := of_decide_eq_true (by first | (with_reducible assumption) | assumption)
                        obtain ⟨ad107, e107, hx107_0, hx107_1, hx107_2, hx107_3, hx107_4, hx107_5, hx107_6, hx107_7⟩ := at_T60 HR0.out (ji21) p107 q107
                        have hw107_7 := hx107_7
                        have hw107_6 := hx107_6
                        have hw107_5 := hx107_5
                        have hw107_4 := hx107_4
                        have hw107_3 := hx107_3
                        have hw107_2 := hx107_2
                        have hw107_1 := hx107_1
                        have hw107_0 := hx107_0
                        obtain rfl : ad104 = ad107 := (by injection e107)
                        replace hx107_0 := (HB.out.cell (World.block_lt_of_cell? w _ hx107_0)).trans hx107_0
                        replace hx107_1 := (HB.out.cell (World.block_lt_of_cell? w _ hx107_1)).trans hx107_1
                        replace hx107_2 := (HB.out.cell (World.block_lt_of_cell? w _ hx107_2)).trans hx107_2
                        replace hx107_3 := (HB.out.cell (World.block_lt_of_cell? w _ hx107_3)).trans hx107_3
                        replace hx107_4 := (HB.out.cell (World.block_lt_of_cell? w _ hx107_4)).trans hx107_4
                        replace hx107_5 := (HB.out.cell (World.block_lt_of_cell? w _ hx107_5)).trans hx107_5
                        replace hx107_6 := (HB.out.cell (World.block_lt_of_cell? w _ hx107_6)).trans hx107_6
                        replace hx107_7 := (HB.out.cell (World.block_lt_of_cell? w _ hx107_7)).trans hx107_7
                        replace p107 := eq_true p107
                        replace q107 := eq_true q107
                        refine start_ (n := 19) (S := fun w' => w'.cell? ⟨gb105, 0, none⟩ = some (.int .i64 ((rd_T60 l0 x17_1).f0)) ∧ w'.cell? ⟨gb105, 1, none⟩ = some (.int .i64 ((rd_T60 l0 x17_1).f1.f0)) ∧ w'.cell? ⟨gb105, 2, none⟩ = some (.int .i64 ((rd_T60 l0 x17_1).f1.f1)) ∧ w'.cell? ⟨gb105, 3, none⟩ = some (.int .i64 ((rd_T60 l0 x17_1).f1.f2)) ∧ w'.cell? ⟨gb105, 4, none⟩ = some (.int .i64 ((rd_T60 l0 x17_1).f1.f3)) ∧ w'.cell? ⟨gb105, 5, none⟩ = some (.int .i64 ((rd_T60 l0 x17_1).f1.f4)) ∧ w'.cell? ⟨gb105, 6, none⟩ = some (.int .i64 ((rd_T60 l0 x17_1).f1.f5)) ∧ w'.cell? ⟨gb105, 7, none⟩ = some (.int .i64 ((rd_T60 l0 x17_1).f1.f6)) ∧ w'.cell? (ad104.add (((ji21)).toNat * 8)) = some (.int .i64 ((rd_T60 l0 (ji21)).f0)) ∧ w'.cell? ⟨(ad104.add (((ji21)).toNat * 8)).block, (ad104.add (((ji21)).toNat * 8)).off + 1, none⟩ = some (.int .i64 ((rd_T60 l0 (ji21)).f1.f0)) ∧ w'.cell? ⟨(ad104.add (((ji21)).toNat * 8)).block, (ad104.add (((ji21)).toNat * 8)).off + 2, none⟩ = some (.int .i64 ((rd_T60 l0 (ji21)).f1.f1)) ∧ w'.cell? ⟨(ad104.add (((ji21)).toNat * 8)).block, (ad104.add (((ji21)).toNat * 8)).off + 3, none⟩ = some (.int .i64 ((rd_T60 l0 (ji21)).f1.f2)) ∧ w'.cell? ⟨(ad104.add (((ji21)).toNat * 8)).block, (ad104.add (((ji21)).toNat * 8)).off + 4, none⟩ = some (.int .i64 ((rd_T60 l0 (ji21)).f1.f3)) ∧ w'.cell? ⟨(ad104.add (((ji21)).toNat * 8)).block, (ad104.add (((ji21)).toNat * 8)).off + 5, none⟩ = some (.int .i64 ((rd_T60 l0 (ji21)).f1.f4)) ∧ w'.cell? ⟨(ad104.add (((ji21)).toNat * 8)).block, (ad104.add (((ji21)).toNat * 8)).off + 6, none⟩ = some (.int .i64 ((rd_T60 l0 (ji21)).f1.f5)) ∧ w'.cell? ⟨(ad104.add (((ji21)).toNat * 8)).block, (ad104.add (((ji21)).toNat * 8)).off + 7, none⟩ = some (.int .i64 ((rd_T60 l0 (ji21)).f1.f6))) (ds := []) #[false, false, false, false, false, false, false, false, false, false, false, false, false, false, false, false, false, false, false] (by kernel_rfl) rfl rfl ⟨(blk_cell BK105.out 0).trans rfl, (blk_cell BK105.out 1).trans rfl, (blk_cell BK105.out 2).trans rfl, (blk_cell BK105.out 3).trans rfl, (blk_cell BK105.out 4).trans rfl, (blk_cell BK105.out 5).trans rfl, (blk_cell BK105.out 6).trans rfl, (blk_cell BK105.out 7).trans rfl, ((HB.out.cell (World.block_lt_of_cell? w _ hw107_0)).trans hw107_0), ((HB.out.cell (World.block_lt_of_cell? w _ hw107_1)).trans hw107_1), ((HB.out.cell (World.block_lt_of_cell? w _ hw107_2)).trans hw107_2), ((HB.out.cell (World.block_lt_of_cell? w _ hw107_3)).trans hw107_3), ((HB.out.cell (World.block_lt_of_cell? w _ hw107_4)).trans hw107_4), ((HB.out.cell (World.block_lt_of_cell? w _ hw107_5)).trans hw107_5), ((HB.out.cell (World.block_lt_of_cell? w _ hw107_6)).trans hw107_6), ((HB.out.cell (World.block_lt_of_cell? w _ hw107_7)).trans hw107_7)⟩ (fun hHeld => ?_); refine with_tabW spec_LoopAt.tab8 spec_LoopAt.bits8 (fun HT_ HW_ => ?_)
                        generalize w24.drew = w25 at BK102 BK103 BK105 HB hx107_0 hx107_1 hx107_2 hx107_3 hx107_4 hx107_5 hx107_6 hx107_7 hHeld ⊢
                        refine pure_ (i := 0) (N := some 22) (v := ?_) (a' := ?_) #[true, false, false, false, false, false, false, false, false, false, false, false, false, false, false, false, false, false, false] rfl rfl (any_of HT_.out (by kernel_rfl)) (fun _ _ _ h => h) (Or.inl ⟨by rfl, ?_⟩) ?_ ?_
                        rotate_left
                        · intro w'
                          go_simp
                          with_reducible rfl
                        rotate_left
                        · simp only [Act.put, List.setIfInBounds_toArray, List.set_cons_zero, List.set_cons_succ, i64_w, i32_w]
                          rfl
                        refine take_ (i := 1) (N := some 23) (v := ?_) (a' := ?_) #[true, true, false, false, false, false, false, false, false, false, false, false, false, false, false, false, false, false, false] rfl rfl (take_ofW HT_.out HW_.out (by kernel_rfl)) (fun _ _ _ h => h) (Or.inl ⟨by rfl, ?_⟩) hHeld ?_ ?_
                        rotate_left
                        · rintro w' ⟨s0, s1, s2, s3, s4, s5, s6, s7, s8, s9, s10, s11, s12, s13, s14, s15⟩
                          go_simp
                          with_reducible rfl
                        rotate_left
                        · simp only [Act.put, List.setIfInBounds_toArray, List.set_cons_zero, List.set_cons_succ, i64_w, i32_w]
                          rfl
                        refine one_ (i := 2) (N := some 24) #[true, true, true, false, false, false, false, false, false, false, false, false, false, false, false, false, false, false, false] rfl rfl (one_of HT_.out (by kernel_rfl)) (by decide) (fun K hK => ?_)
                        refine goes_ Try.func39 (by kernel_rfl) rfl #[.agg #[.int .i64 ((rd_T60 l0 x17_1).f1.f0), .int .i64 ((rd_T60 l0 x17_1).f1.f1), .int .i64 ((rd_T60 l0 x17_1).f1.f2), .int .i64 ((rd_T60 l0 x17_1).f1.f3), .int .i64 ((rd_T60 l0 x17_1).f1.f4), .int .i64 ((rd_T60 l0 x17_1).f1.f5), .int .i64 ((rd_T60 l0 x17_1).f1.f6)]] (by rfl) rfl rfl (by (try simp only [List.map_toArray, List.map_cons, List.map_nil]); first | done | rfl | (simp only [List.length_drop, List.length_take]; rfl)) ?_
                        with_reducible refine (spec_GoodLoop.calls ((rd_T60 l0 x17_1).f1.f0) ((rd_T60 l0 x17_1).f1.f1) ((rd_T60 l0 x17_1).f1.f2) ((rd_T60 l0 x17_1).f1.f3) ((rd_T60 l0 x17_1).f1.f4) ((rd_T60 l0 x17_1).f1.f5) ((rd_T60 l0 x17_1).f1.f6) true _ A18.out).mono ?_
                        rintro e w26 ⟨rfl, hb⟩
                        refine ⟨_, rfl, ?_⟩
                        have n0_ := Aside0.mk (blk_below (g := gb102) (o := .cells #[.int .i64 x103000_1, .int .i64 x103001_1, .int .i64 x103002_1, .int .i64 x103003_1, .int .i64 x103004_1, .int .i64 x103005_1, .int .i64 x103006_1] 25 (0, 0)) (by (with_reducible repeat (first | refine blk_drewN ?_ _ | refine blk_drew ?_ | refine blk_alloc ?_ _)); exact BK102.out) hb)
                        have n1_ := Aside0.mk (blk_below (g := gb103) (o := .cells #[.int .i64 x104000_1, .int .i64 x104001_1, .int .i64 x104002_1, .int .i64 x104003_1, .int .i64 x104004_1, .int .i64 x104005_1, .int .i64 x104006_1] 25 (0, 0)) (by (with_reducible repeat (first | refine blk_drewN ?_ _ | refine blk_drew ?_ | refine blk_alloc ?_ _)); exact BK103.out) hb)
                        have n2_ := Aside0.mk (blk_below (g := gb105) (o := .cells #[.int .i64 ((rd_T60 l0 x17_1).f0), .int .i64 ((rd_T60 l0 x17_1).f1.f0), .int .i64 ((rd_T60 l0 x17_1).f1.f1), .int .i64 ((rd_T60 l0 x17_1).f1.f2), .int .i64 ((rd_T60 l0 x17_1).f1.f3), .int .i64 ((rd_T60 l0 x17_1).f1.f4), .int .i64 ((rd_T60 l0 x17_1).f1.f5), .int .i64 ((rd_T60 l0 x17_1).f1.f6)] 60 (0, 0)) (by (with_reducible repeat (first | refine blk_drewN ?_ _ | refine blk_drew ?_ | refine blk_alloc ?_ _)); exact BK105.out) hb)
                        have n3_ := Aside0.mk (below_step (by repeat (first | (with_reducible first | exact HB.out | apply below_alloc | apply pw_below_drewN | apply below_drew1 | refine below_set ?_ GE102.out | refine below_set ?_ GE103.out | refine below_set ?_ GE105.out) | exact HB.out)) hb)
                        clear BK102
                        clear BK103
                        clear BK105
                        clear HB
                        have BK102 := n0_
                        have BK103 := n1_
                        have BK105 := n2_
                        have HB := n3_
                        clear n0_ n1_ n2_ n3_
                        (try clear hb)
                        (try clear hb2)
                        (try clear hk)
                        (try clear hi)
                        refine hK.out _ _ ⟨(blk_cell BK105.out 0).trans rfl, (blk_cell BK105.out 1).trans rfl, (blk_cell BK105.out 2).trans rfl, (blk_cell BK105.out 3).trans rfl, (blk_cell BK105.out 4).trans rfl, (blk_cell BK105.out 5).trans rfl, (blk_cell BK105.out 6).trans rfl, (blk_cell BK105.out 7).trans rfl, ((HB.out.cell (World.block_lt_of_cell? w _ hw107_0)).trans hw107_0), ((HB.out.cell (World.block_lt_of_cell? w _ hw107_1)).trans hw107_1), ((HB.out.cell (World.block_lt_of_cell? w _ hw107_2)).trans hw107_2), ((HB.out.cell (World.block_lt_of_cell? w _ hw107_3)).trans hw107_3), ((HB.out.cell (World.block_lt_of_cell? w _ hw107_4)).trans hw107_4), ((HB.out.cell (World.block_lt_of_cell? w _ hw107_5)).trans hw107_5), ((HB.out.cell (World.block_lt_of_cell? w _ hw107_6)).trans hw107_6), ((HB.out.cell (World.block_lt_of_cell? w _ hw107_7)).trans hw107_7)⟩ (fun hHeld => ?_)
                        clear hK K
                        refine norm_ (a' := ?_) ?_ ?_
                        rotate_left
                        · show Act.put _ (some 24) _ = _
                          simp only [Act.put, List.setIfInBounds_toArray, List.set_cons_zero, List.set_cons_succ, i64_w, i32_w]
                          rfl
                        refine pure_ (i := 3) (N := some 25) (v := ?_) (a' := ?_) #[true, true, true, true, false, false, false, false, false, false, false, false, false, false, false, false, false, false, false] rfl rfl (any_of HT_.out (by kernel_rfl)) (fun _ _ _ h => h) (Or.inl ⟨by rfl, ?_⟩) ?_ ?_
                        rotate_left
                        · intro w'
                          go_simp
                          with_reducible rfl
                        rotate_left
                        · simp only [Act.put, List.setIfInBounds_toArray, List.set_cons_zero, List.set_cons_succ, i64_w, i32_w]
                          rfl
                        refine pure_ (i := 4) (N := some 26) (v := ?_) (a' := ?_) #[true, true, true, true, true, false, false, false, false, false, false, false, false, false, false, false, false, false, false] rfl rfl (any_of HT_.out (by kernel_rfl)) (fun _ _ _ h => h) (Or.inl ⟨by rfl, ?_⟩) ?_ ?_
                        rotate_left
                        · intro w'
                          go_simp
                          with_reducible rfl
                        rotate_left
                        · simp only [Act.put, List.setIfInBounds_toArray, List.set_cons_zero, List.set_cons_succ, i64_w, i32_w]
                          rfl
                        refine pure_ (i := 5) (N := some 27) (v := ?_) (a' := ?_) #[true, true, true, true, true, true, false, false, false, false, false, false, false, false, false, false, false, false, false] rfl rfl (any_of HT_.out (by kernel_rfl)) (fun _ _ _ h => h) (Or.inl ⟨by rfl, ?_⟩) ?_ ?_
                        rotate_left
                        · intro w'
                          go_simp
                          with_reducible rfl
                        rotate_left
                        · simp only [Act.put, List.setIfInBounds_toArray, List.set_cons_zero, List.set_cons_succ, i64_w, i32_w]
                          rfl
                        refine pure_ (i := 6) (N := some 28) (v := ?_) (a' := ?_) #[true, true, true, true, true, true, true, false, false, false, false, false, false, false, false, false, false, false, false] rfl rfl (any_of HT_.out (by kernel_rfl)) (fun _ _ _ h => h) (Or.inl ⟨by rfl, ?_⟩) ?_ ?_
                        rotate_left
                        · intro w'
                          go_simp
                          with_reducible rfl
                        rotate_left
                        · simp only [Act.put, List.setIfInBounds_toArray, List.set_cons_zero, List.set_cons_succ, i64_w, i32_w]
                          rfl
                        refine pure_ (i := 7) (N := some 29) (v := ?_) (a' := ?_) #[true, true, true, true, true, true, true, true, false, false, false, false, false, false, false, false, false, false, false] rfl rfl (any_of HT_.out (by kernel_rfl)) (fun _ _ _ h => h) (Or.inl ⟨by rfl, ?_⟩) ?_ ?_
                        rotate_left
                        · intro w'
                          go_simp
                          with_reducible rfl
                        rotate_left
                        · simp only [Act.put, List.setIfInBounds_toArray, List.set_cons_zero, List.set_cons_succ, i64_w, i32_w]
                          rfl
                        refine pure_ (i := 8) (N := some 30) (v := ?_) (a' := ?_) #[true, true, true, true, true, true, true, true, true, false, false, false, false, false, false, false, false, false, false] rfl rfl (any_of HT_.out (by kernel_rfl)) (fun _ _ _ h => h) (Or.inl ⟨by rfl, ?_⟩) ?_ ?_
                        rotate_left
                        · intro w'
                          go_simp
                          with_reducible rfl
                        rotate_left
                        · simp only [Act.put, List.setIfInBounds_toArray, List.set_cons_zero, List.set_cons_succ, i64_w, i32_w]
                          rfl
                        refine pure_ (i := 9) (N := some 31) (v := ?_) (a' := ?_) #[true, true, true, true, true, true, true, true, true, true, false, false, false, false, false, false, false, false, false] rfl rfl (any_of HT_.out (by kernel_rfl)) (fun _ _ _ h => h) (Or.inl ⟨by rfl, ?_⟩) ?_ ?_
                        rotate_left
                        · intro w'
                          go_simp
                          with_reducible rfl
                        rotate_left
                        · simp only [Act.put, List.setIfInBounds_toArray, List.set_cons_zero, List.set_cons_succ, i64_w, i32_w]
                          rfl
                        refine pure_ (i := 10) (N := some 32) (v := ?_) (a' := ?_) #[true, true, true, true, true, true, true, true, true, true, true, false, false, false, false, false, false, false, false] rfl rfl (any_of HT_.out (by kernel_rfl)) (fun _ _ _ h => h) (Or.inl ⟨by rfl, ?_⟩) ?_ ?_
                        rotate_left
                        · intro w'
                          go_simp
                          with_reducible rfl
                        rotate_left
                        · simp only [Act.put, List.setIfInBounds_toArray, List.set_cons_zero, List.set_cons_succ, i64_w, i32_w]
                          rfl
                        refine pure_ (i := 11) (N := some 33) (v := ?_) (a' := ?_) #[true, true, true, true, true, true, true, true, true, true, true, true, false, false, false, false, false, false, false] rfl rfl (any_of HT_.out (by kernel_rfl)) (fun _ _ _ h => h) (Or.inl ⟨by rfl, ?_⟩) ?_ ?_
                        rotate_left
                        · intro w'
                          go_simp
                          with_reducible rfl
                        rotate_left
                        · simp only [Act.put, List.setIfInBounds_toArray, List.set_cons_zero, List.set_cons_succ, i64_w, i32_w]
                          rfl
                        refine pure_ (i := 12) (N := some 34) (v := ?_) (a' := ?_) #[true, true, true, true, true, true, true, true, true, true, true, true, true, false, false, false, false, false, false] rfl rfl (any_of HT_.out (by kernel_rfl)) (fun _ _ _ h => h) (Or.inl ⟨by rfl, ?_⟩) ?_ ?_
                        rotate_left
                        · intro w'
                          go_simp
                          with_reducible rfl
                        rotate_left
                        · simp only [Act.put, List.setIfInBounds_toArray, List.set_cons_zero, List.set_cons_succ, i64_w, i32_w]
                          rfl
                        refine pure_ (i := 14) (N := some 36) (v := ?_) (a' := ?_) #[true, true, true, true, true, true, true, true, true, true, true, true, true, false, true, false, false, false, false] rfl rfl (any_of HT_.out (by kernel_rfl)) (fun _ _ _ h => h) (Or.inl ⟨by rfl, ?_⟩) ?_ ?_
                        rotate_left
                        · intro w'
                          go_simp
                          with_reducible rfl
                        rotate_left
                        · simp only [Act.put, List.setIfInBounds_toArray, List.set_cons_zero, List.set_cons_succ, i64_w, i32_w]
                          rfl
                        refine take_ (i := 13) (N := some 35) (v := ?_) (a' := ?_) #[true, true, true, true, true, true, true, true, true, true, true, true, true, true, true, false, false, false, false] rfl rfl (take_ofW HT_.out HW_.out (by kernel_rfl)) (fun _ _ _ h => h) (Or.inl ⟨by rfl, ?_⟩) hHeld ?_ ?_
                        rotate_left
                        · rintro w' ⟨s0, s1, s2, s3, s4, s5, s6, s7, s8, s9, s10, s11, s12, s13, s14, s15⟩
                          go_simp
                          with_reducible rfl
                        rotate_left
                        · simp only [Act.put, List.setIfInBounds_toArray, List.set_cons_zero, List.set_cons_succ, i64_w, i32_w]
                          rfl
                        refine take_ (i := 15) (N := some 37) (v := ?_) (a' := ?_) #[true, true, true, true, true, true, true, true, true, true, true, true, true, true, true, true, false, false, false] rfl rfl (take_ofW HT_.out HW_.out (by kernel_rfl)) (fun _ _ _ h => h) (Or.inl ⟨by rfl, ?_⟩) hHeld ?_ ?_
                        rotate_left
                        · rintro w' ⟨s0, s1, s2, s3, s4, s5, s6, s7, s8, s9, s10, s11, s12, s13, s14, s15⟩
                          go_simp
                          with_reducible rfl
                        rotate_left
                        · simp only [Act.put, List.setIfInBounds_toArray, List.set_cons_zero, List.set_cons_succ, i64_w, i32_w]
                          rfl
                        refine pure_ (i := 16) (N := some 38) (v := ?_) (a' := ?_) #[true, true, true, true, true, true, true, true, true, true, true, true, true, true, true, true, true, false, false] rfl rfl (any_of HT_.out (by kernel_rfl)) (fun _ _ _ h => h) (Or.inl ⟨by rfl, ?_⟩) ?_ ?_
                        rotate_left
                        · intro w'
                          go_simp
                          with_reducible rfl
                        rotate_left
                        · simp only [Act.put, List.setIfInBounds_toArray, List.set_cons_zero, List.set_cons_succ, i64_w, i32_w]
                          rfl
                        refine pure_ (i := 17) (N := some 39) (v := ?_) (a' := ?_) #[true, true, true, true, true, true, true, true, true, true, true, true, true, true, true, true, true, true, false] rfl rfl (any_of HT_.out (by kernel_rfl)) (fun _ _ _ h => h) (Or.inl ⟨by rfl, ?_⟩) ?_ ?_
                        rotate_left
                        · intro w'
                          go_simp
                          with_reducible rfl
                        rotate_left
                        · simp only [Act.put, List.setIfInBounds_toArray, List.set_cons_zero, List.set_cons_succ, i64_w, i32_w]
                          rfl
                        refine pure_ (i := 18) (N := some 40) (v := ?_) (a' := ?_) #[true, true, true, true, true, true, true, true, true, true, true, true, true, true, true, true, true, true, true] rfl rfl (any_of HT_.out (by kernel_rfl)) (fun _ _ _ h => h) (Or.inl ⟨by rfl, ?_⟩) ?_ ?_
                        rotate_left
                        · intro w'
                          go_simp
                          with_reducible rfl
                        rotate_left
                        · simp only [Act.put, List.setIfInBounds_toArray, List.set_cons_zero, List.set_cons_succ, i64_w, i32_w]
                          rfl
                        refine done_ (done_of HT_.out (by kernel_rfl)) ?_
                        try go_wp2
                        go_meet
                        case rel => exact ⟨_, (decide (((rd_T60 l0 (ji21)).f0) ≥ ((rd_T60 l0 x17_1).f0))), (by first | rfl | (simp; done) | (simp only [← hji21] <;> (first | rfl | simp)) | (simp [*]; done)), H', ⟨by have := HK1.out; first | omega | exact Nat.le_refl _⟩, ⟨by (with_reducible repeat (first | refine blk_drewN ?_ _ | refine blk_drew ?_ | refine blk_alloc ?_ _)); exact BK102.out⟩, ⟨by (with_reducible repeat (first | refine blk_drewN ?_ _ | refine blk_drew ?_ | refine blk_alloc ?_ _)); exact BK103.out⟩, ⟨by (with_reducible repeat (first | refine blk_drewN ?_ _ | refine blk_drew ?_ | refine blk_alloc ?_ _)); exact BK105.out⟩, ⟨by repeat (first | (with_reducible first | exact HB.out | apply below_alloc | apply pw_below_drewN | apply below_drew1 | refine below_set ?_ GE102.out | refine below_set ?_ GE103.out | refine below_set ?_ GE105.out) | exact HB.out)⟩⟩
                      · rw [if_neg c23] at H
                        exact absurd H (by simp)
                    · rw [if_neg c22] at H
                      exact absurd H (by simp)
                  · rw [if_neg c20] at H
                    have c20b0 : decide (0 < x17_1) = false := decide_eq_false c20
                    clear c20
                    (first | rw [c20b0] | (simp only [i64_w, i32_w]; rw [c20b0]) | skip)
                    have H' := Aside0.mk H
                    clear H
                    try go_wp2
                    have n0_ : Aside0 (((((((((w14.setCell ⟨gb105, 0, none⟩ (.int .i64 ((rd_T60 l0 x17_1).f0))).setCell ⟨gb105, 1, none⟩ (.int .i64 ((rd_T60 l0 x17_1).f1.f0))).setCell ⟨gb105, 2, none⟩ (.int .i64 ((rd_T60 l0 x17_1).f1.f1))).setCell ⟨gb105, 3, none⟩ (.int .i64 ((rd_T60 l0 x17_1).f1.f2))).setCell ⟨gb105, 4, none⟩ (.int .i64 ((rd_T60 l0 x17_1).f1.f3))).setCell ⟨gb105, 5, none⟩ (.int .i64 ((rd_T60 l0 x17_1).f1.f4))).setCell ⟨gb105, 6, none⟩ (.int .i64 ((rd_T60 l0 x17_1).f1.f5))).setCell ⟨gb105, 7, none⟩ (.int .i64 ((rd_T60 l0 x17_1).f1.f6))).heap[gb102]? = some (.cells #[.int .i64 x103000_1, .int .i64 x103001_1, .int .i64 x103002_1, .int .i64 x103003_1, .int .i64 x103004_1, .int .i64 x103005_1, .int .i64 x103006_1] 25 (0, 0))) := ⟨by (with_reducible repeat (first | refine blk_drewN ?_ _ | refine blk_drew ?_ | refine blk_alloc ?_ _)); refine blk_far ?_ NB102_105.out _; (with_reducible repeat (first | refine blk_drewN ?_ _ | refine blk_drew ?_ | refine blk_alloc ?_ _)); refine blk_far ?_ NB102_105.out _; (with_reducible repeat (first | refine blk_drewN ?_ _ | refine blk_drew ?_ | refine blk_alloc ?_ _)); refine blk_far ?_ NB102_105.out _; (with_reducible repeat (first | refine blk_drewN ?_ _ | refine blk_drew ?_ | refine blk_alloc ?_ _)); refine blk_far ?_ NB102_105.out _; (with_reducible repeat (first | refine blk_drewN ?_ _ | refine blk_drew ?_ | refine blk_alloc ?_ _)); refine blk_far ?_ NB102_105.out _; (with_reducible repeat (first | refine blk_drewN ?_ _ | refine blk_drew ?_ | refine blk_alloc ?_ _)); refine blk_far ?_ NB102_105.out _; (with_reducible repeat (first | refine blk_drewN ?_ _ | refine blk_drew ?_ | refine blk_alloc ?_ _)); refine blk_far ?_ NB102_105.out _; (with_reducible repeat (first | refine blk_drewN ?_ _ | refine blk_drew ?_ | refine blk_alloc ?_ _)); refine blk_far ?_ NB102_105.out _; (with_reducible repeat (first | refine blk_drewN ?_ _ | refine blk_drew ?_ | refine blk_alloc ?_ _)); exact BK102.out⟩
                    have n1_ : Aside0 (((((((((w14.setCell ⟨gb105, 0, none⟩ (.int .i64 ((rd_T60 l0 x17_1).f0))).setCell ⟨gb105, 1, none⟩ (.int .i64 ((rd_T60 l0 x17_1).f1.f0))).setCell ⟨gb105, 2, none⟩ (.int .i64 ((rd_T60 l0 x17_1).f1.f1))).setCell ⟨gb105, 3, none⟩ (.int .i64 ((rd_T60 l0 x17_1).f1.f2))).setCell ⟨gb105, 4, none⟩ (.int .i64 ((rd_T60 l0 x17_1).f1.f3))).setCell ⟨gb105, 5, none⟩ (.int .i64 ((rd_T60 l0 x17_1).f1.f4))).setCell ⟨gb105, 6, none⟩ (.int .i64 ((rd_T60 l0 x17_1).f1.f5))).setCell ⟨gb105, 7, none⟩ (.int .i64 ((rd_T60 l0 x17_1).f1.f6))).heap[gb103]? = some (.cells #[.int .i64 x104000_1, .int .i64 x104001_1, .int .i64 x104002_1, .int .i64 x104003_1, .int .i64 x104004_1, .int .i64 x104005_1, .int .i64 x104006_1] 25 (0, 0))) := ⟨by (with_reducible repeat (first | refine blk_drewN ?_ _ | refine blk_drew ?_ | refine blk_alloc ?_ _)); refine blk_far ?_ NB103_105.out _; (with_reducible repeat (first | refine blk_drewN ?_ _ | refine blk_drew ?_ | refine blk_alloc ?_ _)); refine blk_far ?_ NB103_105.out _; (with_reducible repeat (first | refine blk_drewN ?_ _ | refine blk_drew ?_ | refine blk_alloc ?_ _)); refine blk_far ?_ NB103_105.out _; (with_reducible repeat (first | refine blk_drewN ?_ _ | refine blk_drew ?_ | refine blk_alloc ?_ _)); refine blk_far ?_ NB103_105.out _; (with_reducible repeat (first | refine blk_drewN ?_ _ | refine blk_drew ?_ | refine blk_alloc ?_ _)); refine blk_far ?_ NB103_105.out _; (with_reducible repeat (first | refine blk_drewN ?_ _ | refine blk_drew ?_ | refine blk_alloc ?_ _)); refine blk_far ?_ NB103_105.out _; (with_reducible repeat (first | refine blk_drewN ?_ _ | refine blk_drew ?_ | refine blk_alloc ?_ _)); refine blk_far ?_ NB103_105.out _; (with_reducible repeat (first | refine blk_drewN ?_ _ | refine blk_drew ?_ | refine blk_alloc ?_ _)); refine blk_far ?_ NB103_105.out _; (with_reducible repeat (first | refine blk_drewN ?_ _ | refine blk_drew ?_ | refine blk_alloc ?_ _)); exact BK103.out⟩
                    have n2_ : Aside0 (((((((((w14.setCell ⟨gb105, 0, none⟩ (.int .i64 ((rd_T60 l0 x17_1).f0))).setCell ⟨gb105, 1, none⟩ (.int .i64 ((rd_T60 l0 x17_1).f1.f0))).setCell ⟨gb105, 2, none⟩ (.int .i64 ((rd_T60 l0 x17_1).f1.f1))).setCell ⟨gb105, 3, none⟩ (.int .i64 ((rd_T60 l0 x17_1).f1.f2))).setCell ⟨gb105, 4, none⟩ (.int .i64 ((rd_T60 l0 x17_1).f1.f3))).setCell ⟨gb105, 5, none⟩ (.int .i64 ((rd_T60 l0 x17_1).f1.f4))).setCell ⟨gb105, 6, none⟩ (.int .i64 ((rd_T60 l0 x17_1).f1.f5))).setCell ⟨gb105, 7, none⟩ (.int .i64 ((rd_T60 l0 x17_1).f1.f6))).heap[gb105]? = some (.cells #[.int .i64 ((rd_T60 l0 x17_1).f0), .int .i64 ((rd_T60 l0 x17_1).f1.f0), .int .i64 ((rd_T60 l0 x17_1).f1.f1), .int .i64 ((rd_T60 l0 x17_1).f1.f2), .int .i64 ((rd_T60 l0 x17_1).f1.f3), .int .i64 ((rd_T60 l0 x17_1).f1.f4), .int .i64 ((rd_T60 l0 x17_1).f1.f5), .int .i64 ((rd_T60 l0 x17_1).f1.f6)] 60 (0, 0))) := ⟨by (with_reducible repeat (first | refine blk_drewN ?_ _ | refine blk_drew ?_ | refine blk_alloc ?_ _)); refine blk_put (cs := #[.int .i64 ((rd_T60 l0 x17_1).f0), .int .i64 ((rd_T60 l0 x17_1).f1.f0), .int .i64 ((rd_T60 l0 x17_1).f1.f1), .int .i64 ((rd_T60 l0 x17_1).f1.f2), .int .i64 ((rd_T60 l0 x17_1).f1.f3), .int .i64 ((rd_T60 l0 x17_1).f1.f4), .int .i64 ((rd_T60 l0 x17_1).f1.f5), .int .i64 0]) ?_ 7 _ rfl; (with_reducible repeat (first | refine blk_drewN ?_ _ | refine blk_drew ?_ | refine blk_alloc ?_ _)); refine blk_put (cs := #[.int .i64 ((rd_T60 l0 x17_1).f0), .int .i64 ((rd_T60 l0 x17_1).f1.f0), .int .i64 ((rd_T60 l0 x17_1).f1.f1), .int .i64 ((rd_T60 l0 x17_1).f1.f2), .int .i64 ((rd_T60 l0 x17_1).f1.f3), .int .i64 ((rd_T60 l0 x17_1).f1.f4), .int .i64 0, .int .i64 0]) ?_ 6 _ rfl; (with_reducible repeat (first | refine blk_drewN ?_ _ | refine blk_drew ?_ | refine blk_alloc ?_ _)); refine blk_put (cs := #[.int .i64 ((rd_T60 l0 x17_1).f0), .int .i64 ((rd_T60 l0 x17_1).f1.f0), .int .i64 ((rd_T60 l0 x17_1).f1.f1), .int .i64 ((rd_T60 l0 x17_1).f1.f2), .int .i64 ((rd_T60 l0 x17_1).f1.f3), .int .i64 0, .int .i64 0, .int .i64 0]) ?_ 5 _ rfl; (with_reducible repeat (first | refine blk_drewN ?_ _ | refine blk_drew ?_ | refine blk_alloc ?_ _)); refine blk_put (cs := #[.int .i64 ((rd_T60 l0 x17_1).f0), .int .i64 ((rd_T60 l0 x17_1).f1.f0), .int .i64 ((rd_T60 l0 x17_1).f1.f1), .int .i64 ((rd_T60 l0 x17_1).f1.f2), .int .i64 0, .int .i64 0, .int .i64 0, .int .i64 0]) ?_ 4 _ rfl; (with_reducible repeat (first | refine blk_drewN ?_ _ | refine blk_drew ?_ | refine blk_alloc ?_ _)); refine blk_put (cs := #[.int .i64 ((rd_T60 l0 x17_1).f0), .int .i64 ((rd_T60 l0 x17_1).f1.f0), .int .i64 ((rd_T60 l0 x17_1).f1.f1), .int .i64 0, .int .i64 0, .int .i64 0, .int .i64 0, .int .i64 0]) ?_ 3 _ rfl; (with_reducible repeat (first | refine blk_drewN ?_ _ | refine blk_drew ?_ | refine blk_alloc ?_ _)); refine blk_put (cs := #[.int .i64 ((rd_T60 l0 x17_1).f0), .int .i64 ((rd_T60 l0 x17_1).f1.f0), .int .i64 0, .int .i64 0, .int .i64 0, .int .i64 0, .int .i64 0, .int .i64 0]) ?_ 2 _ rfl; (with_reducible repeat (first | refine blk_drewN ?_ _ | refine blk_drew ?_ | refine blk_alloc ?_ _)); refine blk_put (cs := #[.int .i64 ((rd_T60 l0 x17_1).f0), .int .i64 0, .int .i64 0, .int .i64 0, .int .i64 0, .int .i64 0, .int .i64 0, .int .i64 0]) ?_ 1 _ rfl; (with_reducible repeat (first | refine blk_drewN ?_ _ | refine blk_drew ?_ | refine blk_alloc ?_ _)); refine blk_put (cs := #[.int .i64 0, .int .i64 0, .int .i64 0, .int .i64 0, .int .i64 0, .int .i64 0, .int .i64 0, .int .i64 0]) ?_ 0 _ rfl; (with_reducible repeat (first | refine blk_drewN ?_ _ | refine blk_drew ?_ | refine blk_alloc ?_ _)); exact BK105.out⟩
                    have n3_ : Aside0 (Below w.heap.size w ((((((((w14.setCell ⟨gb105, 0, none⟩ (.int .i64 ((rd_T60 l0 x17_1).f0))).setCell ⟨gb105, 1, none⟩ (.int .i64 ((rd_T60 l0 x17_1).f1.f0))).setCell ⟨gb105, 2, none⟩ (.int .i64 ((rd_T60 l0 x17_1).f1.f1))).setCell ⟨gb105, 3, none⟩ (.int .i64 ((rd_T60 l0 x17_1).f1.f2))).setCell ⟨gb105, 4, none⟩ (.int .i64 ((rd_T60 l0 x17_1).f1.f3))).setCell ⟨gb105, 5, none⟩ (.int .i64 ((rd_T60 l0 x17_1).f1.f4))).setCell ⟨gb105, 6, none⟩ (.int .i64 ((rd_T60 l0 x17_1).f1.f5))).setCell ⟨gb105, 7, none⟩ (.int .i64 ((rd_T60 l0 x17_1).f1.f6)))) := ⟨by repeat (first | (with_reducible first | exact HB.out | apply below_alloc | apply pw_below_drewN | apply below_drew1 | refine below_set ?_ GE102.out | refine below_set ?_ GE103.out | refine below_set ?_ GE105.out) | exact HB.out)⟩
                    (try clear BK102)
                    (try clear BK103)
                    (try clear BK105)
                    (try clear HB)
                    generalize ((((((((w14.setCell ⟨gb105, 0, none⟩ (.int .i64 ((rd_T60 l0 x17_1).f0))).setCell ⟨gb105, 1, none⟩ (.int .i64 ((rd_T60 l0 x17_1).f1.f0))).setCell ⟨gb105, 2, none⟩ (.int .i64 ((rd_T60 l0 x17_1).f1.f1))).setCell ⟨gb105, 3, none⟩ (.int .i64 ((rd_T60 l0 x17_1).f1.f2))).setCell ⟨gb105, 4, none⟩ (.int .i64 ((rd_T60 l0 x17_1).f1.f3))).setCell ⟨gb105, 5, none⟩ (.int .i64 ((rd_T60 l0 x17_1).f1.f4))).setCell ⟨gb105, 6, none⟩ (.int .i64 ((rd_T60 l0 x17_1).f1.f5))).setCell ⟨gb105, 7, none⟩ (.int .i64 ((rd_T60 l0 x17_1).f1.f6))) = w27 at n0_ n1_ n2_ n3_ ⊢
                    have BK102 := n0_
                    have BK103 := n1_
                    have BK105 := n2_
                    have HB := n3_
                    clear n0_ n1_ n2_ n3_
                    have n0_ := Aside0.mk (blk_drew BK102.out)
                    have n1_ := Aside0.mk (blk_drew BK103.out)
                    have n2_ := Aside0.mk (blk_drew BK105.out)
                    have n3_ := Aside0.mk (below_drew1 HB.out)
                    clear BK102
                    clear BK103
                    clear BK105
                    clear HB
                    have BK102 := n0_
                    have BK103 := n1_
                    have BK105 := n2_
                    have HB := n3_
                    clear n0_ n1_ n2_ n3_
                    refine start_ (n := 19) (S := fun w' => w'.cell? ⟨gb105, 0, none⟩ = some (.int .i64 ((rd_T60 l0 x17_1).f0)) ∧ w'.cell? ⟨gb105, 1, none⟩ = some (.int .i64 ((rd_T60 l0 x17_1).f1.f0)) ∧ w'.cell? ⟨gb105, 2, none⟩ = some (.int .i64 ((rd_T60 l0 x17_1).f1.f1)) ∧ w'.cell? ⟨gb105, 3, none⟩ = some (.int .i64 ((rd_T60 l0 x17_1).f1.f2)) ∧ w'.cell? ⟨gb105, 4, none⟩ = some (.int .i64 ((rd_T60 l0 x17_1).f1.f3)) ∧ w'.cell? ⟨gb105, 5, none⟩ = some (.int .i64 ((rd_T60 l0 x17_1).f1.f4)) ∧ w'.cell? ⟨gb105, 6, none⟩ = some (.int .i64 ((rd_T60 l0 x17_1).f1.f5)) ∧ w'.cell? ⟨gb105, 7, none⟩ = some (.int .i64 ((rd_T60 l0 x17_1).f1.f6))) (ds := []) #[false, false, false, false, false, false, false, false, false, false, false, false, false, false, false, false, false, false, false] (by kernel_rfl) rfl rfl ⟨(blk_cell BK105.out 0).trans rfl, (blk_cell BK105.out 1).trans rfl, (blk_cell BK105.out 2).trans rfl, (blk_cell BK105.out 3).trans rfl, (blk_cell BK105.out 4).trans rfl, (blk_cell BK105.out 5).trans rfl, (blk_cell BK105.out 6).trans rfl, (blk_cell BK105.out 7).trans rfl⟩ (fun hHeld => ?_); refine with_tabW spec_LoopAt.tab8 spec_LoopAt.bits8 (fun HT_ HW_ => ?_)
                    generalize w27.drew = w28 at BK102 BK103 BK105 HB hHeld ⊢
                    refine pure_ (i := 0) (N := some 22) (v := ?_) (a' := ?_) #[true, false, false, false, false, false, false, false, false, false, false, false, false, false, false, false, false, false, false] rfl rfl (any_of HT_.out (by kernel_rfl)) (fun _ _ _ h => h) (Or.inl ⟨by rfl, ?_⟩) ?_ ?_
                    rotate_left
                    · intro w'
                      go_simp
                      with_reducible rfl
                    rotate_left
                    · simp only [Act.put, List.setIfInBounds_toArray, List.set_cons_zero, List.set_cons_succ, i64_w, i32_w]
                      rfl
                    refine take_ (i := 1) (N := some 23) (v := ?_) (a' := ?_) #[true, true, false, false, false, false, false, false, false, false, false, false, false, false, false, false, false, false, false] rfl rfl (take_ofW HT_.out HW_.out (by kernel_rfl)) (fun _ _ _ h => h) (Or.inl ⟨by rfl, ?_⟩) hHeld ?_ ?_
                    rotate_left
                    · rintro w' ⟨s0, s1, s2, s3, s4, s5, s6, s7⟩
                      go_simp
                      with_reducible rfl
                    rotate_left
                    · simp only [Act.put, List.setIfInBounds_toArray, List.set_cons_zero, List.set_cons_succ, i64_w, i32_w]
                      rfl
                    refine one_ (i := 2) (N := some 24) #[true, true, true, false, false, false, false, false, false, false, false, false, false, false, false, false, false, false, false] rfl rfl (one_of HT_.out (by kernel_rfl)) (by decide) (fun K hK => ?_)
                    refine goes_ Try.func39 (by kernel_rfl) rfl #[.agg #[.int .i64 ((rd_T60 l0 x17_1).f1.f0), .int .i64 ((rd_T60 l0 x17_1).f1.f1), .int .i64 ((rd_T60 l0 x17_1).f1.f2), .int .i64 ((rd_T60 l0 x17_1).f1.f3), .int .i64 ((rd_T60 l0 x17_1).f1.f4), .int .i64 ((rd_T60 l0 x17_1).f1.f5), .int .i64 ((rd_T60 l0 x17_1).f1.f6)]] (by rfl) rfl rfl (by (try simp only [List.map_toArray, List.map_cons, List.map_nil]); first | done | rfl | (simp only [List.length_drop, List.length_take]; rfl)) ?_
                    with_reducible refine (spec_GoodLoop.calls ((rd_T60 l0 x17_1).f1.f0) ((rd_T60 l0 x17_1).f1.f1) ((rd_T60 l0 x17_1).f1.f2) ((rd_T60 l0 x17_1).f1.f3) ((rd_T60 l0 x17_1).f1.f4) ((rd_T60 l0 x17_1).f1.f5) ((rd_T60 l0 x17_1).f1.f6) true _ A18.out).mono ?_
                    rintro e w29 ⟨rfl, hb⟩
                    refine ⟨_, rfl, ?_⟩
                    have n0_ := Aside0.mk (blk_below (g := gb102) (o := .cells #[.int .i64 x103000_1, .int .i64 x103001_1, .int .i64 x103002_1, .int .i64 x103003_1, .int .i64 x103004_1, .int .i64 x103005_1, .int .i64 x103006_1] 25 (0, 0)) (by (with_reducible repeat (first | refine blk_drewN ?_ _ | refine blk_drew ?_ | refine blk_alloc ?_ _)); exact BK102.out) hb)
                    have n1_ := Aside0.mk (blk_below (g := gb103) (o := .cells #[.int .i64 x104000_1, .int .i64 x104001_1, .int .i64 x104002_1, .int .i64 x104003_1, .int .i64 x104004_1, .int .i64 x104005_1, .int .i64 x104006_1] 25 (0, 0)) (by (with_reducible repeat (first | refine blk_drewN ?_ _ | refine blk_drew ?_ | refine blk_alloc ?_ _)); exact BK103.out) hb)
                    have n2_ := Aside0.mk (blk_below (g := gb105) (o := .cells #[.int .i64 ((rd_T60 l0 x17_1).f0), .int .i64 ((rd_T60 l0 x17_1).f1.f0), .int .i64 ((rd_T60 l0 x17_1).f1.f1), .int .i64 ((rd_T60 l0 x17_1).f1.f2), .int .i64 ((rd_T60 l0 x17_1).f1.f3), .int .i64 ((rd_T60 l0 x17_1).f1.f4), .int .i64 ((rd_T60 l0 x17_1).f1.f5), .int .i64 ((rd_T60 l0 x17_1).f1.f6)] 60 (0, 0)) (by (with_reducible repeat (first | refine blk_drewN ?_ _ | refine blk_drew ?_ | refine blk_alloc ?_ _)); exact BK105.out) hb)
                    have n3_ := Aside0.mk (below_step (by repeat (first | (with_reducible first | exact HB.out | apply below_alloc | apply pw_below_drewN | apply below_drew1 | refine below_set ?_ GE102.out | refine below_set ?_ GE103.out | refine below_set ?_ GE105.out) | exact HB.out)) hb)
                    clear BK102
                    clear BK103
                    clear BK105
                    clear HB
                    have BK102 := n0_
                    have BK103 := n1_
                    have BK105 := n2_
                    have HB := n3_
                    clear n0_ n1_ n2_ n3_
                    (try clear hb)
                    (try clear hb2)
                    (try clear hk)
                    (try clear hi)
                    refine hK.out _ _ ⟨(blk_cell BK105.out 0).trans rfl, (blk_cell BK105.out 1).trans rfl, (blk_cell BK105.out 2).trans rfl, (blk_cell BK105.out 3).trans rfl, (blk_cell BK105.out 4).trans rfl, (blk_cell BK105.out 5).trans rfl, (blk_cell BK105.out 6).trans rfl, (blk_cell BK105.out 7).trans rfl⟩ (fun hHeld => ?_)
                    clear hK K
                    refine norm_ (a' := ?_) ?_ ?_
                    rotate_left
                    · show Act.put _ (some 24) _ = _
                      simp only [Act.put, List.setIfInBounds_toArray, List.set_cons_zero, List.set_cons_succ, i64_w, i32_w]
                      rfl
                    refine pure_ (i := 3) (N := some 25) (v := ?_) (a' := ?_) #[true, true, true, true, false, false, false, false, false, false, false, false, false, false, false, false, false, false, false] rfl rfl (any_of HT_.out (by kernel_rfl)) (fun _ _ _ h => h) (Or.inl ⟨by rfl, ?_⟩) ?_ ?_
                    rotate_left
                    · intro w'
                      go_simp
                      with_reducible rfl
                    rotate_left
                    · simp only [Act.put, List.setIfInBounds_toArray, List.set_cons_zero, List.set_cons_succ, i64_w, i32_w]
                      rfl
                    refine pure_ (i := 4) (N := some 26) (v := ?_) (a' := ?_) #[true, true, true, true, true, false, false, false, false, false, false, false, false, false, false, false, false, false, false] rfl rfl (any_of HT_.out (by kernel_rfl)) (fun _ _ _ h => h) (Or.inl ⟨by rfl, ?_⟩) ?_ ?_
                    rotate_left
                    · intro w'
                      go_simp
                      with_reducible rfl
                    rotate_left
                    · simp only [Act.put, List.setIfInBounds_toArray, List.set_cons_zero, List.set_cons_succ, i64_w, i32_w]
                      rfl
                    refine pure_ (i := 5) (N := some 27) (v := ?_) (a' := ?_) #[true, true, true, true, true, true, false, false, false, false, false, false, false, false, false, false, false, false, false] rfl rfl (any_of HT_.out (by kernel_rfl)) (fun _ _ _ h => h) (Or.inl ⟨by rfl, ?_⟩) ?_ ?_
                    rotate_left
                    · intro w'
                      go_simp
                      with_reducible rfl
                    rotate_left
                    · simp only [Act.put, List.setIfInBounds_toArray, List.set_cons_zero, List.set_cons_succ, i64_w, i32_w]
                      rfl
                    refine pure_ (i := 6) (N := some 28) (v := ?_) (a' := ?_) #[true, true, true, true, true, true, true, false, false, false, false, false, false, false, false, false, false, false, false] rfl rfl (any_of HT_.out (by kernel_rfl)) (fun _ _ _ h => h) (Or.inl ⟨by rfl, ?_⟩) ?_ ?_
                    rotate_left
                    · intro w'
                      go_simp
                      with_reducible rfl
                    rotate_left
                    · simp only [Act.put, List.setIfInBounds_toArray, List.set_cons_zero, List.set_cons_succ, i64_w, i32_w]
                      rfl
                    refine pure_ (i := 7) (N := some 29) (v := ?_) (a' := ?_) #[true, true, true, true, true, true, true, true, false, false, false, false, false, false, false, false, false, false, false] rfl rfl (any_of HT_.out (by kernel_rfl)) (fun _ _ _ h => h) (Or.inl ⟨by rfl, ?_⟩) ?_ ?_
                    rotate_left
                    · intro w'
                      go_simp
                      with_reducible rfl
                    rotate_left
                    · simp only [Act.put, List.setIfInBounds_toArray, List.set_cons_zero, List.set_cons_succ, i64_w, i32_w]
                      rfl
                    refine pure_ (i := 8) (N := some 30) (v := undef) (a' := ?_) #[true, true, true, true, true, true, true, true, true, false, false, false, false, false, false, false, false, false, false] rfl rfl (any_of HT_.out (by kernel_rfl)) (fun _ _ _ h => h) (Or.inr ⟨by rfl, rfl⟩) ?_ ?_
                    rotate_left
                    · simp only [Act.put, List.setIfInBounds_toArray, List.set_cons_zero, List.set_cons_succ, i64_w, i32_w]
                      rfl
                    refine pure_ (i := 9) (N := some 31) (v := undef) (a' := ?_) #[true, true, true, true, true, true, true, true, true, true, false, false, false, false, false, false, false, false, false] rfl rfl (any_of HT_.out (by kernel_rfl)) (fun _ _ _ h => h) (Or.inr ⟨by rfl, rfl⟩) ?_ ?_
                    rotate_left
                    · simp only [Act.put, List.setIfInBounds_toArray, List.set_cons_zero, List.set_cons_succ, i64_w, i32_w]
                      rfl
                    refine pure_ (i := 10) (N := some 32) (v := undef) (a' := ?_) #[true, true, true, true, true, true, true, true, true, true, true, false, false, false, false, false, false, false, false] rfl rfl (any_of HT_.out (by kernel_rfl)) (fun _ _ _ h => h) (Or.inr ⟨by rfl, rfl⟩) ?_ ?_
                    rotate_left
                    · simp only [Act.put, List.setIfInBounds_toArray, List.set_cons_zero, List.set_cons_succ, i64_w, i32_w]
                      rfl
                    refine pure_ (i := 11) (N := some 33) (v := undef) (a' := ?_) #[true, true, true, true, true, true, true, true, true, true, true, true, false, false, false, false, false, false, false] rfl rfl (any_of HT_.out (by kernel_rfl)) (fun _ _ _ h => h) (Or.inr ⟨by rfl, rfl⟩) ?_ ?_
                    rotate_left
                    · simp only [Act.put, List.setIfInBounds_toArray, List.set_cons_zero, List.set_cons_succ, i64_w, i32_w]
                      rfl
                    refine pure_ (i := 12) (N := some 34) (v := undef) (a' := ?_) #[true, true, true, true, true, true, true, true, true, true, true, true, true, false, false, false, false, false, false] rfl rfl (any_of HT_.out (by kernel_rfl)) (fun _ _ _ h => h) (Or.inr ⟨by rfl, rfl⟩) ?_ ?_
                    rotate_left
                    · simp only [Act.put, List.setIfInBounds_toArray, List.set_cons_zero, List.set_cons_succ, i64_w, i32_w]
                      rfl
                    refine pure_ (i := 13) (N := some 35) (v := undef) (a' := ?_) #[true, true, true, true, true, true, true, true, true, true, true, true, true, true, false, false, false, false, false] rfl rfl (any_of HT_.out (by kernel_rfl)) (fun _ _ _ h => h) (Or.inr ⟨by rfl, rfl⟩) ?_ ?_
                    rotate_left
                    · simp only [Act.put, List.setIfInBounds_toArray, List.set_cons_zero, List.set_cons_succ, i64_w, i32_w]
                      rfl
                    refine pure_ (i := 14) (N := some 36) (v := undef) (a' := ?_) #[true, true, true, true, true, true, true, true, true, true, true, true, true, true, true, false, false, false, false] rfl rfl (any_of HT_.out (by kernel_rfl)) (fun _ _ _ h => h) (Or.inr ⟨by rfl, rfl⟩) ?_ ?_
                    rotate_left
                    · simp only [Act.put, List.setIfInBounds_toArray, List.set_cons_zero, List.set_cons_succ, i64_w, i32_w]
                      rfl
                    refine pure_ (i := 15) (N := some 37) (v := undef) (a' := ?_) #[true, true, true, true, true, true, true, true, true, true, true, true, true, true, true, true, false, false, false] rfl rfl (any_of HT_.out (by kernel_rfl)) (fun _ _ _ h => h) (Or.inr ⟨by rfl, rfl⟩) ?_ ?_
                    rotate_left
                    · simp only [Act.put, List.setIfInBounds_toArray, List.set_cons_zero, List.set_cons_succ, i64_w, i32_w]
                      rfl
                    refine pure_ (i := 16) (N := some 38) (v := undef) (a' := ?_) #[true, true, true, true, true, true, true, true, true, true, true, true, true, true, true, true, true, false, false] rfl rfl (any_of HT_.out (by kernel_rfl)) (fun _ _ _ h => h) (Or.inr ⟨by rfl, rfl⟩) ?_ ?_
                    rotate_left
                    · simp only [Act.put, List.setIfInBounds_toArray, List.set_cons_zero, List.set_cons_succ, i64_w, i32_w]
                      rfl
                    refine pure_ (i := 17) (N := some 39) (v := ?_) (a' := ?_) #[true, true, true, true, true, true, true, true, true, true, true, true, true, true, true, true, true, true, false] rfl rfl (any_of HT_.out (by kernel_rfl)) (fun _ _ _ h => h) (Or.inl ⟨by rfl, ?_⟩) ?_ ?_
                    rotate_left
                    · intro w'
                      go_simp
                      with_reducible rfl
                    rotate_left
                    · simp only [Act.put, List.setIfInBounds_toArray, List.set_cons_zero, List.set_cons_succ, i64_w, i32_w]
                      rfl
                    refine pure_ (i := 18) (N := some 40) (v := ?_) (a' := ?_) #[true, true, true, true, true, true, true, true, true, true, true, true, true, true, true, true, true, true, true] rfl rfl (any_of HT_.out (by kernel_rfl)) (fun _ _ _ h => h) (Or.inl ⟨by rfl, ?_⟩) ?_ ?_
                    rotate_left
                    · intro w'
                      go_simp
                      with_reducible rfl
                    rotate_left
                    · simp only [Act.put, List.setIfInBounds_toArray, List.set_cons_zero, List.set_cons_succ, i64_w, i32_w]
                      rfl
                    refine done_ (done_of HT_.out (by kernel_rfl)) ?_
                    try go_wp2
                    go_meet
                    case rel => exact ⟨_, (false), (by first | rfl | (simp; done) | (simp [*]; done)), H', ⟨by have := HK1.out; first | omega | exact Nat.le_refl _⟩, ⟨by (with_reducible repeat (first | refine blk_drewN ?_ _ | refine blk_drew ?_ | refine blk_alloc ?_ _)); exact BK102.out⟩, ⟨by (with_reducible repeat (first | refine blk_drewN ?_ _ | refine blk_drew ?_ | refine blk_alloc ?_ _)); exact BK103.out⟩, ⟨by (with_reducible repeat (first | refine blk_drewN ?_ _ | refine blk_drew ?_ | refine blk_alloc ?_ _)); exact BK105.out⟩, ⟨by repeat (first | (with_reducible first | exact HB.out | apply below_alloc | apply pw_below_drewN | apply below_drew1 | refine below_set ?_ GE102.out | refine below_set ?_ GE103.out | refine below_set ?_ GE105.out) | exact HB.out)⟩⟩
                · replace c19 := Bool.eq_false_iff.mpr c19
                  subst c19
                  have H1 : (spec_LoopAt.j1 k1 l0 a1 x7_1 l0 (l0.length : Int) x17_1 true x104000_1 x104001_1 x104002_1 x104003_1 x104004_1 x104005_1 x104006_1 ((rd_T60 l0 x17_1).f0) ((rd_T60 l0 x17_1).f1.f0) ((rd_T60 l0 x17_1).f1.f1) ((rd_T60 l0 x17_1).f1.f2) ((rd_T60 l0 x17_1).f1.f3) ((rd_T60 l0 x17_1).f1.f4) ((rd_T60 l0 x17_1).f1.f5) ((rd_T60 l0 x17_1).f1.f6)) = some (r1, r2, r3, r4, r5, r6, r7, r8) := by rw [if_neg (show ¬ (false = true) by decide)] at H; exact H
                  clear H
                  have H := H1
                  clear H1
                  have H' := Aside0.mk H
                  clear H
                  try go_wp2
                  have n0_ : Aside0 (((((((((w14.setCell ⟨gb105, 0, none⟩ (.int .i64 ((rd_T60 l0 x17_1).f0))).setCell ⟨gb105, 1, none⟩ (.int .i64 ((rd_T60 l0 x17_1).f1.f0))).setCell ⟨gb105, 2, none⟩ (.int .i64 ((rd_T60 l0 x17_1).f1.f1))).setCell ⟨gb105, 3, none⟩ (.int .i64 ((rd_T60 l0 x17_1).f1.f2))).setCell ⟨gb105, 4, none⟩ (.int .i64 ((rd_T60 l0 x17_1).f1.f3))).setCell ⟨gb105, 5, none⟩ (.int .i64 ((rd_T60 l0 x17_1).f1.f4))).setCell ⟨gb105, 6, none⟩ (.int .i64 ((rd_T60 l0 x17_1).f1.f5))).setCell ⟨gb105, 7, none⟩ (.int .i64 ((rd_T60 l0 x17_1).f1.f6))).heap[gb102]? = some (.cells #[.int .i64 x103000_1, .int .i64 x103001_1, .int .i64 x103002_1, .int .i64 x103003_1, .int .i64 x103004_1, .int .i64 x103005_1, .int .i64 x103006_1] 25 (0, 0))) := ⟨by (with_reducible repeat (first | refine blk_drewN ?_ _ | refine blk_drew ?_ | refine blk_alloc ?_ _)); refine blk_far ?_ NB102_105.out _; (with_reducible repeat (first | refine blk_drewN ?_ _ | refine blk_drew ?_ | refine blk_alloc ?_ _)); refine blk_far ?_ NB102_105.out _; (with_reducible repeat (first | refine blk_drewN ?_ _ | refine blk_drew ?_ | refine blk_alloc ?_ _)); refine blk_far ?_ NB102_105.out _; (with_reducible repeat (first | refine blk_drewN ?_ _ | refine blk_drew ?_ | refine blk_alloc ?_ _)); refine blk_far ?_ NB102_105.out _; (with_reducible repeat (first | refine blk_drewN ?_ _ | refine blk_drew ?_ | refine blk_alloc ?_ _)); refine blk_far ?_ NB102_105.out _; (with_reducible repeat (first | refine blk_drewN ?_ _ | refine blk_drew ?_ | refine blk_alloc ?_ _)); refine blk_far ?_ NB102_105.out _; (with_reducible repeat (first | refine blk_drewN ?_ _ | refine blk_drew ?_ | refine blk_alloc ?_ _)); refine blk_far ?_ NB102_105.out _; (with_reducible repeat (first | refine blk_drewN ?_ _ | refine blk_drew ?_ | refine blk_alloc ?_ _)); refine blk_far ?_ NB102_105.out _; (with_reducible repeat (first | refine blk_drewN ?_ _ | refine blk_drew ?_ | refine blk_alloc ?_ _)); exact BK102.out⟩
                  have n1_ : Aside0 (((((((((w14.setCell ⟨gb105, 0, none⟩ (.int .i64 ((rd_T60 l0 x17_1).f0))).setCell ⟨gb105, 1, none⟩ (.int .i64 ((rd_T60 l0 x17_1).f1.f0))).setCell ⟨gb105, 2, none⟩ (.int .i64 ((rd_T60 l0 x17_1).f1.f1))).setCell ⟨gb105, 3, none⟩ (.int .i64 ((rd_T60 l0 x17_1).f1.f2))).setCell ⟨gb105, 4, none⟩ (.int .i64 ((rd_T60 l0 x17_1).f1.f3))).setCell ⟨gb105, 5, none⟩ (.int .i64 ((rd_T60 l0 x17_1).f1.f4))).setCell ⟨gb105, 6, none⟩ (.int .i64 ((rd_T60 l0 x17_1).f1.f5))).setCell ⟨gb105, 7, none⟩ (.int .i64 ((rd_T60 l0 x17_1).f1.f6))).heap[gb103]? = some (.cells #[.int .i64 x104000_1, .int .i64 x104001_1, .int .i64 x104002_1, .int .i64 x104003_1, .int .i64 x104004_1, .int .i64 x104005_1, .int .i64 x104006_1] 25 (0, 0))) := ⟨by (with_reducible repeat (first | refine blk_drewN ?_ _ | refine blk_drew ?_ | refine blk_alloc ?_ _)); refine blk_far ?_ NB103_105.out _; (with_reducible repeat (first | refine blk_drewN ?_ _ | refine blk_drew ?_ | refine blk_alloc ?_ _)); refine blk_far ?_ NB103_105.out _; (with_reducible repeat (first | refine blk_drewN ?_ _ | refine blk_drew ?_ | refine blk_alloc ?_ _)); refine blk_far ?_ NB103_105.out _; (with_reducible repeat (first | refine blk_drewN ?_ _ | refine blk_drew ?_ | refine blk_alloc ?_ _)); refine blk_far ?_ NB103_105.out _; (with_reducible repeat (first | refine blk_drewN ?_ _ | refine blk_drew ?_ | refine blk_alloc ?_ _)); refine blk_far ?_ NB103_105.out _; (with_reducible repeat (first | refine blk_drewN ?_ _ | refine blk_drew ?_ | refine blk_alloc ?_ _)); refine blk_far ?_ NB103_105.out _; (with_reducible repeat (first | refine blk_drewN ?_ _ | refine blk_drew ?_ | refine blk_alloc ?_ _)); refine blk_far ?_ NB103_105.out _; (with_reducible repeat (first | refine blk_drewN ?_ _ | refine blk_drew ?_ | refine blk_alloc ?_ _)); refine blk_far ?_ NB103_105.out _; (with_reducible repeat (first | refine blk_drewN ?_ _ | refine blk_drew ?_ | refine blk_alloc ?_ _)); exact BK103.out⟩
                  have n2_ : Aside0 (((((((((w14.setCell ⟨gb105, 0, none⟩ (.int .i64 ((rd_T60 l0 x17_1).f0))).setCell ⟨gb105, 1, none⟩ (.int .i64 ((rd_T60 l0 x17_1).f1.f0))).setCell ⟨gb105, 2, none⟩ (.int .i64 ((rd_T60 l0 x17_1).f1.f1))).setCell ⟨gb105, 3, none⟩ (.int .i64 ((rd_T60 l0 x17_1).f1.f2))).setCell ⟨gb105, 4, none⟩ (.int .i64 ((rd_T60 l0 x17_1).f1.f3))).setCell ⟨gb105, 5, none⟩ (.int .i64 ((rd_T60 l0 x17_1).f1.f4))).setCell ⟨gb105, 6, none⟩ (.int .i64 ((rd_T60 l0 x17_1).f1.f5))).setCell ⟨gb105, 7, none⟩ (.int .i64 ((rd_T60 l0 x17_1).f1.f6))).heap[gb105]? = some (.cells #[.int .i64 ((rd_T60 l0 x17_1).f0), .int .i64 ((rd_T60 l0 x17_1).f1.f0), .int .i64 ((rd_T60 l0 x17_1).f1.f1), .int .i64 ((rd_T60 l0 x17_1).f1.f2), .int .i64 ((rd_T60 l0 x17_1).f1.f3), .int .i64 ((rd_T60 l0 x17_1).f1.f4), .int .i64 ((rd_T60 l0 x17_1).f1.f5), .int .i64 ((rd_T60 l0 x17_1).f1.f6)] 60 (0, 0))) := ⟨by (with_reducible repeat (first | refine blk_drewN ?_ _ | refine blk_drew ?_ | refine blk_alloc ?_ _)); refine blk_put (cs := #[.int .i64 ((rd_T60 l0 x17_1).f0), .int .i64 ((rd_T60 l0 x17_1).f1.f0), .int .i64 ((rd_T60 l0 x17_1).f1.f1), .int .i64 ((rd_T60 l0 x17_1).f1.f2), .int .i64 ((rd_T60 l0 x17_1).f1.f3), .int .i64 ((rd_T60 l0 x17_1).f1.f4), .int .i64 ((rd_T60 l0 x17_1).f1.f5), .int .i64 0]) ?_ 7 _ rfl; (with_reducible repeat (first | refine blk_drewN ?_ _ | refine blk_drew ?_ | refine blk_alloc ?_ _)); refine blk_put (cs := #[.int .i64 ((rd_T60 l0 x17_1).f0), .int .i64 ((rd_T60 l0 x17_1).f1.f0), .int .i64 ((rd_T60 l0 x17_1).f1.f1), .int .i64 ((rd_T60 l0 x17_1).f1.f2), .int .i64 ((rd_T60 l0 x17_1).f1.f3), .int .i64 ((rd_T60 l0 x17_1).f1.f4), .int .i64 0, .int .i64 0]) ?_ 6 _ rfl; (with_reducible repeat (first | refine blk_drewN ?_ _ | refine blk_drew ?_ | refine blk_alloc ?_ _)); refine blk_put (cs := #[.int .i64 ((rd_T60 l0 x17_1).f0), .int .i64 ((rd_T60 l0 x17_1).f1.f0), .int .i64 ((rd_T60 l0 x17_1).f1.f1), .int .i64 ((rd_T60 l0 x17_1).f1.f2), .int .i64 ((rd_T60 l0 x17_1).f1.f3), .int .i64 0, .int .i64 0, .int .i64 0]) ?_ 5 _ rfl; (with_reducible repeat (first | refine blk_drewN ?_ _ | refine blk_drew ?_ | refine blk_alloc ?_ _)); refine blk_put (cs := #[.int .i64 ((rd_T60 l0 x17_1).f0), .int .i64 ((rd_T60 l0 x17_1).f1.f0), .int .i64 ((rd_T60 l0 x17_1).f1.f1), .int .i64 ((rd_T60 l0 x17_1).f1.f2), .int .i64 0, .int .i64 0, .int .i64 0, .int .i64 0]) ?_ 4 _ rfl; (with_reducible repeat (first | refine blk_drewN ?_ _ | refine blk_drew ?_ | refine blk_alloc ?_ _)); refine blk_put (cs := #[.int .i64 ((rd_T60 l0 x17_1).f0), .int .i64 ((rd_T60 l0 x17_1).f1.f0), .int .i64 ((rd_T60 l0 x17_1).f1.f1), .int .i64 0, .int .i64 0, .int .i64 0, .int .i64 0, .int .i64 0]) ?_ 3 _ rfl; (with_reducible repeat (first | refine blk_drewN ?_ _ | refine blk_drew ?_ | refine blk_alloc ?_ _)); refine blk_put (cs := #[.int .i64 ((rd_T60 l0 x17_1).f0), .int .i64 ((rd_T60 l0 x17_1).f1.f0), .int .i64 0, .int .i64 0, .int .i64 0, .int .i64 0, .int .i64 0, .int .i64 0]) ?_ 2 _ rfl; (with_reducible repeat (first | refine blk_drewN ?_ _ | refine blk_drew ?_ | refine blk_alloc ?_ _)); refine blk_put (cs := #[.int .i64 ((rd_T60 l0 x17_1).f0), .int .i64 0, .int .i64 0, .int .i64 0, .int .i64 0, .int .i64 0, .int .i64 0, .int .i64 0]) ?_ 1 _ rfl; (with_reducible repeat (first | refine blk_drewN ?_ _ | refine blk_drew ?_ | refine blk_alloc ?_ _)); refine blk_put (cs := #[.int .i64 0, .int .i64 0, .int .i64 0, .int .i64 0, .int .i64 0, .int .i64 0, .int .i64 0, .int .i64 0]) ?_ 0 _ rfl; (with_reducible repeat (first | refine blk_drewN ?_ _ | refine blk_drew ?_ | refine blk_alloc ?_ _)); exact BK105.out⟩
                  have n3_ : Aside0 (Below w.heap.size w ((((((((w14.setCell ⟨gb105, 0, none⟩ (.int .i64 ((rd_T60 l0 x17_1).f0))).setCell ⟨gb105, 1, none⟩ (.int .i64 ((rd_T60 l0 x17_1).f1.f0))).setCell ⟨gb105, 2, none⟩ (.int .i64 ((rd_T60 l0 x17_1).f1.f1))).setCell ⟨gb105, 3, none⟩ (.int .i64 ((rd_T60 l0 x17_1).f1.f2))).setCell ⟨gb105, 4, none⟩ (.int .i64 ((rd_T60 l0 x17_1).f1.f3))).setCell ⟨gb105, 5, none⟩ (.int .i64 ((rd_T60 l0 x17_1).f1.f4))).setCell ⟨gb105, 6, none⟩ (.int .i64 ((rd_T60 l0 x17_1).f1.f5))).setCell ⟨gb105, 7, none⟩ (.int .i64 ((rd_T60 l0 x17_1).f1.f6)))) := ⟨by repeat (first | (with_reducible first | exact HB.out | apply below_alloc | apply pw_below_drewN | apply below_drew1 | refine below_set ?_ GE102.out | refine below_set ?_ GE103.out | refine below_set ?_ GE105.out) | exact HB.out)⟩
                  (try clear BK102)
                  (try clear BK103)
                  (try clear BK105)
                  (try clear HB)
                  generalize ((((((((w14.setCell ⟨gb105, 0, none⟩ (.int .i64 ((rd_T60 l0 x17_1).f0))).setCell ⟨gb105, 1, none⟩ (.int .i64 ((rd_T60 l0 x17_1).f1.f0))).setCell ⟨gb105, 2, none⟩ (.int .i64 ((rd_T60 l0 x17_1).f1.f1))).setCell ⟨gb105, 3, none⟩ (.int .i64 ((rd_T60 l0 x17_1).f1.f2))).setCell ⟨gb105, 4, none⟩ (.int .i64 ((rd_T60 l0 x17_1).f1.f3))).setCell ⟨gb105, 5, none⟩ (.int .i64 ((rd_T60 l0 x17_1).f1.f4))).setCell ⟨gb105, 6, none⟩ (.int .i64 ((rd_T60 l0 x17_1).f1.f5))).setCell ⟨gb105, 7, none⟩ (.int .i64 ((rd_T60 l0 x17_1).f1.f6))) = w30 at n0_ n1_ n2_ n3_ ⊢
                  have BK102 := n0_
                  have BK103 := n1_
                  have BK105 := n2_
                  have HB := n3_
                  clear n0_ n1_ n2_ n3_
                  have n0_ := Aside0.mk (blk_drew BK102.out)
                  have n1_ := Aside0.mk (blk_drew BK103.out)
                  have n2_ := Aside0.mk (blk_drew BK105.out)
                  have n3_ := Aside0.mk (below_drew1 HB.out)
                  clear BK102
                  clear BK103
                  clear BK105
                  clear HB
                  have BK102 := n0_
                  have BK103 := n1_
                  have BK105 := n2_
                  have HB := n3_
                  clear n0_ n1_ n2_ n3_
                  refine start_ (n := 19) (S := fun w' => w'.cell? ⟨gb105, 0, none⟩ = some (.int .i64 ((rd_T60 l0 x17_1).f0)) ∧ w'.cell? ⟨gb105, 1, none⟩ = some (.int .i64 ((rd_T60 l0 x17_1).f1.f0)) ∧ w'.cell? ⟨gb105, 2, none⟩ = some (.int .i64 ((rd_T60 l0 x17_1).f1.f1)) ∧ w'.cell? ⟨gb105, 3, none⟩ = some (.int .i64 ((rd_T60 l0 x17_1).f1.f2)) ∧ w'.cell? ⟨gb105, 4, none⟩ = some (.int .i64 ((rd_T60 l0 x17_1).f1.f3)) ∧ w'.cell? ⟨gb105, 5, none⟩ = some (.int .i64 ((rd_T60 l0 x17_1).f1.f4)) ∧ w'.cell? ⟨gb105, 6, none⟩ = some (.int .i64 ((rd_T60 l0 x17_1).f1.f5)) ∧ w'.cell? ⟨gb105, 7, none⟩ = some (.int .i64 ((rd_T60 l0 x17_1).f1.f6))) (ds := []) #[false, false, false, false, false, false, false, false, false, false, false, false, false, false, false, false, false, false, false] (by kernel_rfl) rfl rfl ⟨(blk_cell BK105.out 0).trans rfl, (blk_cell BK105.out 1).trans rfl, (blk_cell BK105.out 2).trans rfl, (blk_cell BK105.out 3).trans rfl, (blk_cell BK105.out 4).trans rfl, (blk_cell BK105.out 5).trans rfl, (blk_cell BK105.out 6).trans rfl, (blk_cell BK105.out 7).trans rfl⟩ (fun hHeld => ?_); refine with_tabW spec_LoopAt.tab8 spec_LoopAt.bits8 (fun HT_ HW_ => ?_)
                  generalize w30.drew = w31 at BK102 BK103 BK105 HB hHeld ⊢
                  refine pure_ (i := 0) (N := some 22) (v := ?_) (a' := ?_) #[true, false, false, false, false, false, false, false, false, false, false, false, false, false, false, false, false, false, false] rfl rfl (any_of HT_.out (by kernel_rfl)) (fun _ _ _ h => h) (Or.inl ⟨by rfl, ?_⟩) ?_ ?_
                  rotate_left
                  · intro w'
                    go_simp
                    with_reducible rfl
                  rotate_left
                  · simp only [Act.put, List.setIfInBounds_toArray, List.set_cons_zero, List.set_cons_succ, i64_w, i32_w]
                    rfl
                  refine take_ (i := 1) (N := some 23) (v := ?_) (a' := ?_) #[true, true, false, false, false, false, false, false, false, false, false, false, false, false, false, false, false, false, false] rfl rfl (take_ofW HT_.out HW_.out (by kernel_rfl)) (fun _ _ _ h => h) (Or.inl ⟨by rfl, ?_⟩) hHeld ?_ ?_
                  rotate_left
                  · rintro w' ⟨s0, s1, s2, s3, s4, s5, s6, s7⟩
                    go_simp
                    with_reducible rfl
                  rotate_left
                  · simp only [Act.put, List.setIfInBounds_toArray, List.set_cons_zero, List.set_cons_succ, i64_w, i32_w]
                    rfl
                  refine one_ (i := 2) (N := some 24) #[true, true, true, false, false, false, false, false, false, false, false, false, false, false, false, false, false, false, false] rfl rfl (one_of HT_.out (by kernel_rfl)) (by decide) (fun K hK => ?_)
                  refine goes_ Try.func39 (by kernel_rfl) rfl #[.agg #[.int .i64 ((rd_T60 l0 x17_1).f1.f0), .int .i64 ((rd_T60 l0 x17_1).f1.f1), .int .i64 ((rd_T60 l0 x17_1).f1.f2), .int .i64 ((rd_T60 l0 x17_1).f1.f3), .int .i64 ((rd_T60 l0 x17_1).f1.f4), .int .i64 ((rd_T60 l0 x17_1).f1.f5), .int .i64 ((rd_T60 l0 x17_1).f1.f6)]] (by rfl) rfl rfl (by (try simp only [List.map_toArray, List.map_cons, List.map_nil]); first | done | rfl | (simp only [List.length_drop, List.length_take]; rfl)) ?_
                  with_reducible refine (spec_GoodLoop.calls ((rd_T60 l0 x17_1).f1.f0) ((rd_T60 l0 x17_1).f1.f1) ((rd_T60 l0 x17_1).f1.f2) ((rd_T60 l0 x17_1).f1.f3) ((rd_T60 l0 x17_1).f1.f4) ((rd_T60 l0 x17_1).f1.f5) ((rd_T60 l0 x17_1).f1.f6) false _ A18.out).mono ?_
                  rintro e w32 ⟨rfl, hb⟩
                  refine ⟨_, rfl, ?_⟩
                  have n0_ := Aside0.mk (blk_below (g := gb102) (o := .cells #[.int .i64 x103000_1, .int .i64 x103001_1, .int .i64 x103002_1, .int .i64 x103003_1, .int .i64 x103004_1, .int .i64 x103005_1, .int .i64 x103006_1] 25 (0, 0)) (by (with_reducible repeat (first | refine blk_drewN ?_ _ | refine blk_drew ?_ | refine blk_alloc ?_ _)); exact BK102.out) hb)
                  have n1_ := Aside0.mk (blk_below (g := gb103) (o := .cells #[.int .i64 x104000_1, .int .i64 x104001_1, .int .i64 x104002_1, .int .i64 x104003_1, .int .i64 x104004_1, .int .i64 x104005_1, .int .i64 x104006_1] 25 (0, 0)) (by (with_reducible repeat (first | refine blk_drewN ?_ _ | refine blk_drew ?_ | refine blk_alloc ?_ _)); exact BK103.out) hb)
                  have n2_ := Aside0.mk (blk_below (g := gb105) (o := .cells #[.int .i64 ((rd_T60 l0 x17_1).f0), .int .i64 ((rd_T60 l0 x17_1).f1.f0), .int .i64 ((rd_T60 l0 x17_1).f1.f1), .int .i64 ((rd_T60 l0 x17_1).f1.f2), .int .i64 ((rd_T60 l0 x17_1).f1.f3), .int .i64 ((rd_T60 l0 x17_1).f1.f4), .int .i64 ((rd_T60 l0 x17_1).f1.f5), .int .i64 ((rd_T60 l0 x17_1).f1.f6)] 60 (0, 0)) (by (with_reducible repeat (first | refine blk_drewN ?_ _ | refine blk_drew ?_ | refine blk_alloc ?_ _)); exact BK105.out) hb)
                  have n3_ := Aside0.mk (below_step (by repeat (first | (with_reducible first | exact HB.out | apply below_alloc | apply pw_below_drewN | apply below_drew1 | refine below_set ?_ GE102.out | refine below_set ?_ GE103.out | refine below_set ?_ GE105.out) | exact HB.out)) hb)
                  clear BK102
                  clear BK103
                  clear BK105
                  clear HB
                  have BK102 := n0_
                  have BK103 := n1_
                  have BK105 := n2_
                  have HB := n3_
                  clear n0_ n1_ n2_ n3_
                  (try clear hb)
                  (try clear hb2)
                  (try clear hk)
                  (try clear hi)
                  refine hK.out _ _ ⟨(blk_cell BK105.out 0).trans rfl, (blk_cell BK105.out 1).trans rfl, (blk_cell BK105.out 2).trans rfl, (blk_cell BK105.out 3).trans rfl, (blk_cell BK105.out 4).trans rfl, (blk_cell BK105.out 5).trans rfl, (blk_cell BK105.out 6).trans rfl, (blk_cell BK105.out 7).trans rfl⟩ (fun hHeld => ?_)
                  clear hK K
                  refine norm_ (a' := ?_) ?_ ?_
                  rotate_left
                  · show Act.put _ (some 24) _ = _
                    simp only [Act.put, List.setIfInBounds_toArray, List.set_cons_zero, List.set_cons_succ, i64_w, i32_w]
                    rfl
                  refine pure_ (i := 3) (N := some 25) (v := ?_) (a' := ?_) #[true, true, true, true, false, false, false, false, false, false, false, false, false, false, false, false, false, false, false] rfl rfl (any_of HT_.out (by kernel_rfl)) (fun _ _ _ h => h) (Or.inl ⟨by rfl, ?_⟩) ?_ ?_
                  rotate_left
                  · intro w'
                    go_simp
                    with_reducible rfl
                  rotate_left
                  · simp only [Act.put, List.setIfInBounds_toArray, List.set_cons_zero, List.set_cons_succ, i64_w, i32_w]
                    rfl
                  refine pure_ (i := 4) (N := some 26) (v := ?_) (a' := ?_) #[true, true, true, true, true, false, false, false, false, false, false, false, false, false, false, false, false, false, false] rfl rfl (any_of HT_.out (by kernel_rfl)) (fun _ _ _ h => h) (Or.inl ⟨by rfl, ?_⟩) ?_ ?_
                  rotate_left
                  · intro w'
                    go_simp
                    with_reducible rfl
                  rotate_left
                  · simp only [Act.put, List.setIfInBounds_toArray, List.set_cons_zero, List.set_cons_succ, i64_w, i32_w]
                    rfl
                  refine pure_ (i := 5) (N := some 27) (v := undef) (a' := ?_) #[true, true, true, true, true, true, false, false, false, false, false, false, false, false, false, false, false, false, false] rfl rfl (any_of HT_.out (by kernel_rfl)) (fun _ _ _ h => h) (Or.inr ⟨by rfl, rfl⟩) ?_ ?_
                  rotate_left
                  · simp only [Act.put, List.setIfInBounds_toArray, List.set_cons_zero, List.set_cons_succ, i64_w, i32_w]
                    rfl
                  refine pure_ (i := 6) (N := some 28) (v := undef) (a' := ?_) #[true, true, true, true, true, true, true, false, false, false, false, false, false, false, false, false, false, false, false] rfl rfl (any_of HT_.out (by kernel_rfl)) (fun _ _ _ h => h) (Or.inr ⟨by rfl, rfl⟩) ?_ ?_
                  rotate_left
                  · simp only [Act.put, List.setIfInBounds_toArray, List.set_cons_zero, List.set_cons_succ, i64_w, i32_w]
                    rfl
                  refine pure_ (i := 7) (N := some 29) (v := undef) (a' := ?_) #[true, true, true, true, true, true, true, true, false, false, false, false, false, false, false, false, false, false, false] rfl rfl (any_of HT_.out (by kernel_rfl)) (fun _ _ _ h => h) (Or.inr ⟨by rfl, rfl⟩) ?_ ?_
                  rotate_left
                  · simp only [Act.put, List.setIfInBounds_toArray, List.set_cons_zero, List.set_cons_succ, i64_w, i32_w]
                    rfl
                  refine pure_ (i := 8) (N := some 30) (v := undef) (a' := ?_) #[true, true, true, true, true, true, true, true, true, false, false, false, false, false, false, false, false, false, false] rfl rfl (any_of HT_.out (by kernel_rfl)) (fun _ _ _ h => h) (Or.inr ⟨by rfl, rfl⟩) ?_ ?_
                  rotate_left
                  · simp only [Act.put, List.setIfInBounds_toArray, List.set_cons_zero, List.set_cons_succ, i64_w, i32_w]
                    rfl
                  refine pure_ (i := 9) (N := some 31) (v := undef) (a' := ?_) #[true, true, true, true, true, true, true, true, true, true, false, false, false, false, false, false, false, false, false] rfl rfl (any_of HT_.out (by kernel_rfl)) (fun _ _ _ h => h) (Or.inr ⟨by rfl, rfl⟩) ?_ ?_
                  rotate_left
                  · simp only [Act.put, List.setIfInBounds_toArray, List.set_cons_zero, List.set_cons_succ, i64_w, i32_w]
                    rfl
                  refine pure_ (i := 10) (N := some 32) (v := undef) (a' := ?_) #[true, true, true, true, true, true, true, true, true, true, true, false, false, false, false, false, false, false, false] rfl rfl (any_of HT_.out (by kernel_rfl)) (fun _ _ _ h => h) (Or.inr ⟨by rfl, rfl⟩) ?_ ?_
                  rotate_left
                  · simp only [Act.put, List.setIfInBounds_toArray, List.set_cons_zero, List.set_cons_succ, i64_w, i32_w]
                    rfl
                  refine pure_ (i := 11) (N := some 33) (v := undef) (a' := ?_) #[true, true, true, true, true, true, true, true, true, true, true, true, false, false, false, false, false, false, false] rfl rfl (any_of HT_.out (by kernel_rfl)) (fun _ _ _ h => h) (Or.inr ⟨by rfl, rfl⟩) ?_ ?_
                  rotate_left
                  · simp only [Act.put, List.setIfInBounds_toArray, List.set_cons_zero, List.set_cons_succ, i64_w, i32_w]
                    rfl
                  refine pure_ (i := 12) (N := some 34) (v := undef) (a' := ?_) #[true, true, true, true, true, true, true, true, true, true, true, true, true, false, false, false, false, false, false] rfl rfl (any_of HT_.out (by kernel_rfl)) (fun _ _ _ h => h) (Or.inr ⟨by rfl, rfl⟩) ?_ ?_
                  rotate_left
                  · simp only [Act.put, List.setIfInBounds_toArray, List.set_cons_zero, List.set_cons_succ, i64_w, i32_w]
                    rfl
                  refine pure_ (i := 13) (N := some 35) (v := undef) (a' := ?_) #[true, true, true, true, true, true, true, true, true, true, true, true, true, true, false, false, false, false, false] rfl rfl (any_of HT_.out (by kernel_rfl)) (fun _ _ _ h => h) (Or.inr ⟨by rfl, rfl⟩) ?_ ?_
                  rotate_left
                  · simp only [Act.put, List.setIfInBounds_toArray, List.set_cons_zero, List.set_cons_succ, i64_w, i32_w]
                    rfl
                  refine pure_ (i := 14) (N := some 36) (v := undef) (a' := ?_) #[true, true, true, true, true, true, true, true, true, true, true, true, true, true, true, false, false, false, false] rfl rfl (any_of HT_.out (by kernel_rfl)) (fun _ _ _ h => h) (Or.inr ⟨by rfl, rfl⟩) ?_ ?_
                  rotate_left
                  · simp only [Act.put, List.setIfInBounds_toArray, List.set_cons_zero, List.set_cons_succ, i64_w, i32_w]
                    rfl
                  refine pure_ (i := 15) (N := some 37) (v := undef) (a' := ?_) #[true, true, true, true, true, true, true, true, true, true, true, true, true, true, true, true, false, false, false] rfl rfl (any_of HT_.out (by kernel_rfl)) (fun _ _ _ h => h) (Or.inr ⟨by rfl, rfl⟩) ?_ ?_
                  rotate_left
                  · simp only [Act.put, List.setIfInBounds_toArray, List.set_cons_zero, List.set_cons_succ, i64_w, i32_w]
                    rfl
                  refine pure_ (i := 16) (N := some 38) (v := undef) (a' := ?_) #[true, true, true, true, true, true, true, true, true, true, true, true, true, true, true, true, true, false, false] rfl rfl (any_of HT_.out (by kernel_rfl)) (fun _ _ _ h => h) (Or.inr ⟨by rfl, rfl⟩) ?_ ?_
                  rotate_left
                  · simp only [Act.put, List.setIfInBounds_toArray, List.set_cons_zero, List.set_cons_succ, i64_w, i32_w]
                    rfl
                  refine pure_ (i := 17) (N := some 39) (v := undef) (a' := ?_) #[true, true, true, true, true, true, true, true, true, true, true, true, true, true, true, true, true, true, false] rfl rfl (any_of HT_.out (by kernel_rfl)) (fun _ _ _ h => h) (Or.inr ⟨by rfl, rfl⟩) ?_ ?_
                  rotate_left
                  · simp only [Act.put, List.setIfInBounds_toArray, List.set_cons_zero, List.set_cons_succ, i64_w, i32_w]
                    rfl
                  refine pure_ (i := 18) (N := some 40) (v := ?_) (a' := ?_) #[true, true, true, true, true, true, true, true, true, true, true, true, true, true, true, true, true, true, true] rfl rfl (any_of HT_.out (by kernel_rfl)) (fun _ _ _ h => h) (Or.inl ⟨by rfl, ?_⟩) ?_ ?_
                  rotate_left
                  · intro w'
                    go_simp
                    with_reducible rfl
                  rotate_left
                  · simp only [Act.put, List.setIfInBounds_toArray, List.set_cons_zero, List.set_cons_succ, i64_w, i32_w]
                    rfl
                  refine done_ (done_of HT_.out (by kernel_rfl)) ?_
                  try go_wp2
                  go_meet
                  case rel => exact ⟨_, (true), (by first | rfl | (simp; done) | (simp [*]; done)), H', ⟨by have := HK1.out; first | omega | exact Nat.le_refl _⟩, ⟨by (with_reducible repeat (first | refine blk_drewN ?_ _ | refine blk_drew ?_ | refine blk_alloc ?_ _)); exact BK102.out⟩, ⟨by (with_reducible repeat (first | refine blk_drewN ?_ _ | refine blk_drew ?_ | refine blk_alloc ?_ _)); exact BK103.out⟩, ⟨by (with_reducible repeat (first | refine blk_drewN ?_ _ | refine blk_drew ?_ | refine blk_alloc ?_ _)); exact BK105.out⟩, ⟨by repeat (first | (with_reducible first | exact HB.out | apply below_alloc | apply pw_below_drewN | apply below_drew1 | refine below_set ?_ GE102.out | refine below_set ?_ GE103.out | refine below_set ?_ GE105.out) | exact HB.out)⟩⟩
              case rest =>
                clear HC13
                try clear c1
                try clear p1
                try clear q1
                try clear hx1
                try clear c2
                try clear p2
                try clear c3
                try clear p6
                try clear p10
                try clear q10
                try clear hx10
                try clear c19
                try clear c20
                try clear c20b0
                try clear c22
                try clear c22b0
                try clear c23
                try clear c23b0
                try clear hx107_0
                try clear hx107_1
                try clear hx107_2
                try clear hx107_3
                try clear hx107_4
                try clear hx107_5
                try clear hx107_6
                try clear hx107_7
                try clear p107
                try clear q107
                obtain ⟨kq, x40_12, rfl, HA, HJ12, BK102, BK103, BK105, HB⟩ := hcut
                cases kq with
                | zero => exact absurd HA.out (by simp [spec_LoopAt.j1])
                | succ kj12 =>
                  have H := HA.out
                  clear HA
                  simp only [spec_LoopAt.j1] at H
                  by_cases c33 : x40_12 = true
                  · subst c33
                    have H1 : (some (0, 0, 0, 0, 0, 0, 0, false)) = some (r1, r2, r3, r4, r5, r6, r7, r8) := by rw [if_pos rfl] at H; exact H
                    clear H
                    have H := H1
                    clear H1
                    simp only [Option.some.injEq, Prod.mk.injEq] at H
                    obtain ⟨rfl, rfl, rfl, rfl, rfl, rfl, rfl, rfl⟩ := H
                    have hnb34 := NB102_103.out
                    have hnc34 := NB103_102.out
                    have hnb35 := NB102_105.out
                    have hnc35 := NB105_102.out
                    have hcz36_0 : wc.cell? ⟨gb102, 0, none⟩ = some (.int .i64 x103000_1) := (blk_cell BK102.out 0).trans rfl
                    have hcz36_1 : wc.cell? ⟨gb102, 1, none⟩ = some (.int .i64 x103001_1) := (blk_cell BK102.out 1).trans rfl
                    have hcz36_2 : wc.cell? ⟨gb102, 2, none⟩ = some (.int .i64 x103002_1) := (blk_cell BK102.out 2).trans rfl
                    have hcz36_3 : wc.cell? ⟨gb102, 3, none⟩ = some (.int .i64 x103003_1) := (blk_cell BK102.out 3).trans rfl
                    have hcz36_4 : wc.cell? ⟨gb102, 4, none⟩ = some (.int .i64 x103004_1) := (blk_cell BK102.out 4).trans rfl
                    have hcz36_5 : wc.cell? ⟨gb102, 5, none⟩ = some (.int .i64 x103005_1) := (blk_cell BK102.out 5).trans rfl
                    have hcz36_6 : wc.cell? ⟨gb102, 6, none⟩ = some (.int .i64 x103006_1) := (blk_cell BK102.out 6).trans rfl
                    have hfz36_0 := blk_frozen BK102.out 0
                    have hfz36_1 := blk_frozen BK102.out 1
                    have hfz36_2 := blk_frozen BK102.out 2
                    have hfz36_3 := blk_frozen BK102.out 3
                    have hfz36_4 := blk_frozen BK102.out 4
                    have hfz36_5 := blk_frozen BK102.out 5
                    have hfz36_6 := blk_frozen BK102.out 6
                    go_wp2
                    refine bodyPost_ret (results_ct rfl _ _ gb102 25 #[.int .i64 0, .int .i64 0, .int .i64 0, .int .i64 0, .int .i64 0, .int .i64 0, .int .i64 0] (0, 0) _ rfl (by (with_reducible repeat (first | refine blk_drewN ?_ _ | refine blk_drew ?_ | refine blk_alloc ?_ _)); refine blk_put (cs := #[.int .i64 0, .int .i64 0, .int .i64 0, .int .i64 0, .int .i64 0, .int .i64 0, .int .i64 x103006_1]) ?_ 6 _ rfl; (with_reducible repeat (first | refine blk_drewN ?_ _ | refine blk_drew ?_ | refine blk_alloc ?_ _)); refine blk_put (cs := #[.int .i64 0, .int .i64 0, .int .i64 0, .int .i64 0, .int .i64 0, .int .i64 x103005_1, .int .i64 x103006_1]) ?_ 5 _ rfl; (with_reducible repeat (first | refine blk_drewN ?_ _ | refine blk_drew ?_ | refine blk_alloc ?_ _)); refine blk_put (cs := #[.int .i64 0, .int .i64 0, .int .i64 0, .int .i64 0, .int .i64 x103004_1, .int .i64 x103005_1, .int .i64 x103006_1]) ?_ 4 _ rfl; (with_reducible repeat (first | refine blk_drewN ?_ _ | refine blk_drew ?_ | refine blk_alloc ?_ _)); refine blk_put (cs := #[.int .i64 0, .int .i64 0, .int .i64 0, .int .i64 x103003_1, .int .i64 x103004_1, .int .i64 x103005_1, .int .i64 x103006_1]) ?_ 3 _ rfl; (with_reducible repeat (first | refine blk_drewN ?_ _ | refine blk_drew ?_ | refine blk_alloc ?_ _)); refine blk_put (cs := #[.int .i64 0, .int .i64 0, .int .i64 x103002_1, .int .i64 x103003_1, .int .i64 x103004_1, .int .i64 x103005_1, .int .i64 x103006_1]) ?_ 2 _ rfl; (with_reducible repeat (first | refine blk_drewN ?_ _ | refine blk_drew ?_ | refine blk_alloc ?_ _)); refine blk_put (cs := #[.int .i64 0, .int .i64 x103001_1, .int .i64 x103002_1, .int .i64 x103003_1, .int .i64 x103004_1, .int .i64 x103005_1, .int .i64 x103006_1]) ?_ 1 _ rfl; (with_reducible repeat (first | refine blk_drewN ?_ _ | refine blk_drew ?_ | refine blk_alloc ?_ _)); refine blk_put (cs := #[.int .i64 x103000_1, .int .i64 x103001_1, .int .i64 x103002_1, .int .i64 x103003_1, .int .i64 x103004_1, .int .i64 x103005_1, .int .i64 x103006_1]) ?_ 0 _ rfl; (with_reducible repeat (first | refine blk_drewN ?_ _ | refine blk_drew ?_ | refine blk_alloc ?_ _)); exact BK102.out) Try.underlying25 rfl (by kernel_rfl)) rfl ?_
                    exact ⟨by first | rfl | (simp [errW_none, errW_some] <;> rfl) | (simp [*, errW_none, errW_some] <;> rfl), by repeat (first | (with_reducible first | exact HB.out | apply below_alloc | apply pw_below_drewN | apply below_drew1 | refine below_set ?_ GE102.out | refine below_set ?_ GE103.out | refine below_set ?_ GE105.out) | exact HB.out)⟩
                  · replace c33 := Bool.eq_false_iff.mpr c33
                    subst c33
                    have H1 : (if ((rd_T60 l0 x17_1).f0) ≤ a1 then (spec_LoopAt.l0 kj12 l0 a1 true l0 (l0.length : Int) (wrap64 (x17_1 + 1)) ((rd_T60 l0 x17_1).f1.f0) ((rd_T60 l0 x17_1).f1.f1) ((rd_T60 l0 x17_1).f1.f2) ((rd_T60 l0 x17_1).f1.f3) ((rd_T60 l0 x17_1).f1.f4) ((rd_T60 l0 x17_1).f1.f5) ((rd_T60 l0 x17_1).f1.f6)) else (spec_LoopAt.l0 kj12 l0 a1 x7_1 l0 (l0.length : Int) (wrap64 (x17_1 + 1)) x104000_1 x104001_1 x104002_1 x104003_1 x104004_1 x104005_1 x104006_1)) = some (r1, r2, r3, r4, r5, r6, r7, r8) := by rw [if_neg (show ¬ (false = true) by decide)] at H; exact H
                    clear H
                    have H := H1
                    clear H1
                    by_cases c37 : ((rd_T60 l0 x17_1).f0) ≤ a1
                    · rw [if_pos c37] at H
                      have c37b0 : decide (((rd_T60 l0 x17_1).f0) ≤ a1) = true := decide_eq_true c37
                      clear c37
                      have H' := Aside0.mk H
                      clear H
                      have hnb38 := NB105_102.out
                      have hnc38 := NB102_105.out
                      have hnb39 := NB105_103.out
                      have hnc39 := NB103_105.out
                      have hcz40_0 : wc.cell? ⟨gb105, 0, none⟩ = some (.int .i64 ((rd_T60 l0 x17_1).f0)) := (blk_cell BK105.out 0).trans rfl
                      have hcz40_1 : wc.cell? ⟨gb105, 1, none⟩ = some (.int .i64 ((rd_T60 l0 x17_1).f1.f0)) := (blk_cell BK105.out 1).trans rfl
                      have hcz40_2 : wc.cell? ⟨gb105, 2, none⟩ = some (.int .i64 ((rd_T60 l0 x17_1).f1.f1)) := (blk_cell BK105.out 2).trans rfl
                      have hcz40_3 : wc.cell? ⟨gb105, 3, none⟩ = some (.int .i64 ((rd_T60 l0 x17_1).f1.f2)) := (blk_cell BK105.out 3).trans rfl
                      have hcz40_4 : wc.cell? ⟨gb105, 4, none⟩ = some (.int .i64 ((rd_T60 l0 x17_1).f1.f3)) := (blk_cell BK105.out 4).trans rfl
                      have hcz40_5 : wc.cell? ⟨gb105, 5, none⟩ = some (.int .i64 ((rd_T60 l0 x17_1).f1.f4)) := (blk_cell BK105.out 5).trans rfl
                      have hcz40_6 : wc.cell? ⟨gb105, 6, none⟩ = some (.int .i64 ((rd_T60 l0 x17_1).f1.f5)) := (blk_cell BK105.out 6).trans rfl
                      have hcz40_7 : wc.cell? ⟨gb105, 7, none⟩ = some (.int .i64 ((rd_T60 l0 x17_1).f1.f6)) := (blk_cell BK105.out 7).trans rfl
                      have hfz40_0 := blk_frozen BK105.out 0
                      have hfz40_1 := blk_frozen BK105.out 1
                      have hfz40_2 := blk_frozen BK105.out 2
                      have hfz40_3 := blk_frozen BK105.out 3
                      have hfz40_4 := blk_frozen BK105.out 4
                      have hfz40_5 := blk_frozen BK105.out 5
                      have hfz40_6 := blk_frozen BK105.out 6
                      have hfz40_7 := blk_frozen BK105.out 7
                      have hnb41 := NB103_102.out
                      have hnc41 := NB102_103.out
                      have hcz42_0 : wc.cell? ⟨gb103, 0, none⟩ = some (.int .i64 x104000_1) := (blk_cell BK103.out 0).trans rfl
                      have hcz42_1 : wc.cell? ⟨gb103, 1, none⟩ = some (.int .i64 x104001_1) := (blk_cell BK103.out 1).trans rfl
                      have hcz42_2 : wc.cell? ⟨gb103, 2, none⟩ = some (.int .i64 x104002_1) := (blk_cell BK103.out 2).trans rfl
                      have hcz42_3 : wc.cell? ⟨gb103, 3, none⟩ = some (.int .i64 x104003_1) := (blk_cell BK103.out 3).trans rfl
                      have hcz42_4 : wc.cell? ⟨gb103, 4, none⟩ = some (.int .i64 x104004_1) := (blk_cell BK103.out 4).trans rfl
                      have hcz42_5 : wc.cell? ⟨gb103, 5, none⟩ = some (.int .i64 x104005_1) := (blk_cell BK103.out 5).trans rfl
                      have hcz42_6 : wc.cell? ⟨gb103, 6, none⟩ = some (.int .i64 x104006_1) := (blk_cell BK103.out 6).trans rfl
                      have hfz42_0 := blk_frozen BK103.out 0
                      have hfz42_1 := blk_frozen BK103.out 1
                      have hfz42_2 := blk_frozen BK103.out 2
                      have hfz42_3 := blk_frozen BK103.out 3
                      have hfz42_4 := blk_frozen BK103.out 4
                      have hfz42_5 := blk_frozen BK103.out 5
                      have hfz42_6 := blk_frozen BK103.out 6
                      go_wp2
                      go_roundg kj12
                      case measure => have := HK1.out; have := HJ12.out; omega
                      case rel => exact ⟨(true), (wrap64 (x17_1 + 1)), (x103000_1), (x103001_1), (x103002_1), (x103003_1), (x103004_1), (x103005_1), (x103006_1), (((rd_T60 l0 x17_1).f1.f0)), (((rd_T60 l0 x17_1).f1.f1)), (((rd_T60 l0 x17_1).f1.f2)), (((rd_T60 l0 x17_1).f1.f3)), (((rd_T60 l0 x17_1).f1.f4)), (((rd_T60 l0 x17_1).f1.f5)), (((rd_T60 l0 x17_1).f1.f6)), (by first | rfl | (simp; done) | (simp [*]; done)), (by first | rfl | (simp; done) | (simp [*]; done)), H', ⟨by have := HK1.out; have := HJ12.out; omega⟩, ⟨by (with_reducible repeat (first | refine blk_drewN ?_ _ | refine blk_drew ?_ | refine blk_alloc ?_ _)); refine blk_far ?_ NB102_103.out _; (with_reducible repeat (first | refine blk_drewN ?_ _ | refine blk_drew ?_ | refine blk_alloc ?_ _)); refine blk_far ?_ NB102_103.out _; (with_reducible repeat (first | refine blk_drewN ?_ _ | refine blk_drew ?_ | refine blk_alloc ?_ _)); refine blk_far ?_ NB102_103.out _; (with_reducible repeat (first | refine blk_drewN ?_ _ | refine blk_drew ?_ | refine blk_alloc ?_ _)); refine blk_far ?_ NB102_103.out _; (with_reducible repeat (first | refine blk_drewN ?_ _ | refine blk_drew ?_ | refine blk_alloc ?_ _)); refine blk_far ?_ NB102_103.out _; (with_reducible repeat (first | refine blk_drewN ?_ _ | refine blk_drew ?_ | refine blk_alloc ?_ _)); refine blk_far ?_ NB102_103.out _; (with_reducible repeat (first | refine blk_drewN ?_ _ | refine blk_drew ?_ | refine blk_alloc ?_ _)); refine blk_far ?_ NB102_103.out _; (with_reducible repeat (first | refine blk_drewN ?_ _ | refine blk_drew ?_ | refine blk_alloc ?_ _)); exact BK102.out⟩, ⟨by (with_reducible repeat (first | refine blk_drewN ?_ _ | refine blk_drew ?_ | refine blk_alloc ?_ _)); refine blk_put (cs := #[.int .i64 ((rd_T60 l0 x17_1).f1.f0), .int .i64 ((rd_T60 l0 x17_1).f1.f1), .int .i64 ((rd_T60 l0 x17_1).f1.f2), .int .i64 ((rd_T60 l0 x17_1).f1.f3), .int .i64 ((rd_T60 l0 x17_1).f1.f4), .int .i64 ((rd_T60 l0 x17_1).f1.f5), .int .i64 x104006_1]) ?_ 6 _ rfl; (with_reducible repeat (first | refine blk_drewN ?_ _ | refine blk_drew ?_ | refine blk_alloc ?_ _)); refine blk_put (cs := #[.int .i64 ((rd_T60 l0 x17_1).f1.f0), .int .i64 ((rd_T60 l0 x17_1).f1.f1), .int .i64 ((rd_T60 l0 x17_1).f1.f2), .int .i64 ((rd_T60 l0 x17_1).f1.f3), .int .i64 ((rd_T60 l0 x17_1).f1.f4), .int .i64 x104005_1, .int .i64 x104006_1]) ?_ 5 _ rfl; (with_reducible repeat (first | refine blk_drewN ?_ _ | refine blk_drew ?_ | refine blk_alloc ?_ _)); refine blk_put (cs := #[.int .i64 ((rd_T60 l0 x17_1).f1.f0), .int .i64 ((rd_T60 l0 x17_1).f1.f1), .int .i64 ((rd_T60 l0 x17_1).f1.f2), .int .i64 ((rd_T60 l0 x17_1).f1.f3), .int .i64 x104004_1, .int .i64 x104005_1, .int .i64 x104006_1]) ?_ 4 _ rfl; (with_reducible repeat (first | refine blk_drewN ?_ _ | refine blk_drew ?_ | refine blk_alloc ?_ _)); refine blk_put (cs := #[.int .i64 ((rd_T60 l0 x17_1).f1.f0), .int .i64 ((rd_T60 l0 x17_1).f1.f1), .int .i64 ((rd_T60 l0 x17_1).f1.f2), .int .i64 x104003_1, .int .i64 x104004_1, .int .i64 x104005_1, .int .i64 x104006_1]) ?_ 3 _ rfl; (with_reducible repeat (first | refine blk_drewN ?_ _ | refine blk_drew ?_ | refine blk_alloc ?_ _)); refine blk_put (cs := #[.int .i64 ((rd_T60 l0 x17_1).f1.f0), .int .i64 ((rd_T60 l0 x17_1).f1.f1), .int .i64 x104002_1, .int .i64 x104003_1, .int .i64 x104004_1, .int .i64 x104005_1, .int .i64 x104006_1]) ?_ 2 _ rfl; (with_reducible repeat (first | refine blk_drewN ?_ _ | refine blk_drew ?_ | refine blk_alloc ?_ _)); refine blk_put (cs := #[.int .i64 ((rd_T60 l0 x17_1).f1.f0), .int .i64 x104001_1, .int .i64 x104002_1, .int .i64 x104003_1, .int .i64 x104004_1, .int .i64 x104005_1, .int .i64 x104006_1]) ?_ 1 _ rfl; (with_reducible repeat (first | refine blk_drewN ?_ _ | refine blk_drew ?_ | refine blk_alloc ?_ _)); refine blk_put (cs := #[.int .i64 x104000_1, .int .i64 x104001_1, .int .i64 x104002_1, .int .i64 x104003_1, .int .i64 x104004_1, .int .i64 x104005_1, .int .i64 x104006_1]) ?_ 0 _ rfl; (with_reducible repeat (first | refine blk_drewN ?_ _ | refine blk_drew ?_ | refine blk_alloc ?_ _)); exact BK103.out⟩, ⟨by repeat (first | (with_reducible first | exact HB.out | apply below_alloc | apply pw_below_drewN | apply below_drew1 | refine below_set ?_ GE102.out | refine below_set ?_ GE103.out | refine below_set ?_ GE105.out) | exact HB.out)⟩⟩
                    · rw [if_neg c37] at H
                      have c37b0 : decide (((rd_T60 l0 x17_1).f0) ≤ a1) = false := decide_eq_false c37
                      clear c37
                      have H' := Aside0.mk H
                      clear H
                      have hnb43 := NB105_102.out
                      have hnc43 := NB102_105.out
                      have hnb44 := NB105_103.out
                      have hnc44 := NB103_105.out
                      have hcz45_0 : wc.cell? ⟨gb105, 0, none⟩ = some (.int .i64 ((rd_T60 l0 x17_1).f0)) := (blk_cell BK105.out 0).trans rfl
                      have hcz45_1 : wc.cell? ⟨gb105, 1, none⟩ = some (.int .i64 ((rd_T60 l0 x17_1).f1.f0)) := (blk_cell BK105.out 1).trans rfl
                      have hcz45_2 : wc.cell? ⟨gb105, 2, none⟩ = some (.int .i64 ((rd_T60 l0 x17_1).f1.f1)) := (blk_cell BK105.out 2).trans rfl
                      have hcz45_3 : wc.cell? ⟨gb105, 3, none⟩ = some (.int .i64 ((rd_T60 l0 x17_1).f1.f2)) := (blk_cell BK105.out 3).trans rfl
                      have hcz45_4 : wc.cell? ⟨gb105, 4, none⟩ = some (.int .i64 ((rd_T60 l0 x17_1).f1.f3)) := (blk_cell BK105.out 4).trans rfl
                      have hcz45_5 : wc.cell? ⟨gb105, 5, none⟩ = some (.int .i64 ((rd_T60 l0 x17_1).f1.f4)) := (blk_cell BK105.out 5).trans rfl
                      have hcz45_6 : wc.cell? ⟨gb105, 6, none⟩ = some (.int .i64 ((rd_T60 l0 x17_1).f1.f5)) := (blk_cell BK105.out 6).trans rfl
                      have hcz45_7 : wc.cell? ⟨gb105, 7, none⟩ = some (.int .i64 ((rd_T60 l0 x17_1).f1.f6)) := (blk_cell BK105.out 7).trans rfl
                      have hfz45_0 := blk_frozen BK105.out 0
                      have hfz45_1 := blk_frozen BK105.out 1
                      have hfz45_2 := blk_frozen BK105.out 2
                      have hfz45_3 := blk_frozen BK105.out 3
                      have hfz45_4 := blk_frozen BK105.out 4
                      have hfz45_5 := blk_frozen BK105.out 5
                      have hfz45_6 := blk_frozen BK105.out 6
                      have hfz45_7 := blk_frozen BK105.out 7
                      go_wp2
                      go_roundg kj12
                      case measure => have := HK1.out; have := HJ12.out; omega
                      case rel => exact ⟨(x7_1), (wrap64 (x17_1 + 1)), (x103000_1), (x103001_1), (x103002_1), (x103003_1), (x103004_1), (x103005_1), (x103006_1), (x104000_1), (x104001_1), (x104002_1), (x104003_1), (x104004_1), (x104005_1), (x104006_1), (by first | rfl | (simp; done) | (simp [*]; done)), (by first | rfl | (simp; done) | (simp [*]; done)), H', ⟨by have := HK1.out; have := HJ12.out; omega⟩, ⟨by (with_reducible repeat (first | refine blk_drewN ?_ _ | refine blk_drew ?_ | refine blk_alloc ?_ _)); exact BK102.out⟩, ⟨by (with_reducible repeat (first | refine blk_drewN ?_ _ | refine blk_drew ?_ | refine blk_alloc ?_ _)); exact BK103.out⟩, ⟨by repeat (first | (with_reducible first | exact HB.out | apply below_alloc | apply pw_below_drewN | apply below_drew1 | refine below_set ?_ GE102.out | refine below_set ?_ GE103.out | refine below_set ?_ GE105.out) | exact HB.out)⟩⟩
            · rw [if_neg c12] at H
              exact absurd H (by simp)
          · rw [if_neg c11] at H
            exact absurd H (by simp)
        · rw [if_neg c10] at H
          have c10b0 : decide (x17_1 < (l0.length : Int)) = false := decide_eq_false c10
          clear c10
          simp only [Option.some.injEq, Prod.mk.injEq] at H
          obtain ⟨rfl, rfl, rfl, rfl, rfl, rfl, rfl, rfl⟩ := H
          have hnb46 := NB103_102.out
          have hnc46 := NB102_103.out
          have hcz47_0 : wr.cell? ⟨gb103, 0, none⟩ = some (.int .i64 x104000_1) := (blk_cell BK103.out 0).trans rfl
          have hcz47_1 : wr.cell? ⟨gb103, 1, none⟩ = some (.int .i64 x104001_1) := (blk_cell BK103.out 1).trans rfl
          have hcz47_2 : wr.cell? ⟨gb103, 2, none⟩ = some (.int .i64 x104002_1) := (blk_cell BK103.out 2).trans rfl
          have hcz47_3 : wr.cell? ⟨gb103, 3, none⟩ = some (.int .i64 x104003_1) := (blk_cell BK103.out 3).trans rfl
          have hcz47_4 : wr.cell? ⟨gb103, 4, none⟩ = some (.int .i64 x104004_1) := (blk_cell BK103.out 4).trans rfl
          have hcz47_5 : wr.cell? ⟨gb103, 5, none⟩ = some (.int .i64 x104005_1) := (blk_cell BK103.out 5).trans rfl
          have hcz47_6 : wr.cell? ⟨gb103, 6, none⟩ = some (.int .i64 x104006_1) := (blk_cell BK103.out 6).trans rfl
          have hfz47_0 := blk_frozen BK103.out 0
          have hfz47_1 := blk_frozen BK103.out 1
          have hfz47_2 := blk_frozen BK103.out 2
          have hfz47_3 := blk_frozen BK103.out 3
          have hfz47_4 := blk_frozen BK103.out 4
          have hfz47_5 := blk_frozen BK103.out 5
          have hfz47_6 := blk_frozen BK103.out 6
          have hcz48_0 : wr.cell? ⟨gb102, 0, none⟩ = some (.int .i64 x103000_1) := (blk_cell BK102.out 0).trans rfl
          have hcz48_1 : wr.cell? ⟨gb102, 1, none⟩ = some (.int .i64 x103001_1) := (blk_cell BK102.out 1).trans rfl
          have hcz48_2 : wr.cell? ⟨gb102, 2, none⟩ = some (.int .i64 x103002_1) := (blk_cell BK102.out 2).trans rfl
          have hcz48_3 : wr.cell? ⟨gb102, 3, none⟩ = some (.int .i64 x103003_1) := (blk_cell BK102.out 3).trans rfl
          have hcz48_4 : wr.cell? ⟨gb102, 4, none⟩ = some (.int .i64 x103004_1) := (blk_cell BK102.out 4).trans rfl
          have hcz48_5 : wr.cell? ⟨gb102, 5, none⟩ = some (.int .i64 x103005_1) := (blk_cell BK102.out 5).trans rfl
          have hcz48_6 : wr.cell? ⟨gb102, 6, none⟩ = some (.int .i64 x103006_1) := (blk_cell BK102.out 6).trans rfl
          have hfz48_0 := blk_frozen BK102.out 0
          have hfz48_1 := blk_frozen BK102.out 1
          have hfz48_2 := blk_frozen BK102.out 2
          have hfz48_3 := blk_frozen BK102.out 3
          have hfz48_4 := blk_frozen BK102.out 4
          have hfz48_5 := blk_frozen BK102.out 5
          have hfz48_6 := blk_frozen BK102.out 6
          go_wp2
          refine bodyPost_ret (results_ct rfl _ _ gb102 25 #[.int .i64 x104000_1, .int .i64 x104001_1, .int .i64 x104002_1, .int .i64 x104003_1, .int .i64 x104004_1, .int .i64 x104005_1, .int .i64 x104006_1] (0, 0) _ rfl (by (with_reducible repeat (first | refine blk_drewN ?_ _ | refine blk_drew ?_ | refine blk_alloc ?_ _)); refine blk_put (cs := #[.int .i64 x104000_1, .int .i64 x104001_1, .int .i64 x104002_1, .int .i64 x104003_1, .int .i64 x104004_1, .int .i64 x104005_1, .int .i64 x103006_1]) ?_ 6 _ rfl; (with_reducible repeat (first | refine blk_drewN ?_ _ | refine blk_drew ?_ | refine blk_alloc ?_ _)); refine blk_put (cs := #[.int .i64 x104000_1, .int .i64 x104001_1, .int .i64 x104002_1, .int .i64 x104003_1, .int .i64 x104004_1, .int .i64 x103005_1, .int .i64 x103006_1]) ?_ 5 _ rfl; (with_reducible repeat (first | refine blk_drewN ?_ _ | refine blk_drew ?_ | refine blk_alloc ?_ _)); refine blk_put (cs := #[.int .i64 x104000_1, .int .i64 x104001_1, .int .i64 x104002_1, .int .i64 x104003_1, .int .i64 x103004_1, .int .i64 x103005_1, .int .i64 x103006_1]) ?_ 4 _ rfl; (with_reducible repeat (first | refine blk_drewN ?_ _ | refine blk_drew ?_ | refine blk_alloc ?_ _)); refine blk_put (cs := #[.int .i64 x104000_1, .int .i64 x104001_1, .int .i64 x104002_1, .int .i64 x103003_1, .int .i64 x103004_1, .int .i64 x103005_1, .int .i64 x103006_1]) ?_ 3 _ rfl; (with_reducible repeat (first | refine blk_drewN ?_ _ | refine blk_drew ?_ | refine blk_alloc ?_ _)); refine blk_put (cs := #[.int .i64 x104000_1, .int .i64 x104001_1, .int .i64 x103002_1, .int .i64 x103003_1, .int .i64 x103004_1, .int .i64 x103005_1, .int .i64 x103006_1]) ?_ 2 _ rfl; (with_reducible repeat (first | refine blk_drewN ?_ _ | refine blk_drew ?_ | refine blk_alloc ?_ _)); refine blk_put (cs := #[.int .i64 x104000_1, .int .i64 x103001_1, .int .i64 x103002_1, .int .i64 x103003_1, .int .i64 x103004_1, .int .i64 x103005_1, .int .i64 x103006_1]) ?_ 1 _ rfl; (with_reducible repeat (first | refine blk_drewN ?_ _ | refine blk_drew ?_ | refine blk_alloc ?_ _)); refine blk_put (cs := #[.int .i64 x103000_1, .int .i64 x103001_1, .int .i64 x103002_1, .int .i64 x103003_1, .int .i64 x103004_1, .int .i64 x103005_1, .int .i64 x103006_1]) ?_ 0 _ rfl; (with_reducible repeat (first | refine blk_drewN ?_ _ | refine blk_drew ?_ | refine blk_alloc ?_ _)); exact BK102.out) Try.underlying25 rfl (by kernel_rfl)) rfl ?_
          exact ⟨by first | rfl | (simp [errW_none, errW_some] <;> rfl) | (simp [*, errW_none, errW_some] <;> rfl), by repeat (first | (with_reducible first | exact HB.out | apply below_alloc | apply pw_below_drewN | apply below_drew1 | refine below_set ?_ GE102.out | refine below_set ?_ GE103.out) | exact HB.out)⟩

end Go.Proofs.Ytonafpbnjgdlgaa.PFnExactLoopAt
