-- PRINTED BY print.sh 35421559b90ae4d0a3588c463048766b98c2df88dd9212a6774a882060cdf62d: not written by this session
import Derived.Test.YtonafpbnjgdlgaaPFnExactLoopAtx0
import Derived.Test.YtonafpbnjgdlgaaPFnExactLoopAtx3
namespace Go.Proofs.Ytonafpbnjgdlgaa.PFnExactLoopAt
open Go.RowKit Go.Proofs.YtonafpbnjgdlgaaW.PrintWords Go.Proofs.YtonafpbnjgdlgaaW.PrintLast Go.Proofs.YtonafpbnjgdlgaaW.PrintMore
attribute [local go_sem] max2_int min2_int max_two min_two max_three min_three max_four min_four   -- for this text's walks alone
set_option linter.unusedVariables false
set_option linter.unusedSimpArgs false

/-! ### impl_LoopAt: function 14 -/
mutual
def impl_LoopAt.l0 : Nat → List (S60) → Int → Bool → List (S60) → Int → Int → Int → Int → Int → Int → Int → Int → Int → Option (Int × Int × Int × Int × Int × Int × Int × Bool)
  | 0, _, _, _, _, _, _, _, _, _, _, _, _, _ => none
  | k + 1, x0, x1, x7, x14, x15, x16, x144000, x144001, x144002, x144003, x144004, x144005, x144006 => if x16 < x15 then (if 0 ≤ x16 then (if x16 < (x14.length : Int) then ((impl_GoodLoop.f ((rd_T60 x14 x16).f1.f0) ((rd_T60 x14 x16).f1.f1) ((rd_T60 x14 x16).f1.f2) ((rd_T60 x14 x16).f1.f3) ((rd_T60 x14 x16).f1.f4) ((rd_T60 x14 x16).f1.f5) ((rd_T60 x14 x16).f1.f6)).bind fun t146 => (if t146 = true then (if x16 > 0 then (if 0 ≤ (wrap64 (x16 - 1)) then (if (wrap64 (x16 - 1)) < (x0.length : Int) then (impl_LoopAt.j1 k x0 x1 x7 x14 x15 x16 (decide (((rd_T60 x14 x16).f0) ≤ ((rd_T60 x0 (wrap64 (x16 - 1))).f0))) x144000 x144001 x144002 x144003 x144004 x144005 x144006 ((rd_T60 x14 x16).f0) ((rd_T60 x14 x16).f1.f0) ((rd_T60 x14 x16).f1.f1) ((rd_T60 x14 x16).f1.f2) ((rd_T60 x14 x16).f1.f3) ((rd_T60 x14 x16).f1.f4) ((rd_T60 x14 x16).f1.f5) ((rd_T60 x14 x16).f1.f6)) else (none)) else (none)) else (impl_LoopAt.j1 k x0 x1 x7 x14 x15 x16 false x144000 x144001 x144002 x144003 x144004 x144005 x144006 ((rd_T60 x14 x16).f0) ((rd_T60 x14 x16).f1.f0) ((rd_T60 x14 x16).f1.f1) ((rd_T60 x14 x16).f1.f2) ((rd_T60 x14 x16).f1.f3) ((rd_T60 x14 x16).f1.f4) ((rd_T60 x14 x16).f1.f5) ((rd_T60 x14 x16).f1.f6))) else (impl_LoopAt.j1 k x0 x1 x7 x14 x15 x16 true x144000 x144001 x144002 x144003 x144004 x144005 x144006 ((rd_T60 x14 x16).f0) ((rd_T60 x14 x16).f1.f0) ((rd_T60 x14 x16).f1.f1) ((rd_T60 x14 x16).f1.f2) ((rd_T60 x14 x16).f1.f3) ((rd_T60 x14 x16).f1.f4) ((rd_T60 x14 x16).f1.f5) ((rd_T60 x14 x16).f1.f6)))) else (none)) else (none)) else (some (x144000, x144001, x144002, x144003, x144004, x144005, x144006, x7))
def impl_LoopAt.j1 : Nat → List (S60) → Int → Bool → List (S60) → Int → Int → Bool → Int → Int → Int → Int → Int → Int → Int → Int → Int → Int → Int → Int → Int → Int → Int → Option (Int × Int × Int × Int × Int × Int × Int × Bool)
  | 0, _, _, _, _, _, _, _, _, _, _, _, _, _, _, _, _, _, _, _, _, _, _ => none
  | k + 1, x0, x1, x7, x14, x15, x16, x39, x144000, x144001, x144002, x144003, x144004, x144005, x144006, x146000, x146001, x146002, x146003, x146004, x146005, x146006, x146007 => if x39 = true then (some (0, 0, 0, 0, 0, 0, 0, false)) else (if x146000 ≤ x1 then (impl_LoopAt.l0 k x0 x1 true x14 x15 (wrap64 (x16 + 1)) x146001 x146002 x146003 x146004 x146005 x146006 x146007) else (impl_LoopAt.l0 k x0 x1 x7 x14 x15 (wrap64 (x16 + 1)) x144000 x144001 x144002 x144003 x144004 x144005 x144006))
end
def impl_LoopAt.f (k : Nat) (l0 : List (S60)) (a1 : Int) : Option (Int × Int × Int × Int × Int × Int × Int × Bool) := if (l0.length : Int) > 60 then (some (0, 0, 0, 0, 0, 0, 0, false)) else (impl_LoopAt.l0 k l0 a1 false l0 (l0.length : Int) 0 0 0 0 0 0 0 0)
theorem impl_LoopAt.mono_l : ∀ k, (∀ y0 y1 y2 y3 y4 y5 y6 y7 y8 y9 y10 y11 y12, LeO (impl_LoopAt.l0 k y0 y1 y2 y3 y4 y5 y6 y7 y8 y9 y10 y11 y12) (impl_LoopAt.l0 (k + 1) y0 y1 y2 y3 y4 y5 y6 y7 y8 y9 y10 y11 y12)) ∧ (∀ y0 y1 y2 y3 y4 y5 y6 y7 y8 y9 y10 y11 y12 y13 y14 y15 y16 y17 y18 y19 y20 y21, LeO (impl_LoopAt.j1 k y0 y1 y2 y3 y4 y5 y6 y7 y8 y9 y10 y11 y12 y13 y14 y15 y16 y17 y18 y19 y20 y21) (impl_LoopAt.j1 (k + 1) y0 y1 y2 y3 y4 y5 y6 y7 y8 y9 y10 y11 y12 y13 y14 y15 y16 y17 y18 y19 y20 y21))
  | 0 => ⟨fun _ _ _ _ _ _ _ _ _ _ _ _ _ r h => by simp [impl_LoopAt.l0] at h, fun _ _ _ _ _ _ _ _ _ _ _ _ _ _ _ _ _ _ _ _ _ _ r h => by simp [impl_LoopAt.j1] at h⟩
  | k + 1 => by
    obtain ⟨ih0, ih1⟩ := impl_LoopAt.mono_l k
    refine ⟨?_, ?_⟩
    · intro y0 y1 y2 y3 y4 y5 y6 y7 y8 y9 y10 y11 y12
      unfold impl_LoopAt.l0
      repeat' first
      | (with_reducible exact ih0 _ _ _ _ _ _ _ _ _ _ _ _ _)
      | (with_reducible exact ih1 _ _ _ _ _ _ _ _ _ _ _ _ _ _ _ _ _ _ _ _ _ _)
      | (with_reducible exact LeO.refl _)
      | (with_reducible exact LeO.none _)
      | (with_reducible refine LeO.ite ?_ ?_)
      | (with_reducible refine LeO.bind ?_ (fun _ => ?_))
      | exact ih0 _ _ _ _ _ _ _ _ _ _ _ _ _
      | exact ih1 _ _ _ _ _ _ _ _ _ _ _ _ _ _ _ _ _ _ _ _ _ _
      | exact LeO.none _
      | refine LeO.ite ?_ ?_
      | refine LeO.bind ?_ (fun _ => ?_)
    · intro y0 y1 y2 y3 y4 y5 y6 y7 y8 y9 y10 y11 y12 y13 y14 y15 y16 y17 y18 y19 y20 y21
      unfold impl_LoopAt.j1
      repeat' first
      | (with_reducible exact ih0 _ _ _ _ _ _ _ _ _ _ _ _ _)
      | (with_reducible exact ih1 _ _ _ _ _ _ _ _ _ _ _ _ _ _ _ _ _ _ _ _ _ _)
      | (with_reducible exact LeO.refl _)
      | (with_reducible exact LeO.none _)
      | (with_reducible refine LeO.ite ?_ ?_)
      | (with_reducible refine LeO.bind ?_ (fun _ => ?_))
      | exact ih0 _ _ _ _ _ _ _ _ _ _ _ _ _
      | exact ih1 _ _ _ _ _ _ _ _ _ _ _ _ _ _ _ _ _ _ _ _ _ _
      | exact LeO.none _
      | refine LeO.ite ?_ ?_
      | refine LeO.bind ?_ (fun _ => ?_)
theorem impl_LoopAt.mono : ∀ a0 a1 k, LeO (impl_LoopAt.f k a0 a1) (impl_LoopAt.f (k + 1) a0 a1) := by
  intro a0 a1 k
  obtain ⟨ih0, ih1⟩ := impl_LoopAt.mono_l k
  unfold impl_LoopAt.f
  repeat' first
      | (with_reducible exact ih0 _ _ _ _ _ _ _ _ _ _ _ _ _)
      | (with_reducible exact ih1 _ _ _ _ _ _ _ _ _ _ _ _ _ _ _ _ _ _ _ _ _ _)
      | (with_reducible exact LeO.refl _)
      | (with_reducible exact LeO.none _)
      | (with_reducible refine LeO.ite ?_ ?_)
      | (with_reducible refine LeO.bind ?_ (fun _ => ?_))
      | exact ih0 _ _ _ _ _ _ _ _ _ _ _ _ _
      | exact ih1 _ _ _ _ _ _ _ _ _ _ _ _ _ _ _ _ _ _ _ _ _ _
      | exact LeO.none _
      | refine LeO.ite ?_ ?_
      | refine LeO.bind ?_ (fun _ => ?_)
def impl_LoopAt.T8 : Bool × List (List Nat × List Nat) := (true, [([], []), ([0], [0]), ([1], [1]), ([2], [2]), ([3, 2], [3]), ([4], [4]), ([5, 4], [4, 5]), ([6, 4, 4], [4, 6]), ([7], [7]), ([8, 7], [7, 8]), ([7], [7]), ([7], [7]), ([11, 7], [7, 11]), ([10, 12, 7], [7, 10, 12]), ([13, 7], [7, 13]), ([14, 7], [7, 14]), ([9, 15, 7], [7, 9, 15]), ([7, 16, 4], [4, 7, 16]), ([4, 17], [4, 17])])
def impl_LoopAt.B8 : List Nat := [0, 1, 3, 7, 15, 31, 63, 127, 255, 511, 255, 255, 2303, 7423, 15615, 31999, 65535, 131071, 262143]
theorem impl_LoopAt.tab8 : rtab .any (opsOf Try.f14 8) = impl_LoopAt.T8 := by kernel_rfl
theorem impl_LoopAt.bits8 : waitsOk impl_LoopAt.T8.2 impl_LoopAt.B8 = true := by kernel_rfl
set_option maxHeartbeats 8000000 in
set_option maxRecDepth 100000 in
theorem impl_LoopAt.calls (k : Nat) (A0 : Option Addr) (c0 : Nat) (l0 : List (S60)) (a1 : Int) (r1 : Int) (r2 : Int) (r3 : Int) (r4 : Int) (r5 : Int) (r6 : Int) (r7 : Int) (r8 : Bool) (w : World) (hr0 : Kd.C k60 w A0 l0.length l0) (hc0 : l0.length ≤ c0) (h : impl_LoopAt.f k l0 a1 = some (r1, r2, r3, r4, r5, r6, r7, r8)) :
    Calls Try.prog 14 #[.slice A0 l0.length c0, .int .i64 a1] w fun e w' => e = .returned (.tuple #[.agg #[.int .i64 r1, .int .i64 r2, .int .i64 r3, .int .i64 r4, .int .i64 r5, .int .i64 r6, .int .i64 r7], .bool r8]) ∧ Below w.heap.size w w' := by
  have hu25 := Try.underlying25
  have hu60 := Try.underlying60
  have HR0 := Aside0.mk hr0
  have HC0 := Aside0.mk hc0
  clear hr0 hc0
  have HB := Aside0.mk (Below.refl w.heap.size w)
  have H : (if (l0.length : Int) > 60 then (some (0, 0, 0, 0, 0, 0, 0, false)) else (impl_LoopAt.l0 k l0 a1 false l0 (l0.length : Int) 0 0 0 0 0 0 0 0)) = some (r1, r2, r3, r4, r5, r6, r7, r8) := h
  clear h
  by_cases c3 : (l0.length : Int) > 60
  · rw [if_pos c3] at H
    have c3b0 : decide (60 < (l0.length : Int)) = true := decide_eq_true c3
    have c3b1 : decide (60 < l0.length) = true := decide_eq_true (by omega)
    clear c3
    simp only [Option.some.injEq, Prod.mk.injEq] at H
    obtain ⟨rfl, rfl, rfl, rfl, rfl, rfl, rfl, rfl⟩ := H
    go_enter Try.func14, Try.ntmps14
    go_wp2_with (first | ((with_reducible refine gate_dst (N := 4) rfl ?_); refine box_event ?hg (N := 4) ?hd (cs := #[.int .i64 0, .int .i64 0, .int .i64 0, .int .i64 0, .int .i64 0, .int .i64 0, .int .i64 0]) (t := 25) ?hr ?_; (case hd => rfl); (case hg => rfl); (case hr => first | (go_simp; done) | (go_simp; rfl)); intro gb142 hg w4 hbox hb; have n0_ := Aside0.mk (below_step (by repeat (first | (with_reducible first | exact HB.out | apply below_alloc | apply pw_below_drewN | apply below_drew1) | exact HB.out)) hb); have n1_ := Aside0.mk (hbox); have n2_ := Aside0.mk ((by rw [hg]; exact (below_size (by repeat (first | (with_reducible first | exact HB.out | apply below_alloc | apply pw_below_drewN | apply below_drew1) | exact HB.out))) : w.heap.size ≤ gb142)); have n3_ := Aside0.mk ((by rw [hg]; exact (below_size (by repeat (first | (with_reducible first | exact HB.out | apply below_alloc | apply pw_below_drewN | apply below_drew1) | exact HB.out))) : w.heap.size ≤ gb142)); clear HB; have HB := n0_; have BK142 := n1_; have GW142 := n2_; have GE142 := n3_; clear n0_ n1_ n2_ n3_; clear hb hbox hg; have hcz5_0 : w4.cell? ⟨gb142, 0, none⟩ = some (.int .i64 0) := (blk_cell BK142.out 0).trans rfl; have hcz5_1 : w4.cell? ⟨gb142, 1, none⟩ = some (.int .i64 0) := (blk_cell BK142.out 1).trans rfl; have hcz5_2 : w4.cell? ⟨gb142, 2, none⟩ = some (.int .i64 0) := (blk_cell BK142.out 2).trans rfl; have hcz5_3 : w4.cell? ⟨gb142, 3, none⟩ = some (.int .i64 0) := (blk_cell BK142.out 3).trans rfl; have hcz5_4 : w4.cell? ⟨gb142, 4, none⟩ = some (.int .i64 0) := (blk_cell BK142.out 4).trans rfl; have hcz5_5 : w4.cell? ⟨gb142, 5, none⟩ = some (.int .i64 0) := (blk_cell BK142.out 5).trans rfl; have hcz5_6 : w4.cell? ⟨gb142, 6, none⟩ = some (.int .i64 0) := (blk_cell BK142.out 6).trans rfl; have hfz5_0 := blk_frozen BK142.out 0; have hfz5_1 := blk_frozen BK142.out 1; have hfz5_2 := blk_frozen BK142.out 2; have hfz5_3 := blk_frozen BK142.out 3; have hfz5_4 := blk_frozen BK142.out 4; have hfz5_5 := blk_frozen BK142.out 5; have hfz5_6 := blk_frozen BK142.out 6))
    refine bodyPost_ret (results_ct rfl _ _ gb142 25 #[.int .i64 0, .int .i64 0, .int .i64 0, .int .i64 0, .int .i64 0, .int .i64 0, .int .i64 0] (0, 0) _ rfl (by (with_reducible repeat (first | refine blk_drewN ?_ _ | refine blk_drew ?_ | refine blk_alloc ?_ _)); refine blk_put (cs := #[.int .i64 0, .int .i64 0, .int .i64 0, .int .i64 0, .int .i64 0, .int .i64 0, .int .i64 0]) ?_ 6 _ rfl; (with_reducible repeat (first | refine blk_drewN ?_ _ | refine blk_drew ?_ | refine blk_alloc ?_ _)); refine blk_put (cs := #[.int .i64 0, .int .i64 0, .int .i64 0, .int .i64 0, .int .i64 0, .int .i64 0, .int .i64 0]) ?_ 5 _ rfl; (with_reducible repeat (first | refine blk_drewN ?_ _ | refine blk_drew ?_ | refine blk_alloc ?_ _)); refine blk_put (cs := #[.int .i64 0, .int .i64 0, .int .i64 0, .int .i64 0, .int .i64 0, .int .i64 0, .int .i64 0]) ?_ 4 _ rfl; (with_reducible repeat (first | refine blk_drewN ?_ _ | refine blk_drew ?_ | refine blk_alloc ?_ _)); refine blk_put (cs := #[.int .i64 0, .int .i64 0, .int .i64 0, .int .i64 0, .int .i64 0, .int .i64 0, .int .i64 0]) ?_ 3 _ rfl; (with_reducible repeat (first | refine blk_drewN ?_ _ | refine blk_drew ?_ | refine blk_alloc ?_ _)); refine blk_put (cs := #[.int .i64 0, .int .i64 0, .int .i64 0, .int .i64 0, .int .i64 0, .int .i64 0, .int .i64 0]) ?_ 2 _ rfl; (with_reducible repeat (first | refine blk_drewN ?_ _ | refine blk_drew ?_ | refine blk_alloc ?_ _)); refine blk_put (cs := #[.int .i64 0, .int .i64 0, .int .i64 0, .int .i64 0, .int .i64 0, .int .i64 0, .int .i64 0]) ?_ 1 _ rfl; (with_reducible repeat (first | refine blk_drewN ?_ _ | refine blk_drew ?_ | refine blk_alloc ?_ _)); refine blk_put (cs := #[.int .i64 0, .int .i64 0, .int .i64 0, .int .i64 0, .int .i64 0, .int .i64 0, .int .i64 0]) ?_ 0 _ rfl; (with_reducible repeat (first | refine blk_drewN ?_ _ | refine blk_drew ?_ | refine blk_alloc ?_ _)); exact BK142.out) Try.underlying25 rfl (by kernel_rfl)) rfl ?_
    exact ⟨by first | rfl | (simp [errW_none, errW_some] <;> rfl) | (simp [*, errW_none, errW_some] <;> rfl), by repeat (first | (with_reducible first | exact HB.out | apply below_alloc | apply pw_below_drewN | apply below_drew1 | refine below_set ?_ GE142.out) | exact HB.out)⟩
  · rw [if_neg c3] at H
    have c3b0 : decide (60 < (l0.length : Int)) = false := decide_eq_false c3
    have c3b1 : decide (60 < l0.length) = false := decide_eq_false (by omega)
    clear c3
    have H' := Aside0.mk H
    clear H
    go_enter Try.func14, Try.ntmps14
    go_wp2_with (first | ((with_reducible refine gate_dst (N := 4) rfl ?_); refine box_event ?hg (N := 4) ?hd (cs := #[.int .i64 0, .int .i64 0, .int .i64 0, .int .i64 0, .int .i64 0, .int .i64 0, .int .i64 0]) (t := 25) ?hr ?_; (case hd => rfl); (case hg => rfl); (case hr => first | (go_simp; done) | (go_simp; rfl)); intro gb142 hg w6 hbox hb; have n0_ := Aside0.mk (below_step (by repeat (first | (with_reducible first | exact HB.out | apply below_alloc | apply pw_below_drewN | apply below_drew1) | exact HB.out)) hb); have n1_ := Aside0.mk (hbox); have n2_ := Aside0.mk ((by rw [hg]; exact (below_size (by repeat (first | (with_reducible first | exact HB.out | apply below_alloc | apply pw_below_drewN | apply below_drew1) | exact HB.out))) : w.heap.size ≤ gb142)); have n3_ := Aside0.mk ((by rw [hg]; exact (below_size (by repeat (first | (with_reducible first | exact HB.out | apply below_alloc | apply pw_below_drewN | apply below_drew1) | exact HB.out))) : w.heap.size ≤ gb142)); clear HB; have HB := n0_; have BK142 := n1_; have GW142 := n2_; have GE142 := n3_; clear n0_ n1_ n2_ n3_; clear hb hbox hg) | ((with_reducible refine gate_dst (N := 6) rfl ?_); refine box_event ?hg (N := 6) ?hd (cs := #[.int .i64 0, .int .i64 0, .int .i64 0, .int .i64 0, .int .i64 0, .int .i64 0, .int .i64 0]) (t := 25) ?hr ?_; (case hd => rfl); (case hg => rfl); (case hr => first | (go_simp; done) | (go_simp; rfl)); intro gb143 hg w7 hbox hb; have n0_ := Aside0.mk (blk_below (g := gb142) (o := .cells #[.int .i64 0, .int .i64 0, .int .i64 0, .int .i64 0, .int .i64 0, .int .i64 0, .int .i64 0] 25 (0, 0)) (by (with_reducible repeat (first | refine blk_drewN ?_ _ | refine blk_drew ?_ | refine blk_alloc ?_ _)); exact BK142.out) hb); have n1_ := Aside0.mk (below_step (by repeat (first | (with_reducible first | exact HB.out | apply below_alloc | apply pw_below_drewN | apply below_drew1 | refine below_set ?_ GE142.out) | exact HB.out)) hb); have n2_ := Aside0.mk (hbox); have n3_ := Aside0.mk ((by rw [hg]; exact (below_size (by repeat (first | (with_reducible first | exact HB.out | apply below_alloc | apply pw_below_drewN | apply below_drew1 | refine below_set ?_ GE142.out) | exact HB.out))) : w.heap.size ≤ gb143)); have n4_ := Aside0.mk ((by rw [hg]; exact (below_size (by repeat (first | (with_reducible first | exact HB.out | apply below_alloc | apply pw_below_drewN | apply below_drew1 | refine below_set ?_ GE142.out) | exact HB.out))) : w.heap.size ≤ gb143)); have n5_ := Aside0.mk ((by rw [hg]; exact Nat.ne_of_lt (blk_lt (g := gb142) (o := .cells #[.int .i64 0, .int .i64 0, .int .i64 0, .int .i64 0, .int .i64 0, .int .i64 0, .int .i64 0] 25 (0, 0)) (by (with_reducible repeat (first | refine blk_drewN ?_ _ | refine blk_drew ?_ | refine blk_alloc ?_ _)); exact BK142.out)) : gb142 ≠ gb143)); have n6_ := Aside0.mk ((by rw [hg]; exact Nat.ne_of_gt (blk_lt (g := gb142) (o := .cells #[.int .i64 0, .int .i64 0, .int .i64 0, .int .i64 0, .int .i64 0, .int .i64 0, .int .i64 0] 25 (0, 0)) (by (with_reducible repeat (first | refine blk_drewN ?_ _ | refine blk_drew ?_ | refine blk_alloc ?_ _)); exact BK142.out)) : gb143 ≠ gb142)); clear BK142; clear HB; have BK142 := n0_; have HB := n1_; have BK143 := n2_; have GW143 := n3_; have GE143 := n4_; have NB142_143 := n5_; have NB143_142 := n6_; clear n0_ n1_ n2_ n3_ n4_ n5_ n6_; clear hb hbox hg))
    go_loopg [7, 16] k (fun kq v7 v16 w' => ∃ (x7_1 : Bool) (x16_1 : Int) (x143000_1 : Int) (x143001_1 : Int) (x143002_1 : Int) (x143003_1 : Int) (x143004_1 : Int) (x143005_1 : Int) (x143006_1 : Int) (x144000_1 : Int) (x144001_1 : Int) (x144002_1 : Int) (x144003_1 : Int) (x144004_1 : Int) (x144005_1 : Int) (x144006_1 : Int), v7 = .bool x7_1 ∧ v16 = .int .i64 x16_1 ∧ Aside0 (impl_LoopAt.l0 kq l0 a1 x7_1 l0 (l0.length : Int) x16_1 x144000_1 x144001_1 x144002_1 x144003_1 x144004_1 x144005_1 x144006_1 = some (r1, r2, r3, r4, r5, r6, r7, r8)) ∧ Aside0 (kq ≤ k) ∧ Aside0 (w'.heap[gb142]? = some (.cells #[.int .i64 x143000_1, .int .i64 x143001_1, .int .i64 x143002_1, .int .i64 x143003_1, .int .i64 x143004_1, .int .i64 x143005_1, .int .i64 x143006_1] 25 (0, 0))) ∧ Aside0 (w'.heap[gb143]? = some (.cells #[.int .i64 x144000_1, .int .i64 x144001_1, .int .i64 x144002_1, .int .i64 x144003_1, .int .i64 x144004_1, .int .i64 x144005_1, .int .i64 x144006_1] 25 (0, 0))) ∧ Aside0 (Below w.heap.size w w'))
    case atStart => exact ⟨(false), (0), (0), (0), (0), (0), (0), (0), (0), (0), (0), (0), (0), (0), (0), (0), (by first | rfl | (simp; done) | (simp [*]; done)), (by first | rfl | (simp; done) | (simp [*]; done)), H', ⟨Nat.le_refl _⟩, ⟨by (with_reducible repeat (first | refine blk_drewN ?_ _ | refine blk_drew ?_ | refine blk_alloc ?_ _)); exact BK142.out⟩, ⟨by (with_reducible repeat (first | refine blk_drewN ?_ _ | refine blk_drew ?_ | refine blk_alloc ?_ _)); exact BK143.out⟩, ⟨by repeat (first | (with_reducible first | exact HB.out | apply below_alloc | apply pw_below_drewN | apply below_drew1 | refine below_set ?_ GE142.out | refine below_set ?_ GE143.out) | exact HB.out)⟩⟩
    case round =>
      clear H'
      try clear c1
      try clear p2
      try clear c3
      try clear c3b0
      try clear c3b1
      try clear hcz5_0
      try clear hcz5_1
      try clear hcz5_2
      try clear hcz5_3
      try clear hcz5_4
      try clear hcz5_5
      try clear hcz5_6
      try clear hfz5_0
      try clear hfz5_1
      try clear hfz5_2
      try clear hfz5_3
      try clear hfz5_4
      try clear hfz5_5
      try clear hfz5_6
      obtain ⟨x7_1, x16_1, x143000_1, x143001_1, x143002_1, x143003_1, x143004_1, x143005_1, x143006_1, x144000_1, x144001_1, x144002_1, x144003_1, x144004_1, x144005_1, x144006_1, rfl, rfl, HA, HK1, BK142, BK143, HB⟩ := hrel
      cases gk with
      | zero => exact absurd HA.out (by simp [impl_LoopAt.l0])
      | succ k1 =>
        have H := HA.out
        clear HA
        simp only [impl_LoopAt.l0] at H
        by_cases c8 : x16_1 < (l0.length : Int)
        · rw [if_pos c8] at H
          have c8b0 : decide (x16_1 < (l0.length : Int)) = true := decide_eq_true c8
          clear c8
          by_cases c9 : 0 ≤ x16_1
          · rw [if_pos c9] at H
            have c9b0 : decide (0 ≤ x16_1) = true := decide_eq_true c9
            clear c9
            by_cases c10 : x16_1 < (l0.length : Int)
            · rw [if_pos c10] at H
              have c10b0 : decide (x16_1 < (l0.length : Int)) = true := decide_eq_true c10
              clear c10
              have HC11 := Aside0.mk H
              clear H
              have p144 : 0 ≤ (x16_1 : Int) := of_decide_eq_true (by first | (with_reducible assumption) | assumption)
              have q144 : x16_1 < (l0.length : Int) := of_decide_eq_true (by first | (with_reducible assumption) | assumption)
              obtain ⟨ad144, e144, hx144_0, hx144_1, hx144_2, hx144_3, hx144_4, hx144_5, hx144_6, hx144_7⟩ := at_T60 HR0.out x16_1 p144 q144
              cases e144
              replace hx144_0 := (HB.out.cell (World.block_lt_of_cell? w _ hx144_0)).trans hx144_0
              replace hx144_1 := (HB.out.cell (World.block_lt_of_cell? w _ hx144_1)).trans hx144_1
              replace hx144_2 := (HB.out.cell (World.block_lt_of_cell? w _ hx144_2)).trans hx144_2
              replace hx144_3 := (HB.out.cell (World.block_lt_of_cell? w _ hx144_3)).trans hx144_3
              replace hx144_4 := (HB.out.cell (World.block_lt_of_cell? w _ hx144_4)).trans hx144_4
              replace hx144_5 := (HB.out.cell (World.block_lt_of_cell? w _ hx144_5)).trans hx144_5
              replace hx144_6 := (HB.out.cell (World.block_lt_of_cell? w _ hx144_6)).trans hx144_6
              replace hx144_7 := (HB.out.cell (World.block_lt_of_cell? w _ hx144_7)).trans hx144_7
              replace p144 := eq_true p144
              replace q144 := eq_true q144
              go_upto_region 8 with (first | ((with_reducible refine gate_dst (N := 9) rfl ?_); refine box_event ?hg (N := 9) ?hd (cs := #[.int .i64 0, .int .i64 0, .int .i64 0, .int .i64 0, .int .i64 0, .int .i64 0, .int .i64 0, .int .i64 0]) (t := 60) ?hr ?_; (case hd => rfl); (case hg => rfl); (case hr => first | (go_simp; done) | (go_simp; rfl)); intro gb145 hg w12 hbox hb; have n0_ := Aside0.mk (blk_below (g := gb142) (o := .cells #[.int .i64 x143000_1, .int .i64 x143001_1, .int .i64 x143002_1, .int .i64 x143003_1, .int .i64 x143004_1, .int .i64 x143005_1, .int .i64 x143006_1] 25 (0, 0)) (by (with_reducible repeat (first | refine blk_drewN ?_ _ | refine blk_drew ?_ | refine blk_alloc ?_ _)); exact BK142.out) hb); have n1_ := Aside0.mk (blk_below (g := gb143) (o := .cells #[.int .i64 x144000_1, .int .i64 x144001_1, .int .i64 x144002_1, .int .i64 x144003_1, .int .i64 x144004_1, .int .i64 x144005_1, .int .i64 x144006_1] 25 (0, 0)) (by (with_reducible repeat (first | refine blk_drewN ?_ _ | refine blk_drew ?_ | refine blk_alloc ?_ _)); exact BK143.out) hb); have n2_ := Aside0.mk (below_step (by repeat (first | (with_reducible first | exact HB.out | apply below_alloc | apply pw_below_drewN | apply below_drew1 | refine below_set ?_ GE142.out | refine below_set ?_ GE143.out) | exact HB.out)) hb); have n3_ := Aside0.mk (hbox); have n4_ := Aside0.mk ((by rw [hg]; exact (below_size (by repeat (first | (with_reducible first | exact HB.out | apply below_alloc | apply pw_below_drewN | apply below_drew1 | refine below_set ?_ GE142.out | refine below_set ?_ GE143.out) | exact HB.out))) : w.heap.size ≤ gb145)); have n5_ := Aside0.mk ((by rw [hg]; exact (below_size (by repeat (first | (with_reducible first | exact HB.out | apply below_alloc | apply pw_below_drewN | apply below_drew1 | refine below_set ?_ GE142.out | refine below_set ?_ GE143.out) | exact HB.out))) : w.heap.size ≤ gb145)); have n6_ := Aside0.mk ((by rw [hg]; exact Nat.ne_of_lt (blk_lt (g := gb142) (o := .cells #[.int .i64 x143000_1, .int .i64 x143001_1, .int .i64 x143002_1, .int .i64 x143003_1, .int .i64 x143004_1, .int .i64 x143005_1, .int .i64 x143006_1] 25 (0, 0)) (by (with_reducible repeat (first | refine blk_drewN ?_ _ | refine blk_drew ?_ | refine blk_alloc ?_ _)); exact BK142.out)) : gb142 ≠ gb145)); have n7_ := Aside0.mk ((by rw [hg]; exact Nat.ne_of_gt (blk_lt (g := gb142) (o := .cells #[.int .i64 x143000_1, .int .i64 x143001_1, .int .i64 x143002_1, .int .i64 x143003_1, .int .i64 x143004_1, .int .i64 x143005_1, .int .i64 x143006_1] 25 (0, 0)) (by (with_reducible repeat (first | refine blk_drewN ?_ _ | refine blk_drew ?_ | refine blk_alloc ?_ _)); exact BK142.out)) : gb145 ≠ gb142)); have n8_ := Aside0.mk ((by rw [hg]; exact Nat.ne_of_lt (blk_lt (g := gb143) (o := .cells #[.int .i64 x144000_1, .int .i64 x144001_1, .int .i64 x144002_1, .int .i64 x144003_1, .int .i64 x144004_1, .int .i64 x144005_1, .int .i64 x144006_1] 25 (0, 0)) (by (with_reducible repeat (first | refine blk_drewN ?_ _ | refine blk_drew ?_ | refine blk_alloc ?_ _)); exact BK143.out)) : gb143 ≠ gb145)); have n9_ := Aside0.mk ((by rw [hg]; exact Nat.ne_of_gt (blk_lt (g := gb143) (o := .cells #[.int .i64 x144000_1, .int .i64 x144001_1, .int .i64 x144002_1, .int .i64 x144003_1, .int .i64 x144004_1, .int .i64 x144005_1, .int .i64 x144006_1] 25 (0, 0)) (by (with_reducible repeat (first | refine blk_drewN ?_ _ | refine blk_drew ?_ | refine blk_alloc ?_ _)); exact BK143.out)) : gb145 ≠ gb143)); clear BK142; clear BK143; clear HB; have BK142 := n0_; have BK143 := n1_; have HB := n2_; have BK145 := n3_; have GW145 := n4_; have GE145 := n5_; have NB142_145 := n6_; have NB145_142 := n7_; have NB143_145 := n8_; have NB145_143 := n9_; clear n0_ n1_ n2_ n3_ n4_ n5_ n6_ n7_ n8_ n9_; clear hb hbox hg; have hnb13 := NB145_142.out; have hnc13 := NB142_145.out; have hnb14 := NB145_143.out; have hnc14 := NB143_145.out; have hcz15_0 : w12.cell? ⟨gb145, 0, none⟩ = some (.int .i64 0) := (blk_cell BK145.out 0).trans rfl; have hcz15_1 : w12.cell? ⟨gb145, 1, none⟩ = some (.int .i64 0) := (blk_cell BK145.out 1).trans rfl; have hcz15_2 : w12.cell? ⟨gb145, 2, none⟩ = some (.int .i64 0) := (blk_cell BK145.out 2).trans rfl; have hcz15_3 : w12.cell? ⟨gb145, 3, none⟩ = some (.int .i64 0) := (blk_cell BK145.out 3).trans rfl; have hcz15_4 : w12.cell? ⟨gb145, 4, none⟩ = some (.int .i64 0) := (blk_cell BK145.out 4).trans rfl; have hcz15_5 : w12.cell? ⟨gb145, 5, none⟩ = some (.int .i64 0) := (blk_cell BK145.out 5).trans rfl; have hcz15_6 : w12.cell? ⟨gb145, 6, none⟩ = some (.int .i64 0) := (blk_cell BK145.out 6).trans rfl; have hcz15_7 : w12.cell? ⟨gb145, 7, none⟩ = some (.int .i64 0) := (blk_cell BK145.out 7).trans rfl; have hfz15_0 := blk_frozen BK145.out 0; have hfz15_1 := blk_frozen BK145.out 1; have hfz15_2 := blk_frozen BK145.out 2; have hfz15_3 := blk_frozen BK145.out 3; have hfz15_4 := blk_frozen BK145.out 4; have hfz15_5 := blk_frozen BK145.out 5; have hfz15_6 := blk_frozen BK145.out 6; have hfz15_7 := blk_frozen BK145.out 7))
              (try simp only [Act.put, List.setIfInBounds_toArray, List.set_cons_zero, List.set_cons_succ])
              go_cut [39] (fun v39 wc => ∃ (kq : Nat) (x39_10 : Bool), v39 = .bool x39_10 ∧ Aside0 (impl_LoopAt.j1 kq l0 a1 x7_1 l0 (l0.length : Int) x16_1 x39_10 x144000_1 x144001_1 x144002_1 x144003_1 x144004_1 x144005_1 x144006_1 ((rd_T60 l0 x16_1).f0) ((rd_T60 l0 x16_1).f1.f0) ((rd_T60 l0 x16_1).f1.f1) ((rd_T60 l0 x16_1).f1.f2) ((rd_T60 l0 x16_1).f1.f3) ((rd_T60 l0 x16_1).f1.f4) ((rd_T60 l0 x16_1).f1.f5) ((rd_T60 l0 x16_1).f1.f6) = some (r1, r2, r3, r4, r5, r6, r7, r8)) ∧ Aside0 (kq ≤ k1) ∧ Aside0 (wc.heap[gb142]? = some (.cells #[.int .i64 x143000_1, .int .i64 x143001_1, .int .i64 x143002_1, .int .i64 x143003_1, .int .i64 x143004_1, .int .i64 x143005_1, .int .i64 x143006_1] 25 (0, 0))) ∧ Aside0 (wc.heap[gb143]? = some (.cells #[.int .i64 x144000_1, .int .i64 x144001_1, .int .i64 x144002_1, .int .i64 x144003_1, .int .i64 x144004_1, .int .i64 x144005_1, .int .i64 x144006_1] 25 (0, 0))) ∧ Aside0 (wc.heap[gb145]? = some (.cells #[.int .i64 ((rd_T60 l0 x16_1).f0), .int .i64 ((rd_T60 l0 x16_1).f1.f0), .int .i64 ((rd_T60 l0 x16_1).f1.f1), .int .i64 ((rd_T60 l0 x16_1).f1.f2), .int .i64 ((rd_T60 l0 x16_1).f1.f3), .int .i64 ((rd_T60 l0 x16_1).f1.f4), .int .i64 ((rd_T60 l0 x16_1).f1.f5), .int .i64 ((rd_T60 l0 x16_1).f1.f6)] 60 (0, 0))) ∧ Aside0 (Below w.heap.size w wc))
              case first =>
                have H := HC11.out
                clear HC11
                replace H := Option.bind_eq_some_iff.mp H
                obtain ⟨t146, A160, H⟩ := H
                replace H : (if t146 = true then (if x16_1 > 0 then (if 0 ≤ (wrap64 (x16_1 - 1)) then (if (wrap64 (x16_1 - 1)) < (l0.length : Int) then (impl_LoopAt.j1 k1 l0 a1 x7_1 l0 (l0.length : Int) x16_1 (decide (((rd_T60 l0 x16_1).f0) ≤ ((rd_T60 l0 (wrap64 (x16_1 - 1))).f0))) x144000_1 x144001_1 x144002_1 x144003_1 x144004_1 x144005_1 x144006_1 ((rd_T60 l0 x16_1).f0) ((rd_T60 l0 x16_1).f1.f0) ((rd_T60 l0 x16_1).f1.f1) ((rd_T60 l0 x16_1).f1.f2) ((rd_T60 l0 x16_1).f1.f3) ((rd_T60 l0 x16_1).f1.f4) ((rd_T60 l0 x16_1).f1.f5) ((rd_T60 l0 x16_1).f1.f6)) else (none)) else (none)) else (impl_LoopAt.j1 k1 l0 a1 x7_1 l0 (l0.length : Int) x16_1 false x144000_1 x144001_1 x144002_1 x144003_1 x144004_1 x144005_1 x144006_1 ((rd_T60 l0 x16_1).f0) ((rd_T60 l0 x16_1).f1.f0) ((rd_T60 l0 x16_1).f1.f1) ((rd_T60 l0 x16_1).f1.f2) ((rd_T60 l0 x16_1).f1.f3) ((rd_T60 l0 x16_1).f1.f4) ((rd_T60 l0 x16_1).f1.f5) ((rd_T60 l0 x16_1).f1.f6))) else (impl_LoopAt.j1 k1 l0 a1 x7_1 l0 (l0.length : Int) x16_1 true x144000_1 x144001_1 x144002_1 x144003_1 x144004_1 x144005_1 x144006_1 ((rd_T60 l0 x16_1).f0) ((rd_T60 l0 x16_1).f1.f0) ((rd_T60 l0 x16_1).f1.f1) ((rd_T60 l0 x16_1).f1.f2) ((rd_T60 l0 x16_1).f1.f3) ((rd_T60 l0 x16_1).f1.f4) ((rd_T60 l0 x16_1).f1.f5) ((rd_T60 l0 x16_1).f1.f6))) = some (r1, r2, r3, r4, r5, r6, r7, r8) := H
                have A16 := Aside0.mk A160
                clear A160
                by_cases c17 : t146 = true
                · subst c17
                  have H1 : (if x16_1 > 0 then (if 0 ≤ (wrap64 (x16_1 - 1)) then (if (wrap64 (x16_1 - 1)) < (l0.length : Int) then (impl_LoopAt.j1 k1 l0 a1 x7_1 l0 (l0.length : Int) x16_1 (decide (((rd_T60 l0 x16_1).f0) ≤ ((rd_T60 l0 (wrap64 (x16_1 - 1))).f0))) x144000_1 x144001_1 x144002_1 x144003_1 x144004_1 x144005_1 x144006_1 ((rd_T60 l0 x16_1).f0) ((rd_T60 l0 x16_1).f1.f0) ((rd_T60 l0 x16_1).f1.f1) ((rd_T60 l0 x16_1).f1.f2) ((rd_T60 l0 x16_1).f1.f3) ((rd_T60 l0 x16_1).f1.f4) ((rd_T60 l0 x16_1).f1.f5) ((rd_T60 l0 x16_1).f1.f6)) else (none)) else (none)) else (impl_LoopAt.j1 k1 l0 a1 x7_1 l0 (l0.length : Int) x16_1 false x144000_1 x144001_1 x144002_1 x144003_1 x144004_1 x144005_1 x144006_1 ((rd_T60 l0 x16_1).f0) ((rd_T60 l0 x16_1).f1.f0) ((rd_T60 l0 x16_1).f1.f1) ((rd_T60 l0 x16_1).f1.f2) ((rd_T60 l0 x16_1).f1.f3) ((rd_T60 l0 x16_1).f1.f4) ((rd_T60 l0 x16_1).f1.f5) ((rd_T60 l0 x16_1).f1.f6))) = some (r1, r2, r3, r4, r5, r6, r7, r8) := by rw [if_pos rfl] at H; exact H
                  clear H
                  have H := H1
                  clear H1
                  by_cases c18 : x16_1 > 0
                  · rw [if_pos c18] at H
                    have c18b0 : decide (0 < x16_1) = true := decide_eq_true c18
                    clear c18
                    (first | rw [c18b0] | (simp only [i64_w, i32_w]; rw [c18b0]) | skip)
                    obtain ⟨ji19, hji19⟩ : ∃ j_ : Int, (wrap64 (x16_1 - 1)) = j_ := ⟨_, rfl⟩
                    replace H : (if 0 ≤ (ji19) then (if (ji19) < (l0.length : Int) then (impl_LoopAt.j1 k1 l0 a1 x7_1 l0 (l0.length : Int) x16_1 (decide (((rd_T60 l0 x16_1).f0) ≤ ((rd_T60 l0 (ji19)).f0))) x144000_1 x144001_1 x144002_1 x144003_1 x144004_1 x144005_1 x144006_1 ((rd_T60 l0 x16_1).f0) ((rd_T60 l0 x16_1).f1.f0) ((rd_T60 l0 x16_1).f1.f1) ((rd_T60 l0 x16_1).f1.f2) ((rd_T60 l0 x16_1).f1.f3) ((rd_T60 l0 x16_1).f1.f4) ((rd_T60 l0 x16_1).f1.f5) ((rd_T60 l0 x16_1).f1.f6)) else (none)) else (none)) = some (r1, r2, r3, r4, r5, r6, r7, r8) := by first | (rw [hji19] at H; exact H) | (simp only [hji19] at H ⊢; exact H)
                    (try rw [hji19] at A16)
                    have hji19w : (IntKind.i64.wrap (x16_1 - 1)) = ji19 := (i64_w _).trans hji19
                    by_cases c20 : 0 ≤ (ji19)
                    · rw [if_pos c20] at H
                      have c20b0 : decide (0 ≤ (ji19)) = true := decide_eq_true c20
                      clear c20
                      by_cases c21 : (ji19) < (l0.length : Int)
                      · rw [if_pos c21] at H
                        have c21b0 : decide ((ji19) < (l0.length : Int)) = true := decide_eq_true c21
                        clear c21
                        have H' := Aside0.mk H
                        clear H
                        try go_wp2
                        have n0_ : Aside0 (((((((((w12.setCell ⟨gb145, 0, none⟩ (.int .i64 ((rd_T60 l0 x16_1).f0))).setCell ⟨gb145, 1, none⟩ (.int .i64 ((rd_T60 l0 x16_1).f1.f0))).setCell ⟨gb145, 2, none⟩ (.int .i64 ((rd_T60 l0 x16_1).f1.f1))).setCell ⟨gb145, 3, none⟩ (.int .i64 ((rd_T60 l0 x16_1).f1.f2))).setCell ⟨gb145, 4, none⟩ (.int .i64 ((rd_T60 l0 x16_1).f1.f3))).setCell ⟨gb145, 5, none⟩ (.int .i64 ((rd_T60 l0 x16_1).f1.f4))).setCell ⟨gb145, 6, none⟩ (.int .i64 ((rd_T60 l0 x16_1).f1.f5))).setCell ⟨gb145, 7, none⟩ (.int .i64 ((rd_T60 l0 x16_1).f1.f6))).heap[gb142]? = some (.cells #[.int .i64 x143000_1, .int .i64 x143001_1, .int .i64 x143002_1, .int .i64 x143003_1, .int .i64 x143004_1, .int .i64 x143005_1, .int .i64 x143006_1] 25 (0, 0))) := ⟨by (with_reducible repeat (first | refine blk_drewN ?_ _ | refine blk_drew ?_ | refine blk_alloc ?_ _)); refine blk_far ?_ NB142_145.out _; (with_reducible repeat (first | refine blk_drewN ?_ _ | refine blk_drew ?_ | refine blk_alloc ?_ _)); refine blk_far ?_ NB142_145.out _; (with_reducible repeat (first | refine blk_drewN ?_ _ | refine blk_drew ?_ | refine blk_alloc ?_ _)); refine blk_far ?_ NB142_145.out _; (with_reducible repeat (first | refine blk_drewN ?_ _ | refine blk_drew ?_ | refine blk_alloc ?_ _)); refine blk_far ?_ NB142_145.out _; (with_reducible repeat (first | refine blk_drewN ?_ _ | refine blk_drew ?_ | refine blk_alloc ?_ _)); refine blk_far ?_ NB142_145.out _; (with_reducible repeat (first | refine blk_drewN ?_ _ | refine blk_drew ?_ | refine blk_alloc ?_ _)); refine blk_far ?_ NB142_145.out _; (with_reducible repeat (first | refine blk_drewN ?_ _ | refine blk_drew ?_ | refine blk_alloc ?_ _)); refine blk_far ?_ NB142_145.out _; (with_reducible repeat (first | refine blk_drewN ?_ _ | refine blk_drew ?_ | refine blk_alloc ?_ _)); refine blk_far ?_ NB142_145.out _; (with_reducible repeat (first | refine blk_drewN ?_ _ | refine blk_drew ?_ | refine blk_alloc ?_ _)); exact BK142.out⟩
                        have n1_ : Aside0 (((((((((w12.setCell ⟨gb145, 0, none⟩ (.int .i64 ((rd_T60 l0 x16_1).f0))).setCell ⟨gb145, 1, none⟩ (.int .i64 ((rd_T60 l0 x16_1).f1.f0))).setCell ⟨gb145, 2, none⟩ (.int .i64 ((rd_T60 l0 x16_1).f1.f1))).setCell ⟨gb145, 3, none⟩ (.int .i64 ((rd_T60 l0 x16_1).f1.f2))).setCell ⟨gb145, 4, none⟩ (.int .i64 ((rd_T60 l0 x16_1).f1.f3))).setCell ⟨gb145, 5, none⟩ (.int .i64 ((rd_T60 l0 x16_1).f1.f4))).setCell ⟨gb145, 6, none⟩ (.int .i64 ((rd_T60 l0 x16_1).f1.f5))).setCell ⟨gb145, 7, none⟩ (.int .i64 ((rd_T60 l0 x16_1).f1.f6))).heap[gb143]? = some (.cells #[.int .i64 x144000_1, .int .i64 x144001_1, .int .i64 x144002_1, .int .i64 x144003_1, .int .i64 x144004_1, .int .i64 x144005_1, .int .i64 x144006_1] 25 (0, 0))) := ⟨by (with_reducible repeat (first | refine blk_drewN ?_ _ | refine blk_drew ?_ | refine blk_alloc ?_ _)); refine blk_far ?_ NB143_145.out _; (with_reducible repeat (first | refine blk_drewN ?_ _ | refine blk_drew ?_ | refine blk_alloc ?_ _)); refine blk_far ?_ NB143_145.out _; (with_reducible repeat (first | refine blk_drewN ?_ _ | refine blk_drew ?_ | refine blk_alloc ?_ _)); refine blk_far ?_ NB143_145.out _; (with_reducible repeat (first | refine blk_drewN ?_ _ | refine blk_drew ?_ | refine blk_alloc ?_ _)); refine blk_far ?_ NB143_145.out _; (with_reducible repeat (first | refine blk_drewN ?_ _ | refine blk_drew ?_ | refine blk_alloc ?_ _)); refine blk_far ?_ NB143_145.out _; (with_reducible repeat (first | refine blk_drewN ?_ _ | refine blk_drew ?_ | refine blk_alloc ?_ _)); refine blk_far ?_ NB143_145.out _; (with_reducible repeat (first | refine blk_drewN ?_ _ | refine blk_drew ?_ | refine blk_alloc ?_ _)); refine blk_far ?_ NB143_145.out _; (with_reducible repeat (first | refine blk_drewN ?_ _ | refine blk_drew ?_ | refine blk_alloc ?_ _)); refine blk_far ?_ NB143_145.out _; (with_reducible repeat (first | refine blk_drewN ?_ _ | refine blk_drew ?_ | refine blk_alloc ?_ _)); exact BK143.out⟩
                        have n2_ : Aside0 (((((((((w12.setCell ⟨gb145, 0, none⟩ (.int .i64 ((rd_T60 l0 x16_1).f0))).setCell ⟨gb145, 1, none⟩ (.int .i64 ((rd_T60 l0 x16_1).f1.f0))).setCell ⟨gb145, 2, none⟩ (.int .i64 ((rd_T60 l0 x16_1).f1.f1))).setCell ⟨gb145, 3, none⟩ (.int .i64 ((rd_T60 l0 x16_1).f1.f2))).setCell ⟨gb145, 4, none⟩ (.int .i64 ((rd_T60 l0 x16_1).f1.f3))).setCell ⟨gb145, 5, none⟩ (.int .i64 ((rd_T60 l0 x16_1).f1.f4))).setCell ⟨gb145, 6, none⟩ (.int .i64 ((rd_T60 l0 x16_1).f1.f5))).setCell ⟨gb145, 7, none⟩ (.int .i64 ((rd_T60 l0 x16_1).f1.f6))).heap[gb145]? = some (.cells #[.int .i64 ((rd_T60 l0 x16_1).f0), .int .i64 ((rd_T60 l0 x16_1).f1.f0), .int .i64 ((rd_T60 l0 x16_1).f1.f1), .int .i64 ((rd_T60 l0 x16_1).f1.f2), .int .i64 ((rd_T60 l0 x16_1).f1.f3), .int .i64 ((rd_T60 l0 x16_1).f1.f4), .int .i64 ((rd_T60 l0 x16_1).f1.f5), .int .i64 ((rd_T60 l0 x16_1).f1.f6)] 60 (0, 0))) := ⟨by (with_reducible repeat (first | refine blk_drewN ?_ _ | refine blk_drew ?_ | refine blk_alloc ?_ _)); refine blk_put (cs := #[.int .i64 ((rd_T60 l0 x16_1).f0), .int .i64 ((rd_T60 l0 x16_1).f1.f0), .int .i64 ((rd_T60 l0 x16_1).f1.f1), .int .i64 ((rd_T60 l0 x16_1).f1.f2), .int .i64 ((rd_T60 l0 x16_1).f1.f3), .int .i64 ((rd_T60 l0 x16_1).f1.f4), .int .i64 ((rd_T60 l0 x16_1).f1.f5), .int .i64 0]) ?_ 7 _ rfl; (with_reducible repeat (first | refine blk_drewN ?_ _ | refine blk_drew ?_ | refine blk_alloc ?_ _)); refine blk_put (cs := #[.int .i64 ((rd_T60 l0 x16_1).f0), .int .i64 ((rd_T60 l0 x16_1).f1.f0), .int .i64 ((rd_T60 l0 x16_1).f1.f1), .int .i64 ((rd_T60 l0 x16_1).f1.f2), .int .i64 ((rd_T60 l0 x16_1).f1.f3), .int .i64 ((rd_T60 l0 x16_1).f1.f4), .int .i64 0, .int .i64 0]) ?_ 6 _ rfl; (with_reducible repeat (first | refine blk_drewN ?_ _ | refine blk_drew ?_ | refine blk_alloc ?_ _)); refine blk_put (cs := #[.int .i64 ((rd_T60 l0 x16_1).f0), .int .i64 ((rd_T60 l0 x16_1).f1.f0), .int .i64 ((rd_T60 l0 x16_1).f1.f1), .int .i64 ((rd_T60 l0 x16_1).f1.f2), .int .i64 ((rd_T60 l0 x16_1).f1.f3), .int .i64 0, .int .i64 0, .int .i64 0]) ?_ 5 _ rfl; (with_reducible repeat (first | refine blk_drewN ?_ _ | refine blk_drew ?_ | refine blk_alloc ?_ _)); refine blk_put (cs := #[.int .i64 ((rd_T60 l0 x16_1).f0), .int .i64 ((rd_T60 l0 x16_1).f1.f0), .int .i64 ((rd_T60 l0 x16_1).f1.f1), .int .i64 ((rd_T60 l0 x16_1).f1.f2), .int .i64 0, .int .i64 0, .int .i64 0, .int .i64 0]) ?_ 4 _ rfl; (with_reducible repeat (first | refine blk_drewN ?_ _ | refine blk_drew ?_ | refine blk_alloc ?_ _)); refine blk_put (cs := #[.int .i64 ((rd_T60 l0 x16_1).f0), .int .i64 ((rd_T60 l0 x16_1).f1.f0), .int .i64 ((rd_T60 l0 x16_1).f1.f1), .int .i64 0, .int .i64 0, .int .i64 0, .int .i64 0, .int .i64 0]) ?_ 3 _ rfl; (with_reducible repeat (first | refine blk_drewN ?_ _ | refine blk_drew ?_ | refine blk_alloc ?_ _)); refine blk_put (cs := #[.int .i64 ((rd_T60 l0 x16_1).f0), .int .i64 ((rd_T60 l0 x16_1).f1.f0), .int .i64 0, .int .i64 0, .int .i64 0, .int .i64 0, .int .i64 0, .int .i64 0]) ?_ 2 _ rfl; (with_reducible repeat (first | refine blk_drewN ?_ _ | refine blk_drew ?_ | refine blk_alloc ?_ _)); refine blk_put (cs := #[.int .i64 ((rd_T60 l0 x16_1).f0), .int .i64 0, .int .i64 0, .int .i64 0, .int .i64 0, .int .i64 0, .int .i64 0, .int .i64 0]) ?_ 1 _ rfl; (with_reducible repeat (first | refine blk_drewN ?_ _ | refine blk_drew ?_ | refine blk_alloc ?_ _)); refine blk_put (cs := #[.int .i64 0, .int .i64 0, .int .i64 0, .int .i64 0, .int .i64 0, .int .i64 0, .int .i64 0, .int .i64 0]) ?_ 0 _ rfl; (with_reducible repeat (first | refine blk_drewN ?_ _ | refine blk_drew ?_ | refine blk_alloc ?_ _)); exact BK145.out⟩
                        have n3_ : Aside0 (Below w.heap.size w ((((((((w12.setCell ⟨gb145, 0, none⟩ (.int .i64 ((rd_T60 l0 x16_1).f0))).setCell ⟨gb145, 1, none⟩ (.int .i64 ((rd_T60 l0 x16_1).f1.f0))).setCell ⟨gb145, 2, none⟩ (.int .i64 ((rd_T60 l0 x16_1).f1.f1))).setCell ⟨gb145, 3, none⟩ (.int .i64 ((rd_T60 l0 x16_1).f1.f2))).setCell ⟨gb145, 4, none⟩ (.int .i64 ((rd_T60 l0 x16_1).f1.f3))).setCell ⟨gb145, 5, none⟩ (.int .i64 ((rd_T60 l0 x16_1).f1.f4))).setCell ⟨gb145, 6, none⟩ (.int .i64 ((rd_T60 l0 x16_1).f1.f5))).setCell ⟨gb145, 7, none⟩ (.int .i64 ((rd_T60 l0 x16_1).f1.f6)))) := ⟨by repeat (first | (with_reducible first | exact HB.out | apply below_alloc | apply pw_below_drewN | apply below_drew1 | refine below_set ?_ GE142.out | refine below_set ?_ GE143.out | refine below_set ?_ GE145.out) | exact HB.out)⟩
                        (try clear BK142)
                        (try clear BK143)
                        (try clear BK145)
                        (try clear HB)
                        generalize ((((((((w12.setCell ⟨gb145, 0, none⟩ (.int .i64 ((rd_T60 l0 x16_1).f0))).setCell ⟨gb145, 1, none⟩ (.int .i64 ((rd_T60 l0 x16_1).f1.f0))).setCell ⟨gb145, 2, none⟩ (.int .i64 ((rd_T60 l0 x16_1).f1.f1))).setCell ⟨gb145, 3, none⟩ (.int .i64 ((rd_T60 l0 x16_1).f1.f2))).setCell ⟨gb145, 4, none⟩ (.int .i64 ((rd_T60 l0 x16_1).f1.f3))).setCell ⟨gb145, 5, none⟩ (.int .i64 ((rd_T60 l0 x16_1).f1.f4))).setCell ⟨gb145, 6, none⟩ (.int .i64 ((rd_T60 l0 x16_1).f1.f5))).setCell ⟨gb145, 7, none⟩ (.int .i64 ((rd_T60 l0 x16_1).f1.f6))) = w22 at n0_ n1_ n2_ n3_ ⊢
                        have BK142 := n0_
                        have BK143 := n1_
                        have BK145 := n2_
                        have HB := n3_
                        clear n0_ n1_ n2_ n3_
                        have n0_ := Aside0.mk (blk_drew BK142.out)
                        have n1_ := Aside0.mk (blk_drew BK143.out)
                        have n2_ := Aside0.mk (blk_drew BK145.out)
                        have n3_ := Aside0.mk (below_drew1 HB.out)
                        clear BK142
                        clear BK143
                        clear BK145
                        clear HB
                        have BK142 := n0_
                        have BK143 := n1_
                        have BK145 := n2_
                        have HB := n3_
                        clear n0_ n1_ n2_ n3_
                        have p147 : 0 ≤ ((ji19) : Int) := of_decide_eq_true (by first | (with_reducible assumption) | assumption)
                        have q147 : (ji19) < (l0.length : Int) := of_decide_eq_true (by first | (with_reducible assumption) | assumption)
                        obtain ⟨ad147, e147, hx147_0, hx147_1, hx147_2, hx147_3, hx147_4, hx147_5, hx147_6, hx147_7⟩ := at_T60 HR0.out (ji19) p147 q147
                        have hw147_7 := hx147_7
                        have hw147_6 := hx147_6
                        have hw147_5 := hx147_5
                        have hw147_4 := hx147_4
                        have hw147_3 := hx147_3
                        have hw147_2 := hx147_2
                        have hw147_1 := hx147_1
                        have hw147_0 := hx147_0
                        obtain rfl : ad144 = ad147 := (by injection e147)
                        replace hx147_0 := (HB.out.cell (World.block_lt_of_cell? w _ hx147_0)).trans hx147_0
                        replace hx147_1 := (HB.out.cell (World.block_lt_of_cell? w _ hx147_1)).trans hx147_1
                        replace hx147_2 := (HB.out.cell (World.block_lt_of_cell? w _ hx147_2)).trans hx147_2
                        replace hx147_3 := (HB.out.cell (World.block_lt_of_cell? w _ hx147_3)).trans hx147_3
                        replace hx147_4 := (HB.out.cell (World.block_lt_of_cell? w _ hx147_4)).trans hx147_4
                        replace hx147_5 := (HB.out.cell (World.block_lt_of_cell? w _ hx147_5)).trans hx147_5
                        replace hx147_6 := (HB.out.cell (World.block_lt_of_cell? w _ hx147_6)).trans hx147_6
                        replace hx147_7 := (HB.out.cell (World.block_lt_of_cell? w _ hx147_7)).trans hx147_7
                        replace p147 := eq_true p147
                        replace q147 := eq_true q147
                        refine start_ (n := 19) (S := fun w' => w'.cell? ⟨gb145, 0, none⟩ = some (.int .i64 ((rd_T60 l0 x16_1).f0)) ∧ w'.cell? ⟨gb145, 1, none⟩ = some (.int .i64 ((rd_T60 l0 x16_1).f1.f0)) ∧ w'.cell? ⟨gb145, 2, none⟩ = some (.int .i64 ((rd_T60 l0 x16_1).f1.f1)) ∧ w'.cell? ⟨gb145, 3, none⟩ = some (.int .i64 ((rd_T60 l0 x16_1).f1.f2)) ∧ w'.cell? ⟨gb145, 4, none⟩ = some (.int .i64 ((rd_T60 l0 x16_1).f1.f3)) ∧ w'.cell? ⟨gb145, 5, none⟩ = some (.int .i64 ((rd_T60 l0 x16_1).f1.f4)) ∧ w'.cell? ⟨gb145, 6, none⟩ = some (.int .i64 ((rd_T60 l0 x16_1).f1.f5)) ∧ w'.cell? ⟨gb145, 7, none⟩ = some (.int .i64 ((rd_T60 l0 x16_1).f1.f6)) ∧ w'.cell? (ad144.add (((ji19)).toNat * 8)) = some (.int .i64 ((rd_T60 l0 (ji19)).f0)) ∧ w'.cell? ⟨(ad144.add (((ji19)).toNat * 8)).block, (ad144.add (((ji19)).toNat * 8)).off + 1, none⟩ = some (.int .i64 ((rd_T60 l0 (ji19)).f1.f0)) ∧ w'.cell? ⟨(ad144.add (((ji19)).toNat * 8)).block, (ad144.add (((ji19)).toNat * 8)).off + 2, none⟩ = some (.int .i64 ((rd_T60 l0 (ji19)).f1.f1)) ∧ w'.cell? ⟨(ad144.add (((ji19)).toNat * 8)).block, (ad144.add (((ji19)).toNat * 8)).off + 3, none⟩ = some (.int .i64 ((rd_T60 l0 (ji19)).f1.f2)) ∧ w'.cell? ⟨(ad144.add (((ji19)).toNat * 8)).block, (ad144.add (((ji19)).toNat * 8)).off + 4, none⟩ = some (.int .i64 ((rd_T60 l0 (ji19)).f1.f3)) ∧ w'.cell? ⟨(ad144.add (((ji19)).toNat * 8)).block, (ad144.add (((ji19)).toNat * 8)).off + 5, none⟩ = some (.int .i64 ((rd_T60 l0 (ji19)).f1.f4)) ∧ w'.cell? ⟨(ad144.add (((ji19)).toNat * 8)).block, (ad144.add (((ji19)).toNat * 8)).off + 6, none⟩ = some (.int .i64 ((rd_T60 l0 (ji19)).f1.f5)) ∧ w'.cell? ⟨(ad144.add (((ji19)).toNat * 8)).block, (ad144.add (((ji19)).toNat * 8)).off + 7, none⟩ = some (.int .i64 ((rd_T60 l0 (ji19)).f1.f6))) (ds := []) #[false, false, false, false, false, false, false, false, false, false, false, false, false, false, false, false, false, false, false] (by kernel_rfl) rfl rfl ⟨(blk_cell BK145.out 0).trans rfl, (blk_cell BK145.out 1).trans rfl, (blk_cell BK145.out 2).trans rfl, (blk_cell BK145.out 3).trans rfl, (blk_cell BK145.out 4).trans rfl, (blk_cell BK145.out 5).trans rfl, (blk_cell BK145.out 6).trans rfl, (blk_cell BK145.out 7).trans rfl, ((HB.out.cell (World.block_lt_of_cell? w _ hw147_0)).trans hw147_0), ((HB.out.cell (World.block_lt_of_cell? w _ hw147_1)).trans hw147_1), ((HB.out.cell (World.block_lt_of_cell? w _ hw147_2)).trans hw147_2), ((HB.out.cell (World.block_lt_of_cell? w _ hw147_3)).trans hw147_3), ((HB.out.cell (World.block_lt_of_cell? w _ hw147_4)).trans hw147_4), ((HB.out.cell (World.block_lt_of_cell? w _ hw147_5)).trans hw147_5), ((HB.out.cell (World.block_lt_of_cell? w _ hw147_6)).trans hw147_6), ((HB.out.cell (World.block_lt_of_cell? w _ hw147_7)).trans hw147_7)⟩ (fun hHeld => ?_); refine with_tabW impl_LoopAt.tab8 impl_LoopAt.bits8 (fun HT_ HW_ => ?_)
                        generalize w22.drew = w23 at BK142 BK143 BK145 HB hx147_0 hx147_1 hx147_2 hx147_3 hx147_4 hx147_5 hx147_6 hx147_7 hHeld ⊢
                        refine pure_ (i := 0) (N := some 21) (v := ?_) (a' := ?_) #[true, false, false, false, false, false, false, false, false, false, false, false, false, false, false, false, false, false, false] rfl rfl (any_of HT_.out (by kernel_rfl)) (fun _ _ _ h => h) (Or.inl ⟨by rfl, ?_⟩) ?_ ?_
                        rotate_left
                        · intro w'
                          go_simp
                          with_reducible rfl
                        rotate_left
                        · simp only [Act.put, List.setIfInBounds_toArray, List.set_cons_zero, List.set_cons_succ, i64_w, i32_w]
                          rfl
                        refine take_ (i := 1) (N := some 22) (v := ?_) (a' := ?_) #[true, true, false, false, false, false, false, false, false, false, false, false, false, false, false, false, false, false, false] rfl rfl (take_ofW HT_.out HW_.out (by kernel_rfl)) (fun _ _ _ h => h) (Or.inl ⟨by rfl, ?_⟩) hHeld ?_ ?_
                        rotate_left
                        · rintro w' ⟨s0, s1, s2, s3, s4, s5, s6, s7, s8, s9, s10, s11, s12, s13, s14, s15⟩
                          go_simp
                          with_reducible rfl
                        rotate_left
                        · simp only [Act.put, List.setIfInBounds_toArray, List.set_cons_zero, List.set_cons_succ, i64_w, i32_w]
                          rfl
                        refine one_ (i := 2) (N := some 23) #[true, true, true, false, false, false, false, false, false, false, false, false, false, false, false, false, false, false, false] rfl rfl (one_of HT_.out (by kernel_rfl)) (by decide) (fun K hK => ?_)
                        refine goes_ Try.func41 (by kernel_rfl) rfl #[.agg #[.int .i64 ((rd_T60 l0 x16_1).f1.f0), .int .i64 ((rd_T60 l0 x16_1).f1.f1), .int .i64 ((rd_T60 l0 x16_1).f1.f2), .int .i64 ((rd_T60 l0 x16_1).f1.f3), .int .i64 ((rd_T60 l0 x16_1).f1.f4), .int .i64 ((rd_T60 l0 x16_1).f1.f5), .int .i64 ((rd_T60 l0 x16_1).f1.f6)]] (by rfl) rfl rfl (by (try simp only [List.map_toArray, List.map_cons, List.map_nil]); first | done | rfl | (simp only [List.length_drop, List.length_take]; rfl)) ?_
                        with_reducible refine (impl_GoodLoop.calls ((rd_T60 l0 x16_1).f1.f0) ((rd_T60 l0 x16_1).f1.f1) ((rd_T60 l0 x16_1).f1.f2) ((rd_T60 l0 x16_1).f1.f3) ((rd_T60 l0 x16_1).f1.f4) ((rd_T60 l0 x16_1).f1.f5) ((rd_T60 l0 x16_1).f1.f6) true _ A16.out).mono ?_
                        rintro e w24 ⟨rfl, hb⟩
                        refine ⟨_, rfl, ?_⟩
                        have n0_ := Aside0.mk (blk_below (g := gb142) (o := .cells #[.int .i64 x143000_1, .int .i64 x143001_1, .int .i64 x143002_1, .int .i64 x143003_1, .int .i64 x143004_1, .int .i64 x143005_1, .int .i64 x143006_1] 25 (0, 0)) (by (with_reducible repeat (first | refine blk_drewN ?_ _ | refine blk_drew ?_ | refine blk_alloc ?_ _)); exact BK142.out) hb)
                        have n1_ := Aside0.mk (blk_below (g := gb143) (o := .cells #[.int .i64 x144000_1, .int .i64 x144001_1, .int .i64 x144002_1, .int .i64 x144003_1, .int .i64 x144004_1, .int .i64 x144005_1, .int .i64 x144006_1] 25 (0, 0)) (by (with_reducible repeat (first | refine blk_drewN ?_ _ | refine blk_drew ?_ | refine blk_alloc ?_ _)); exact BK143.out) hb)
                        have n2_ := Aside0.mk (blk_below (g := gb145) (o := .cells #[.int .i64 ((rd_T60 l0 x16_1).f0), .int .i64 ((rd_T60 l0 x16_1).f1.f0), .int .i64 ((rd_T60 l0 x16_1).f1.f1), .int .i64 ((rd_T60 l0 x16_1).f1.f2), .int .i64 ((rd_T60 l0 x16_1).f1.f3), .int .i64 ((rd_T60 l0 x16_1).f1.f4), .int .i64 ((rd_T60 l0 x16_1).f1.f5), .int .i64 ((rd_T60 l0 x16_1).f1.f6)] 60 (0, 0)) (by (with_reducible repeat (first | refine blk_drewN ?_ _ | refine blk_drew ?_ | refine blk_alloc ?_ _)); exact BK145.out) hb)
                        have n3_ := Aside0.mk (below_step (by repeat (first | (with_reducible first | exact HB.out | apply below_alloc | apply pw_below_drewN | apply below_drew1 | refine below_set ?_ GE142.out | refine below_set ?_ GE143.out | refine below_set ?_ GE145.out) | exact HB.out)) hb)
                        clear BK142
                        clear BK143
                        clear BK145
                        clear HB
                        have BK142 := n0_
                        have BK143 := n1_
                        have BK145 := n2_
                        have HB := n3_
                        clear n0_ n1_ n2_ n3_
                        (try clear hb)
                        (try clear hb2)
                        (try clear hk)
                        (try clear hi)
                        refine hK.out _ _ ⟨(blk_cell BK145.out 0).trans rfl, (blk_cell BK145.out 1).trans rfl, (blk_cell BK145.out 2).trans rfl, (blk_cell BK145.out 3).trans rfl, (blk_cell BK145.out 4).trans rfl, (blk_cell BK145.out 5).trans rfl, (blk_cell BK145.out 6).trans rfl, (blk_cell BK145.out 7).trans rfl, ((HB.out.cell (World.block_lt_of_cell? w _ hw147_0)).trans hw147_0), ((HB.out.cell (World.block_lt_of_cell? w _ hw147_1)).trans hw147_1), ((HB.out.cell (World.block_lt_of_cell? w _ hw147_2)).trans hw147_2), ((HB.out.cell (World.block_lt_of_cell? w _ hw147_3)).trans hw147_3), ((HB.out.cell (World.block_lt_of_cell? w _ hw147_4)).trans hw147_4), ((HB.out.cell (World.block_lt_of_cell? w _ hw147_5)).trans hw147_5), ((HB.out.cell (World.block_lt_of_cell? w _ hw147_6)).trans hw147_6), ((HB.out.cell (World.block_lt_of_cell? w _ hw147_7)).trans hw147_7)⟩ (fun hHeld => ?_)
                        clear hK K
                        refine norm_ (a' := ?_) ?_ ?_
                        rotate_left
                        · show Act.put _ (some 23) _ = _
                          simp only [Act.put, List.setIfInBounds_toArray, List.set_cons_zero, List.set_cons_succ, i64_w, i32_w]
                          rfl
                        refine pure_ (i := 3) (N := some 24) (v := ?_) (a' := ?_) #[true, true, true, true, false, false, false, false, false, false, false, false, false, false, false, false, false, false, false] rfl rfl (any_of HT_.out (by kernel_rfl)) (fun _ _ _ h => h) (Or.inl ⟨by rfl, ?_⟩) ?_ ?_
                        rotate_left
                        · intro w'
                          go_simp
                          with_reducible rfl
                        rotate_left
                        · simp only [Act.put, List.setIfInBounds_toArray, List.set_cons_zero, List.set_cons_succ, i64_w, i32_w]
                          rfl
                        refine pure_ (i := 4) (N := some 25) (v := ?_) (a' := ?_) #[true, true, true, true, true, false, false, false, false, false, false, false, false, false, false, false, false, false, false] rfl rfl (any_of HT_.out (by kernel_rfl)) (fun _ _ _ h => h) (Or.inl ⟨by rfl, ?_⟩) ?_ ?_
                        rotate_left
                        · intro w'
                          go_simp
                          with_reducible rfl
                        rotate_left
                        · simp only [Act.put, List.setIfInBounds_toArray, List.set_cons_zero, List.set_cons_succ, i64_w, i32_w]
                          rfl
                        refine pure_ (i := 5) (N := some 26) (v := ?_) (a' := ?_) #[true, true, true, true, true, true, false, false, false, false, false, false, false, false, false, false, false, false, false] rfl rfl (any_of HT_.out (by kernel_rfl)) (fun _ _ _ h => h) (Or.inl ⟨by rfl, ?_⟩) ?_ ?_
                        rotate_left
                        · intro w'
                          go_simp
                          with_reducible rfl
                        rotate_left
                        · simp only [Act.put, List.setIfInBounds_toArray, List.set_cons_zero, List.set_cons_succ, i64_w, i32_w]
                          rfl
                        refine pure_ (i := 6) (N := some 27) (v := ?_) (a' := ?_) #[true, true, true, true, true, true, true, false, false, false, false, false, false, false, false, false, false, false, false] rfl rfl (any_of HT_.out (by kernel_rfl)) (fun _ _ _ h => h) (Or.inl ⟨by rfl, ?_⟩) ?_ ?_
                        rotate_left
                        · intro w'
                          go_simp
                          with_reducible rfl
                        rotate_left
                        · simp only [Act.put, List.setIfInBounds_toArray, List.set_cons_zero, List.set_cons_succ, i64_w, i32_w]
                          rfl
                        refine pure_ (i := 7) (N := some 28) (v := ?_) (a' := ?_) #[true, true, true, true, true, true, true, true, false, false, false, false, false, false, false, false, false, false, false] rfl rfl (any_of HT_.out (by kernel_rfl)) (fun _ _ _ h => h) (Or.inl ⟨by rfl, ?_⟩) ?_ ?_
                        rotate_left
                        · intro w'
                          go_simp
                          with_reducible rfl
                        rotate_left
                        · simp only [Act.put, List.setIfInBounds_toArray, List.set_cons_zero, List.set_cons_succ, i64_w, i32_w]
                          rfl
                        refine pure_ (i := 8) (N := some 29) (v := ?_) (a' := ?_) #[true, true, true, true, true, true, true, true, true, false, false, false, false, false, false, false, false, false, false] rfl rfl (any_of HT_.out (by kernel_rfl)) (fun _ _ _ h => h) (Or.inl ⟨by rfl, ?_⟩) ?_ ?_
                        rotate_left
                        · intro w'
                          go_simp
                          with_reducible rfl
                        rotate_left
                        · simp only [Act.put, List.setIfInBounds_toArray, List.set_cons_zero, List.set_cons_succ, i64_w, i32_w]
                          rfl
                        refine pure_ (i := 10) (N := some 31) (v := ?_) (a' := ?_) #[true, true, true, true, true, true, true, true, true, false, true, false, false, false, false, false, false, false, false] rfl rfl (any_of HT_.out (by kernel_rfl)) (fun _ _ _ h => h) (Or.inl ⟨by rfl, ?_⟩) ?_ ?_
                        rotate_left
                        · intro w'
                          go_simp
                          with_reducible rfl
                        rotate_left
                        · simp only [Act.put, List.setIfInBounds_toArray, List.set_cons_zero, List.set_cons_succ, i64_w, i32_w]
                          rfl
                        refine pure_ (i := 11) (N := some 32) (v := ?_) (a' := ?_) #[true, true, true, true, true, true, true, true, true, false, true, true, false, false, false, false, false, false, false] rfl rfl (any_of HT_.out (by kernel_rfl)) (fun _ _ _ h => h) (Or.inl ⟨by rfl, ?_⟩) ?_ ?_
                        rotate_left
                        · intro w'
                          go_simp
                          with_reducible rfl
                        rotate_left
                        · simp only [Act.put, List.setIfInBounds_toArray, List.set_cons_zero, List.set_cons_succ, i64_w, i32_w]
                          rfl
                        refine pure_ (i := 12) (N := some 33) (v := ?_) (a' := ?_) #[true, true, true, true, true, true, true, true, true, false, true, true, true, false, false, false, false, false, false] rfl rfl (any_of HT_.out (by kernel_rfl)) (fun _ _ _ h => h) (Or.inl ⟨by rfl, ?_⟩) ?_ ?_
                        rotate_left
                        · intro w'
                          go_simp
                          with_reducible rfl
                        rotate_left
                        · simp only [Act.put, List.setIfInBounds_toArray, List.set_cons_zero, List.set_cons_succ, i64_w, i32_w]
                          rfl
                        refine pure_ (i := 13) (N := some 34) (v := ?_) (a' := ?_) #[true, true, true, true, true, true, true, true, true, false, true, true, true, true, false, false, false, false, false] rfl rfl (any_of HT_.out (by kernel_rfl)) (fun _ _ _ h => h) (Or.inl ⟨by rfl, ?_⟩) ?_ ?_
                        rotate_left
                        · intro w'
                          go_simp
                          with_reducible rfl
                        rotate_left
                        · simp only [Act.put, List.setIfInBounds_toArray, List.set_cons_zero, List.set_cons_succ, i64_w, i32_w]
                          rfl
                        refine pure_ (i := 14) (N := some 35) (v := ?_) (a' := ?_) #[true, true, true, true, true, true, true, true, true, false, true, true, true, true, true, false, false, false, false] rfl rfl (any_of HT_.out (by kernel_rfl)) (fun _ _ _ h => h) (Or.inl ⟨by rfl, ?_⟩) ?_ ?_
                        rotate_left
                        · intro w'
                          go_simp
                          with_reducible rfl
                        rotate_left
                        · simp only [Act.put, List.setIfInBounds_toArray, List.set_cons_zero, List.set_cons_succ, i64_w, i32_w]
                          rfl
                        refine take_ (i := 9) (N := some 30) (v := ?_) (a' := ?_) #[true, true, true, true, true, true, true, true, true, true, true, true, true, true, true, false, false, false, false] rfl rfl (take_ofW HT_.out HW_.out (by kernel_rfl)) (fun _ _ _ h => h) (Or.inl ⟨by rfl, ?_⟩) hHeld ?_ ?_
                        rotate_left
                        · rintro w' ⟨s0, s1, s2, s3, s4, s5, s6, s7, s8, s9, s10, s11, s12, s13, s14, s15⟩
                          go_simp
                          with_reducible rfl
                        rotate_left
                        · simp only [Act.put, List.setIfInBounds_toArray, List.set_cons_zero, List.set_cons_succ, i64_w, i32_w]
                          rfl
                        refine take_ (i := 15) (N := some 36) (v := ?_) (a' := ?_) #[true, true, true, true, true, true, true, true, true, true, true, true, true, true, true, true, false, false, false] rfl rfl (take_ofW HT_.out HW_.out (by kernel_rfl)) (fun _ _ _ h => h) (Or.inl ⟨by rfl, ?_⟩) hHeld ?_ ?_
                        rotate_left
                        · rintro w' ⟨s0, s1, s2, s3, s4, s5, s6, s7, s8, s9, s10, s11, s12, s13, s14, s15⟩
                          go_simp
                          with_reducible rfl
                        rotate_left
                        · simp only [Act.put, List.setIfInBounds_toArray, List.set_cons_zero, List.set_cons_succ, i64_w, i32_w]
                          rfl
                        refine pure_ (i := 16) (N := some 37) (v := ?_) (a' := ?_) #[true, true, true, true, true, true, true, true, true, true, true, true, true, true, true, true, true, false, false] rfl rfl (any_of HT_.out (by kernel_rfl)) (fun _ _ _ h => h) (Or.inl ⟨by rfl, ?_⟩) ?_ ?_
                        rotate_left
                        · intro w'
                          go_simp
                          with_reducible rfl
                        rotate_left
                        · simp only [Act.put, List.setIfInBounds_toArray, List.set_cons_zero, List.set_cons_succ, i64_w, i32_w]
                          rfl
                        refine pure_ (i := 17) (N := some 38) (v := ?_) (a' := ?_) #[true, true, true, true, true, true, true, true, true, true, true, true, true, true, true, true, true, true, false] rfl rfl (any_of HT_.out (by kernel_rfl)) (fun _ _ _ h => h) (Or.inl ⟨by rfl, ?_⟩) ?_ ?_
                        rotate_left
                        · intro w'
                          go_simp
                          with_reducible rfl
                        rotate_left
                        · simp only [Act.put, List.setIfInBounds_toArray, List.set_cons_zero, List.set_cons_succ, i64_w, i32_w]
                          rfl
                        refine pure_ (i := 18) (N := some 39) (v := ?_) (a' := ?_) #[true, true, true, true, true, true, true, true, true, true, true, true, true, true, true, true, true, true, true] rfl rfl (any_of HT_.out (by kernel_rfl)) (fun _ _ _ h => h) (Or.inl ⟨by rfl, ?_⟩) ?_ ?_
                        rotate_left
                        · intro w'
                          go_simp
                          with_reducible rfl
                        rotate_left
                        · simp only [Act.put, List.setIfInBounds_toArray, List.set_cons_zero, List.set_cons_succ, i64_w, i32_w]
                          rfl
                        refine done_ (done_of HT_.out (by kernel_rfl)) ?_
                        try go_wp2
                        go_meet
                        case rel => exact ⟨_, (decide (((rd_T60 l0 x16_1).f0) ≤ ((rd_T60 l0 (ji19)).f0))), (by first | rfl | (simp; done) | (simp only [← hji19] <;> (first | rfl | simp)) | (simp [*]; done)), H', ⟨by have := HK1.out; first | omega | exact Nat.le_refl _⟩, ⟨by (with_reducible repeat (first | refine blk_drewN ?_ _ | refine blk_drew ?_ | refine blk_alloc ?_ _)); exact BK142.out⟩, ⟨by (with_reducible repeat (first | refine blk_drewN ?_ _ | refine blk_drew ?_ | refine blk_alloc ?_ _)); exact BK143.out⟩, ⟨by (with_reducible repeat (first | refine blk_drewN ?_ _ | refine blk_drew ?_ | refine blk_alloc ?_ _)); exact BK145.out⟩, ⟨by repeat (first | (with_reducible first | exact HB.out | apply below_alloc | apply pw_below_drewN | apply below_drew1 | refine below_set ?_ GE142.out | refine below_set ?_ GE143.out | refine below_set ?_ GE145.out) | exact HB.out)⟩⟩
                      · rw [if_neg c21] at H
                        exact absurd H (by simp)
                    · rw [if_neg c20] at H
                      exact absurd H (by simp)
                  · rw [if_neg c18] at H
                    have c18b0 : decide (0 < x16_1) = false := decide_eq_false c18
                    clear c18
                    (first | rw [c18b0] | (simp only [i64_w, i32_w]; rw [c18b0]) | skip)
                    have H' := Aside0.mk H
                    clear H
                    try go_wp2
                    have n0_ : Aside0 (((((((((w12.setCell ⟨gb145, 0, none⟩ (.int .i64 ((rd_T60 l0 x16_1).f0))).setCell ⟨gb145, 1, none⟩ (.int .i64 ((rd_T60 l0 x16_1).f1.f0))).setCell ⟨gb145, 2, none⟩ (.int .i64 ((rd_T60 l0 x16_1).f1.f1))).setCell ⟨gb145, 3, none⟩ (.int .i64 ((rd_T60 l0 x16_1).f1.f2))).setCell ⟨gb145, 4, none⟩ (.int .i64 ((rd_T60 l0 x16_1).f1.f3))).setCell ⟨gb145, 5, none⟩ (.int .i64 ((rd_T60 l0 x16_1).f1.f4))).setCell ⟨gb145, 6, none⟩ (.int .i64 ((rd_T60 l0 x16_1).f1.f5))).setCell ⟨gb145, 7, none⟩ (.int .i64 ((rd_T60 l0 x16_1).f1.f6))).heap[gb142]? = some (.cells #[.int .i64 x143000_1, .int .i64 x143001_1, .int .i64 x143002_1, .int .i64 x143003_1, .int .i64 x143004_1, .int .i64 x143005_1, .int .i64 x143006_1] 25 (0, 0))) := ⟨by (with_reducible repeat (first | refine blk_drewN ?_ _ | refine blk_drew ?_ | refine blk_alloc ?_ _)); refine blk_far ?_ NB142_145.out _; (with_reducible repeat (first | refine blk_drewN ?_ _ | refine blk_drew ?_ | refine blk_alloc ?_ _)); refine blk_far ?_ NB142_145.out _; (with_reducible repeat (first | refine blk_drewN ?_ _ | refine blk_drew ?_ | refine blk_alloc ?_ _)); refine blk_far ?_ NB142_145.out _; (with_reducible repeat (first | refine blk_drewN ?_ _ | refine blk_drew ?_ | refine blk_alloc ?_ _)); refine blk_far ?_ NB142_145.out _; (with_reducible repeat (first | refine blk_drewN ?_ _ | refine blk_drew ?_ | refine blk_alloc ?_ _)); refine blk_far ?_ NB142_145.out _; (with_reducible repeat (first | refine blk_drewN ?_ _ | refine blk_drew ?_ | refine blk_alloc ?_ _)); refine blk_far ?_ NB142_145.out _; (with_reducible repeat (first | refine blk_drewN ?_ _ | refine blk_drew ?_ | refine blk_alloc ?_ _)); refine blk_far ?_ NB142_145.out _; (with_reducible repeat (first | refine blk_drewN ?_ _ | refine blk_drew ?_ | refine blk_alloc ?_ _)); refine blk_far ?_ NB142_145.out _; (with_reducible repeat (first | refine blk_drewN ?_ _ | refine blk_drew ?_ | refine blk_alloc ?_ _)); exact BK142.out⟩
                    have n1_ : Aside0 (((((((((w12.setCell ⟨gb145, 0, none⟩ (.int .i64 ((rd_T60 l0 x16_1).f0))).setCell ⟨gb145, 1, none⟩ (.int .i64 ((rd_T60 l0 x16_1).f1.f0))).setCell ⟨gb145, 2, none⟩ (.int .i64 ((rd_T60 l0 x16_1).f1.f1))).setCell ⟨gb145, 3, none⟩ (.int .i64 ((rd_T60 l0 x16_1).f1.f2))).setCell ⟨gb145, 4, none⟩ (.int .i64 ((rd_T60 l0 x16_1).f1.f3))).setCell ⟨gb145, 5, none⟩ (.int .i64 ((rd_T60 l0 x16_1).f1.f4))).setCell ⟨gb145, 6, none⟩ (.int .i64 ((rd_T60 l0 x16_1).f1.f5))).setCell ⟨gb145, 7, none⟩ (.int .i64 ((rd_T60 l0 x16_1).f1.f6))).heap[gb143]? = some (.cells #[.int .i64 x144000_1, .int .i64 x144001_1, .int .i64 x144002_1, .int .i64 x144003_1, .int .i64 x144004_1, .int .i64 x144005_1, .int .i64 x144006_1] 25 (0, 0))) := ⟨by (with_reducible repeat (first | refine blk_drewN ?_ _ | refine blk_drew ?_ | refine blk_alloc ?_ _)); refine blk_far ?_ NB143_145.out _; (with_reducible repeat (first | refine blk_drewN ?_ _ | refine blk_drew ?_ | refine blk_alloc ?_ _)); refine blk_far ?_ NB143_145.out _; (with_reducible repeat (first | refine blk_drewN ?_ _ | refine blk_drew ?_ | refine blk_alloc ?_ _)); refine blk_far ?_ NB143_145.out _; (with_reducible repeat (first | refine blk_drewN ?_ _ | refine blk_drew ?_ | refine blk_alloc ?_ _)); refine blk_far ?_ NB143_145.out _; (with_reducible repeat (first | refine blk_drewN ?_ _ | refine blk_drew ?_ | refine blk_alloc ?_ _)); refine blk_far ?_ NB143_145.out _; (with_reducible repeat (first | refine blk_drewN ?_ _ | refine blk_drew ?_ | refine blk_alloc ?_ _)); refine blk_far ?_ NB143_145.out _; (with_reducible repeat (first | refine blk_drewN ?_ _ | refine blk_drew ?_ | refine blk_alloc ?_ _)); refine blk_far ?_ NB143_145.out _; (with_reducible repeat (first | refine blk_drewN ?_ _ | refine blk_drew ?_ | refine blk_alloc ?_ _)); refine blk_far ?_ NB143_145.out _; (with_reducible repeat (first | refine blk_drewN ?_ _ | refine blk_drew ?_ | refine blk_alloc ?_ _)); exact BK143.out⟩
                    have n2_ : Aside0 (((((((((w12.setCell ⟨gb145, 0, none⟩ (.int .i64 ((rd_T60 l0 x16_1).f0))).setCell ⟨gb145, 1, none⟩ (.int .i64 ((rd_T60 l0 x16_1).f1.f0))).setCell ⟨gb145, 2, none⟩ (.int .i64 ((rd_T60 l0 x16_1).f1.f1))).setCell ⟨gb145, 3, none⟩ (.int .i64 ((rd_T60 l0 x16_1).f1.f2))).setCell ⟨gb145, 4, none⟩ (.int .i64 ((rd_T60 l0 x16_1).f1.f3))).setCell ⟨gb145, 5, none⟩ (.int .i64 ((rd_T60 l0 x16_1).f1.f4))).setCell ⟨gb145, 6, none⟩ (.int .i64 ((rd_T60 l0 x16_1).f1.f5))).setCell ⟨gb145, 7, none⟩ (.int .i64 ((rd_T60 l0 x16_1).f1.f6))).heap[gb145]? = some (.cells #[.int .i64 ((rd_T60 l0 x16_1).f0), .int .i64 ((rd_T60 l0 x16_1).f1.f0), .int .i64 ((rd_T60 l0 x16_1).f1.f1), .int .i64 ((rd_T60 l0 x16_1).f1.f2), .int .i64 ((rd_T60 l0 x16_1).f1.f3), .int .i64 ((rd_T60 l0 x16_1).f1.f4), .int .i64 ((rd_T60 l0 x16_1).f1.f5), .int .i64 ((rd_T60 l0 x16_1).f1.f6)] 60 (0, 0))) := ⟨by (with_reducible repeat (first | refine blk_drewN ?_ _ | refine blk_drew ?_ | refine blk_alloc ?_ _)); refine blk_put (cs := #[.int .i64 ((rd_T60 l0 x16_1).f0), .int .i64 ((rd_T60 l0 x16_1).f1.f0), .int .i64 ((rd_T60 l0 x16_1).f1.f1), .int .i64 ((rd_T60 l0 x16_1).f1.f2), .int .i64 ((rd_T60 l0 x16_1).f1.f3), .int .i64 ((rd_T60 l0 x16_1).f1.f4), .int .i64 ((rd_T60 l0 x16_1).f1.f5), .int .i64 0]) ?_ 7 _ rfl; (with_reducible repeat (first | refine blk_drewN ?_ _ | refine blk_drew ?_ | refine blk_alloc ?_ _)); refine blk_put (cs := #[.int .i64 ((rd_T60 l0 x16_1).f0), .int .i64 ((rd_T60 l0 x16_1).f1.f0), .int .i64 ((rd_T60 l0 x16_1).f1.f1), .int .i64 ((rd_T60 l0 x16_1).f1.f2), .int .i64 ((rd_T60 l0 x16_1).f1.f3), .int .i64 ((rd_T60 l0 x16_1).f1.f4), .int .i64 0, .int .i64 0]) ?_ 6 _ rfl; (with_reducible repeat (first | refine blk_drewN ?_ _ | refine blk_drew ?_ | refine blk_alloc ?_ _)); refine blk_put (cs := #[.int .i64 ((rd_T60 l0 x16_1).f0), .int .i64 ((rd_T60 l0 x16_1).f1.f0), .int .i64 ((rd_T60 l0 x16_1).f1.f1), .int .i64 ((rd_T60 l0 x16_1).f1.f2), .int .i64 ((rd_T60 l0 x16_1).f1.f3), .int .i64 0, .int .i64 0, .int .i64 0]) ?_ 5 _ rfl; (with_reducible repeat (first | refine blk_drewN ?_ _ | refine blk_drew ?_ | refine blk_alloc ?_ _)); refine blk_put (cs := #[.int .i64 ((rd_T60 l0 x16_1).f0), .int .i64 ((rd_T60 l0 x16_1).f1.f0), .int .i64 ((rd_T60 l0 x16_1).f1.f1), .int .i64 ((rd_T60 l0 x16_1).f1.f2), .int .i64 0, .int .i64 0, .int .i64 0, .int .i64 0]) ?_ 4 _ rfl; (with_reducible repeat (first | refine blk_drewN ?_ _ | refine blk_drew ?_ | refine blk_alloc ?_ _)); refine blk_put (cs := #[.int .i64 ((rd_T60 l0 x16_1).f0), .int .i64 ((rd_T60 l0 x16_1).f1.f0), .int .i64 ((rd_T60 l0 x16_1).f1.f1), .int .i64 0, .int .i64 0, .int .i64 0, .int .i64 0, .int .i64 0]) ?_ 3 _ rfl; (with_reducible repeat (first | refine blk_drewN ?_ _ | refine blk_drew ?_ | refine blk_alloc ?_ _)); refine blk_put (cs := #[.int .i64 ((rd_T60 l0 x16_1).f0), .int .i64 ((rd_T60 l0 x16_1).f1.f0), .int .i64 0, .int .i64 0, .int .i64 0, .int .i64 0, .int .i64 0, .int .i64 0]) ?_ 2 _ rfl; (with_reducible repeat (first | refine blk_drewN ?_ _ | refine blk_drew ?_ | refine blk_alloc ?_ _)); refine blk_put (cs := #[.int .i64 ((rd_T60 l0 x16_1).f0), .int .i64 0, .int .i64 0, .int .i64 0, .int .i64 0, .int .i64 0, .int .i64 0, .int .i64 0]) ?_ 1 _ rfl; (with_reducible repeat (first | refine blk_drewN ?_ _ | refine blk_drew ?_ | refine blk_alloc ?_ _)); refine blk_put (cs := #[.int .i64 0, .int .i64 0, .int .i64 0, .int .i64 0, .int .i64 0, .int .i64 0, .int .i64 0, .int .i64 0]) ?_ 0 _ rfl; (with_reducible repeat (first | refine blk_drewN ?_ _ | refine blk_drew ?_ | refine blk_alloc ?_ _)); exact BK145.out⟩
                    have n3_ : Aside0 (Below w.heap.size w ((((((((w12.setCell ⟨gb145, 0, none⟩ (.int .i64 ((rd_T60 l0 x16_1).f0))).setCell ⟨gb145, 1, none⟩ (.int .i64 ((rd_T60 l0 x16_1).f1.f0))).setCell ⟨gb145, 2, none⟩ (.int .i64 ((rd_T60 l0 x16_1).f1.f1))).setCell ⟨gb145, 3, none⟩ (.int .i64 ((rd_T60 l0 x16_1).f1.f2))).setCell ⟨gb145, 4, none⟩ (.int .i64 ((rd_T60 l0 x16_1).f1.f3))).setCell ⟨gb145, 5, none⟩ (.int .i64 ((rd_T60 l0 x16_1).f1.f4))).setCell ⟨gb145, 6, none⟩ (.int .i64 ((rd_T60 l0 x16_1).f1.f5))).setCell ⟨gb145, 7, none⟩ (.int .i64 ((rd_T60 l0 x16_1).f1.f6)))) := ⟨by repeat (first | (with_reducible first | exact HB.out | apply below_alloc | apply pw_below_drewN | apply below_drew1 | refine below_set ?_ GE142.out | refine below_set ?_ GE143.out | refine below_set ?_ GE145.out) | exact HB.out)⟩
                    (try clear BK142)
                    (try clear BK143)
                    (try clear BK145)
                    (try clear HB)
                    generalize ((((((((w12.setCell ⟨gb145, 0, none⟩ (.int .i64 ((rd_T60 l0 x16_1).f0))).setCell ⟨gb145, 1, none⟩ (.int .i64 ((rd_T60 l0 x16_1).f1.f0))).setCell ⟨gb145, 2, none⟩ (.int .i64 ((rd_T60 l0 x16_1).f1.f1))).setCell ⟨gb145, 3, none⟩ (.int .i64 ((rd_T60 l0 x16_1).f1.f2))).setCell ⟨gb145, 4, none⟩ (.int .i64 ((rd_T60 l0 x16_1).f1.f3))).setCell ⟨gb145, 5, none⟩ (.int .i64 ((rd_T60 l0 x16_1).f1.f4))).setCell ⟨gb145, 6, none⟩ (.int .i64 ((rd_T60 l0 x16_1).f1.f5))).setCell ⟨gb145, 7, none⟩ (.int .i64 ((rd_T60 l0 x16_1).f1.f6))) = w25 at n0_ n1_ n2_ n3_ ⊢
                    have BK142 := n0_
                    have BK143 := n1_
                    have BK145 := n2_
                    have HB := n3_
                    clear n0_ n1_ n2_ n3_
                    have n0_ := Aside0.mk (blk_drew BK142.out)
                    have n1_ := Aside0.mk (blk_drew BK143.out)
                    have n2_ := Aside0.mk (blk_drew BK145.out)
                    have n3_ := Aside0.mk (below_drew1 HB.out)
                    clear BK142
                    clear BK143
                    clear BK145
                    clear HB
                    have BK142 := n0_
                    have BK143 := n1_
                    have BK145 := n2_
                    have HB := n3_
                    clear n0_ n1_ n2_ n3_
                    refine start_ (n := 19) (S := fun w' => w'.cell? ⟨gb145, 0, none⟩ = some (.int .i64 ((rd_T60 l0 x16_1).f0)) ∧ w'.cell? ⟨gb145, 1, none⟩ = some (.int .i64 ((rd_T60 l0 x16_1).f1.f0)) ∧ w'.cell? ⟨gb145, 2, none⟩ = some (.int .i64 ((rd_T60 l0 x16_1).f1.f1)) ∧ w'.cell? ⟨gb145, 3, none⟩ = some (.int .i64 ((rd_T60 l0 x16_1).f1.f2)) ∧ w'.cell? ⟨gb145, 4, none⟩ = some (.int .i64 ((rd_T60 l0 x16_1).f1.f3)) ∧ w'.cell? ⟨gb145, 5, none⟩ = some (.int .i64 ((rd_T60 l0 x16_1).f1.f4)) ∧ w'.cell? ⟨gb145, 6, none⟩ = some (.int .i64 ((rd_T60 l0 x16_1).f1.f5)) ∧ w'.cell? ⟨gb145, 7, none⟩ = some (.int .i64 ((rd_T60 l0 x16_1).f1.f6))) (ds := []) #[false, false, false, false, false, false, false, false, false, false, false, false, false, false, false, false, false, false, false] (by kernel_rfl) rfl rfl ⟨(blk_cell BK145.out 0).trans rfl, (blk_cell BK145.out 1).trans rfl, (blk_cell BK145.out 2).trans rfl, (blk_cell BK145.out 3).trans rfl, (blk_cell BK145.out 4).trans rfl, (blk_cell BK145.out 5).trans rfl, (blk_cell BK145.out 6).trans rfl, (blk_cell BK145.out 7).trans rfl⟩ (fun hHeld => ?_); refine with_tabW impl_LoopAt.tab8 impl_LoopAt.bits8 (fun HT_ HW_ => ?_)
                    generalize w25.drew = w26 at BK142 BK143 BK145 HB hHeld ⊢
                    refine pure_ (i := 0) (N := some 21) (v := ?_) (a' := ?_) #[true, false, false, false, false, false, false, false, false, false, false, false, false, false, false, false, false, false, false] rfl rfl (any_of HT_.out (by kernel_rfl)) (fun _ _ _ h => h) (Or.inl ⟨by rfl, ?_⟩) ?_ ?_
                    rotate_left
                    · intro w'
                      go_simp
                      with_reducible rfl
                    rotate_left
                    · simp only [Act.put, List.setIfInBounds_toArray, List.set_cons_zero, List.set_cons_succ, i64_w, i32_w]
                      rfl
                    refine take_ (i := 1) (N := some 22) (v := ?_) (a' := ?_) #[true, true, false, false, false, false, false, false, false, false, false, false, false, false, false, false, false, false, false] rfl rfl (take_ofW HT_.out HW_.out (by kernel_rfl)) (fun _ _ _ h => h) (Or.inl ⟨by rfl, ?_⟩) hHeld ?_ ?_
                    rotate_left
                    · rintro w' ⟨s0, s1, s2, s3, s4, s5, s6, s7⟩
                      go_simp
                      with_reducible rfl
                    rotate_left
                    · simp only [Act.put, List.setIfInBounds_toArray, List.set_cons_zero, List.set_cons_succ, i64_w, i32_w]
                      rfl
                    refine one_ (i := 2) (N := some 23) #[true, true, true, false, false, false, false, false, false, false, false, false, false, false, false, false, false, false, false] rfl rfl (one_of HT_.out (by kernel_rfl)) (by decide) (fun K hK => ?_)
                    refine goes_ Try.func41 (by kernel_rfl) rfl #[.agg #[.int .i64 ((rd_T60 l0 x16_1).f1.f0), .int .i64 ((rd_T60 l0 x16_1).f1.f1), .int .i64 ((rd_T60 l0 x16_1).f1.f2), .int .i64 ((rd_T60 l0 x16_1).f1.f3), .int .i64 ((rd_T60 l0 x16_1).f1.f4), .int .i64 ((rd_T60 l0 x16_1).f1.f5), .int .i64 ((rd_T60 l0 x16_1).f1.f6)]] (by rfl) rfl rfl (by (try simp only [List.map_toArray, List.map_cons, List.map_nil]); first | done | rfl | (simp only [List.length_drop, List.length_take]; rfl)) ?_
                    with_reducible refine (impl_GoodLoop.calls ((rd_T60 l0 x16_1).f1.f0) ((rd_T60 l0 x16_1).f1.f1) ((rd_T60 l0 x16_1).f1.f2) ((rd_T60 l0 x16_1).f1.f3) ((rd_T60 l0 x16_1).f1.f4) ((rd_T60 l0 x16_1).f1.f5) ((rd_T60 l0 x16_1).f1.f6) true _ A16.out).mono ?_
                    rintro e w27 ⟨rfl, hb⟩
                    refine ⟨_, rfl, ?_⟩
                    have n0_ := Aside0.mk (blk_below (g := gb142) (o := .cells #[.int .i64 x143000_1, .int .i64 x143001_1, .int .i64 x143002_1, .int .i64 x143003_1, .int .i64 x143004_1, .int .i64 x143005_1, .int .i64 x143006_1] 25 (0, 0)) (by (with_reducible repeat (first | refine blk_drewN ?_ _ | refine blk_drew ?_ | refine blk_alloc ?_ _)); exact BK142.out) hb)
                    have n1_ := Aside0.mk (blk_below (g := gb143) (o := .cells #[.int .i64 x144000_1, .int .i64 x144001_1, .int .i64 x144002_1, .int .i64 x144003_1, .int .i64 x144004_1, .int .i64 x144005_1, .int .i64 x144006_1] 25 (0, 0)) (by (with_reducible repeat (first | refine blk_drewN ?_ _ | refine blk_drew ?_ | refine blk_alloc ?_ _)); exact BK143.out) hb)
                    have n2_ := Aside0.mk (blk_below (g := gb145) (o := .cells #[.int .i64 ((rd_T60 l0 x16_1).f0), .int .i64 ((rd_T60 l0 x16_1).f1.f0), .int .i64 ((rd_T60 l0 x16_1).f1.f1), .int .i64 ((rd_T60 l0 x16_1).f1.f2), .int .i64 ((rd_T60 l0 x16_1).f1.f3), .int .i64 ((rd_T60 l0 x16_1).f1.f4), .int .i64 ((rd_T60 l0 x16_1).f1.f5), .int .i64 ((rd_T60 l0 x16_1).f1.f6)] 60 (0, 0)) (by (with_reducible repeat (first | refine blk_drewN ?_ _ | refine blk_drew ?_ | refine blk_alloc ?_ _)); exact BK145.out) hb)
                    have n3_ := Aside0.mk (below_step (by repeat (first | (with_reducible first | exact HB.out | apply below_alloc | apply pw_below_drewN | apply below_drew1 | refine below_set ?_ GE142.out | refine below_set ?_ GE143.out | refine below_set ?_ GE145.out) | exact HB.out)) hb)
                    clear BK142
                    clear BK143
                    clear BK145
                    clear HB
                    have BK142 := n0_
                    have BK143 := n1_
                    have BK145 := n2_
                    have HB := n3_
                    clear n0_ n1_ n2_ n3_
                    (try clear hb)
                    (try clear hb2)
                    (try clear hk)
                    (try clear hi)
                    refine hK.out _ _ ⟨(blk_cell BK145.out 0).trans rfl, (blk_cell BK145.out 1).trans rfl, (blk_cell BK145.out 2).trans rfl, (blk_cell BK145.out 3).trans rfl, (blk_cell BK145.out 4).trans rfl, (blk_cell BK145.out 5).trans rfl, (blk_cell BK145.out 6).trans rfl, (blk_cell BK145.out 7).trans rfl⟩ (fun hHeld => ?_)
                    clear hK K
                    refine norm_ (a' := ?_) ?_ ?_
                    rotate_left
                    · show Act.put _ (some 23) _ = _
                      simp only [Act.put, List.setIfInBounds_toArray, List.set_cons_zero, List.set_cons_succ, i64_w, i32_w]
                      rfl
                    refine pure_ (i := 3) (N := some 24) (v := ?_) (a' := ?_) #[true, true, true, true, false, false, false, false, false, false, false, false, false, false, false, false, false, false, false] rfl rfl (any_of HT_.out (by kernel_rfl)) (fun _ _ _ h => h) (Or.inl ⟨by rfl, ?_⟩) ?_ ?_
                    rotate_left
                    · intro w'
                      go_simp
                      with_reducible rfl
                    rotate_left
                    · simp only [Act.put, List.setIfInBounds_toArray, List.set_cons_zero, List.set_cons_succ, i64_w, i32_w]
                      rfl
                    refine pure_ (i := 4) (N := some 25) (v := ?_) (a' := ?_) #[true, true, true, true, true, false, false, false, false, false, false, false, false, false, false, false, false, false, false] rfl rfl (any_of HT_.out (by kernel_rfl)) (fun _ _ _ h => h) (Or.inl ⟨by rfl, ?_⟩) ?_ ?_
                    rotate_left
                    · intro w'
                      go_simp
                      with_reducible rfl
                    rotate_left
                    · simp only [Act.put, List.setIfInBounds_toArray, List.set_cons_zero, List.set_cons_succ, i64_w, i32_w]
                      rfl
                    refine pure_ (i := 5) (N := some 26) (v := ?_) (a' := ?_) #[true, true, true, true, true, true, false, false, false, false, false, false, false, false, false, false, false, false, false] rfl rfl (any_of HT_.out (by kernel_rfl)) (fun _ _ _ h => h) (Or.inl ⟨by rfl, ?_⟩) ?_ ?_
                    rotate_left
                    · intro w'
                      go_simp
                      with_reducible rfl
                    rotate_left
                    · simp only [Act.put, List.setIfInBounds_toArray, List.set_cons_zero, List.set_cons_succ, i64_w, i32_w]
                      rfl
                    refine pure_ (i := 6) (N := some 27) (v := ?_) (a' := ?_) #[true, true, true, true, true, true, true, false, false, false, false, false, false, false, false, false, false, false, false] rfl rfl (any_of HT_.out (by kernel_rfl)) (fun _ _ _ h => h) (Or.inl ⟨by rfl, ?_⟩) ?_ ?_
                    rotate_left
                    · intro w'
                      go_simp
                      with_reducible rfl
                    rotate_left
                    · simp only [Act.put, List.setIfInBounds_toArray, List.set_cons_zero, List.set_cons_succ, i64_w, i32_w]
                      rfl
                    refine pure_ (i := 7) (N := some 28) (v := ?_) (a' := ?_) #[true, true, true, true, true, true, true, true, false, false, false, false, false, false, false, false, false, false, false] rfl rfl (any_of HT_.out (by kernel_rfl)) (fun _ _ _ h => h) (Or.inl ⟨by rfl, ?_⟩) ?_ ?_
                    rotate_left
                    · intro w'
                      go_simp
                      with_reducible rfl
                    rotate_left
                    · simp only [Act.put, List.setIfInBounds_toArray, List.set_cons_zero, List.set_cons_succ, i64_w, i32_w]
                      rfl
                    refine pure_ (i := 8) (N := some 29) (v := undef) (a' := ?_) #[true, true, true, true, true, true, true, true, true, false, false, false, false, false, false, false, false, false, false] rfl rfl (any_of HT_.out (by kernel_rfl)) (fun _ _ _ h => h) (Or.inr ⟨by rfl, rfl⟩) ?_ ?_
                    rotate_left
                    · simp only [Act.put, List.setIfInBounds_toArray, List.set_cons_zero, List.set_cons_succ, i64_w, i32_w]
                      rfl
                    refine pure_ (i := 9) (N := some 30) (v := undef) (a' := ?_) #[true, true, true, true, true, true, true, true, true, true, false, false, false, false, false, false, false, false, false] rfl rfl (any_of HT_.out (by kernel_rfl)) (fun _ _ _ h => h) (Or.inr ⟨by rfl, rfl⟩) ?_ ?_
                    rotate_left
                    · simp only [Act.put, List.setIfInBounds_toArray, List.set_cons_zero, List.set_cons_succ, i64_w, i32_w]
                      rfl
                    refine pure_ (i := 10) (N := some 31) (v := undef) (a' := ?_) #[true, true, true, true, true, true, true, true, true, true, true, false, false, false, false, false, false, false, false] rfl rfl (any_of HT_.out (by kernel_rfl)) (fun _ _ _ h => h) (Or.inr ⟨by rfl, rfl⟩) ?_ ?_
                    rotate_left
                    · simp only [Act.put, List.setIfInBounds_toArray, List.set_cons_zero, List.set_cons_succ, i64_w, i32_w]
                      rfl
                    refine pure_ (i := 11) (N := some 32) (v := undef) (a' := ?_) #[true, true, true, true, true, true, true, true, true, true, true, true, false, false, false, false, false, false, false] rfl rfl (any_of HT_.out (by kernel_rfl)) (fun _ _ _ h => h) (Or.inr ⟨by rfl, rfl⟩) ?_ ?_
                    rotate_left
                    · simp only [Act.put, List.setIfInBounds_toArray, List.set_cons_zero, List.set_cons_succ, i64_w, i32_w]
                      rfl
                    refine pure_ (i := 12) (N := some 33) (v := undef) (a' := ?_) #[true, true, true, true, true, true, true, true, true, true, true, true, true, false, false, false, false, false, false] rfl rfl (any_of HT_.out (by kernel_rfl)) (fun _ _ _ h => h) (Or.inr ⟨by rfl, rfl⟩) ?_ ?_
                    rotate_left
                    · simp only [Act.put, List.setIfInBounds_toArray, List.set_cons_zero, List.set_cons_succ, i64_w, i32_w]
                      rfl
                    refine pure_ (i := 13) (N := some 34) (v := undef) (a' := ?_) #[true, true, true, true, true, true, true, true, true, true, true, true, true, true, false, false, false, false, false] rfl rfl (any_of HT_.out (by kernel_rfl)) (fun _ _ _ h => h) (Or.inr ⟨by rfl, rfl⟩) ?_ ?_
                    rotate_left
                    · simp only [Act.put, List.setIfInBounds_toArray, List.set_cons_zero, List.set_cons_succ, i64_w, i32_w]
                      rfl
                    refine pure_ (i := 14) (N := some 35) (v := undef) (a' := ?_) #[true, true, true, true, true, true, true, true, true, true, true, true, true, true, true, false, false, false, false] rfl rfl (any_of HT_.out (by kernel_rfl)) (fun _ _ _ h => h) (Or.inr ⟨by rfl, rfl⟩) ?_ ?_
                    rotate_left
                    · simp only [Act.put, List.setIfInBounds_toArray, List.set_cons_zero, List.set_cons_succ, i64_w, i32_w]
                      rfl
                    refine pure_ (i := 15) (N := some 36) (v := undef) (a' := ?_) #[true, true, true, true, true, true, true, true, true, true, true, true, true, true, true, true, false, false, false] rfl rfl (any_of HT_.out (by kernel_rfl)) (fun _ _ _ h => h) (Or.inr ⟨by rfl, rfl⟩) ?_ ?_
                    rotate_left
                    · simp only [Act.put, List.setIfInBounds_toArray, List.set_cons_zero, List.set_cons_succ, i64_w, i32_w]
                      rfl
                    refine pure_ (i := 16) (N := some 37) (v := undef) (a' := ?_) #[true, true, true, true, true, true, true, true, true, true, true, true, true, true, true, true, true, false, false] rfl rfl (any_of HT_.out (by kernel_rfl)) (fun _ _ _ h => h) (Or.inr ⟨by rfl, rfl⟩) ?_ ?_
                    rotate_left
                    · simp only [Act.put, List.setIfInBounds_toArray, List.set_cons_zero, List.set_cons_succ, i64_w, i32_w]
                      rfl
                    refine pure_ (i := 17) (N := some 38) (v := ?_) (a' := ?_) #[true, true, true, true, true, true, true, true, true, true, true, true, true, true, true, true, true, true, false] rfl rfl (any_of HT_.out (by kernel_rfl)) (fun _ _ _ h => h) (Or.inl ⟨by rfl, ?_⟩) ?_ ?_
                    rotate_left
                    · intro w'
                      go_simp
                      with_reducible rfl
                    rotate_left
                    · simp only [Act.put, List.setIfInBounds_toArray, List.set_cons_zero, List.set_cons_succ, i64_w, i32_w]
                      rfl
                    refine pure_ (i := 18) (N := some 39) (v := ?_) (a' := ?_) #[true, true, true, true, true, true, true, true, true, true, true, true, true, true, true, true, true, true, true] rfl rfl (any_of HT_.out (by kernel_rfl)) (fun _ _ _ h => h) (Or.inl ⟨by rfl, ?_⟩) ?_ ?_
                    rotate_left
                    · intro w'
                      go_simp
                      with_reducible rfl
                    rotate_left
                    · simp only [Act.put, List.setIfInBounds_toArray, List.set_cons_zero, List.set_cons_succ, i64_w, i32_w]
                      rfl
                    refine done_ (done_of HT_.out (by kernel_rfl)) ?_
                    try go_wp2
                    go_meet
                    case rel => exact ⟨_, (false), (by first | rfl | (simp; done) | (simp [*]; done)), H', ⟨by have := HK1.out; first | omega | exact Nat.le_refl _⟩, ⟨by (with_reducible repeat (first | refine blk_drewN ?_ _ | refine blk_drew ?_ | refine blk_alloc ?_ _)); exact BK142.out⟩, ⟨by (with_reducible repeat (first | refine blk_drewN ?_ _ | refine blk_drew ?_ | refine blk_alloc ?_ _)); exact BK143.out⟩, ⟨by (with_reducible repeat (first | refine blk_drewN ?_ _ | refine blk_drew ?_ | refine blk_alloc ?_ _)); exact BK145.out⟩, ⟨by repeat (first | (with_reducible first | exact HB.out | apply below_alloc | apply pw_below_drewN | apply below_drew1 | refine below_set ?_ GE142.out | refine below_set ?_ GE143.out | refine below_set ?_ GE145.out) | exact HB.out)⟩⟩
                · replace c17 := Bool.eq_false_iff.mpr c17
                  subst c17
                  have H1 : (impl_LoopAt.j1 k1 l0 a1 x7_1 l0 (l0.length : Int) x16_1 true x144000_1 x144001_1 x144002_1 x144003_1 x144004_1 x144005_1 x144006_1 ((rd_T60 l0 x16_1).f0) ((rd_T60 l0 x16_1).f1.f0) ((rd_T60 l0 x16_1).f1.f1) ((rd_T60 l0 x16_1).f1.f2) ((rd_T60 l0 x16_1).f1.f3) ((rd_T60 l0 x16_1).f1.f4) ((rd_T60 l0 x16_1).f1.f5) ((rd_T60 l0 x16_1).f1.f6)) = some (r1, r2, r3, r4, r5, r6, r7, r8) := by rw [if_neg (show ¬ (false = true) by decide)] at H; exact H
                  clear H
                  have H := H1
                  clear H1
                  have H' := Aside0.mk H
                  clear H
                  try go_wp2
                  have n0_ : Aside0 (((((((((w12.setCell ⟨gb145, 0, none⟩ (.int .i64 ((rd_T60 l0 x16_1).f0))).setCell ⟨gb145, 1, none⟩ (.int .i64 ((rd_T60 l0 x16_1).f1.f0))).setCell ⟨gb145, 2, none⟩ (.int .i64 ((rd_T60 l0 x16_1).f1.f1))).setCell ⟨gb145, 3, none⟩ (.int .i64 ((rd_T60 l0 x16_1).f1.f2))).setCell ⟨gb145, 4, none⟩ (.int .i64 ((rd_T60 l0 x16_1).f1.f3))).setCell ⟨gb145, 5, none⟩ (.int .i64 ((rd_T60 l0 x16_1).f1.f4))).setCell ⟨gb145, 6, none⟩ (.int .i64 ((rd_T60 l0 x16_1).f1.f5))).setCell ⟨gb145, 7, none⟩ (.int .i64 ((rd_T60 l0 x16_1).f1.f6))).heap[gb142]? = some (.cells #[.int .i64 x143000_1, .int .i64 x143001_1, .int .i64 x143002_1, .int .i64 x143003_1, .int .i64 x143004_1, .int .i64 x143005_1, .int .i64 x143006_1] 25 (0, 0))) := ⟨by (with_reducible repeat (first | refine blk_drewN ?_ _ | refine blk_drew ?_ | refine blk_alloc ?_ _)); refine blk_far ?_ NB142_145.out _; (with_reducible repeat (first | refine blk_drewN ?_ _ | refine blk_drew ?_ | refine blk_alloc ?_ _)); refine blk_far ?_ NB142_145.out _; (with_reducible repeat (first | refine blk_drewN ?_ _ | refine blk_drew ?_ | refine blk_alloc ?_ _)); refine blk_far ?_ NB142_145.out _; (with_reducible repeat (first | refine blk_drewN ?_ _ | refine blk_drew ?_ | refine blk_alloc ?_ _)); refine blk_far ?_ NB142_145.out _; (with_reducible repeat (first | refine blk_drewN ?_ _ | refine blk_drew ?_ | refine blk_alloc ?_ _)); refine blk_far ?_ NB142_145.out _; (with_reducible repeat (first | refine blk_drewN ?_ _ | refine blk_drew ?_ | refine blk_alloc ?_ _)); refine blk_far ?_ NB142_145.out _; (with_reducible repeat (first | refine blk_drewN ?_ _ | refine blk_drew ?_ | refine blk_alloc ?_ _)); refine blk_far ?_ NB142_145.out _; (with_reducible repeat (first | refine blk_drewN ?_ _ | refine blk_drew ?_ | refine blk_alloc ?_ _)); refine blk_far ?_ NB142_145.out _; (with_reducible repeat (first | refine blk_drewN ?_ _ | refine blk_drew ?_ | refine blk_alloc ?_ _)); exact BK142.out⟩
                  have n1_ : Aside0 (((((((((w12.setCell ⟨gb145, 0, none⟩ (.int .i64 ((rd_T60 l0 x16_1).f0))).setCell ⟨gb145, 1, none⟩ (.int .i64 ((rd_T60 l0 x16_1).f1.f0))).setCell ⟨gb145, 2, none⟩ (.int .i64 ((rd_T60 l0 x16_1).f1.f1))).setCell ⟨gb145, 3, none⟩ (.int .i64 ((rd_T60 l0 x16_1).f1.f2))).setCell ⟨gb145, 4, none⟩ (.int .i64 ((rd_T60 l0 x16_1).f1.f3))).setCell ⟨gb145, 5, none⟩ (.int .i64 ((rd_T60 l0 x16_1).f1.f4))).setCell ⟨gb145, 6, none⟩ (.int .i64 ((rd_T60 l0 x16_1).f1.f5))).setCell ⟨gb145, 7, none⟩ (.int .i64 ((rd_T60 l0 x16_1).f1.f6))).heap[gb143]? = some (.cells #[.int .i64 x144000_1, .int .i64 x144001_1, .int .i64 x144002_1, .int .i64 x144003_1, .int .i64 x144004_1, .int .i64 x144005_1, .int .i64 x144006_1] 25 (0, 0))) := ⟨by (with_reducible repeat (first | refine blk_drewN ?_ _ | refine blk_drew ?_ | refine blk_alloc ?_ _)); refine blk_far ?_ NB143_145.out _; (with_reducible repeat (first | refine blk_drewN ?_ _ | refine blk_drew ?_ | refine blk_alloc ?_ _)); refine blk_far ?_ NB143_145.out _; (with_reducible repeat (first | refine blk_drewN ?_ _ | refine blk_drew ?_ | refine blk_alloc ?_ _)); refine blk_far ?_ NB143_145.out _; (with_reducible repeat (first | refine blk_drewN ?_ _ | refine blk_drew ?_ | refine blk_alloc ?_ _)); refine blk_far ?_ NB143_145.out _; (with_reducible repeat (first | refine blk_drewN ?_ _ | refine blk_drew ?_ | refine blk_alloc ?_ _)); refine blk_far ?_ NB143_145.out _; (with_reducible repeat (first | refine blk_drewN ?_ _ | refine blk_drew ?_ | refine blk_alloc ?_ _)); refine blk_far ?_ NB143_145.out _; (with_reducible repeat (first | refine blk_drewN ?_ _ | refine blk_drew ?_ | refine blk_alloc ?_ _)); refine blk_far ?_ NB143_145.out _; (with_reducible repeat (first | refine blk_drewN ?_ _ | refine blk_drew ?_ | refine blk_alloc ?_ _)); refine blk_far ?_ NB143_145.out _; (with_reducible repeat (first | refine blk_drewN ?_ _ | refine blk_drew ?_ | refine blk_alloc ?_ _)); exact BK143.out⟩
                  have n2_ : Aside0 (((((((((w12.setCell ⟨gb145, 0, none⟩ (.int .i64 ((rd_T60 l0 x16_1).f0))).setCell ⟨gb145, 1, none⟩ (.int .i64 ((rd_T60 l0 x16_1).f1.f0))).setCell ⟨gb145, 2, none⟩ (.int .i64 ((rd_T60 l0 x16_1).f1.f1))).setCell ⟨gb145, 3, none⟩ (.int .i64 ((rd_T60 l0 x16_1).f1.f2))).setCell ⟨gb145, 4, none⟩ (.int .i64 ((rd_T60 l0 x16_1).f1.f3))).setCell ⟨gb145, 5, none⟩ (.int .i64 ((rd_T60 l0 x16_1).f1.f4))).setCell ⟨gb145, 6, none⟩ (.int .i64 ((rd_T60 l0 x16_1).f1.f5))).setCell ⟨gb145, 7, none⟩ (.int .i64 ((rd_T60 l0 x16_1).f1.f6))).heap[gb145]? = some (.cells #[.int .i64 ((rd_T60 l0 x16_1).f0), .int .i64 ((rd_T60 l0 x16_1).f1.f0), .int .i64 ((rd_T60 l0 x16_1).f1.f1), .int .i64 ((rd_T60 l0 x16_1).f1.f2), .int .i64 ((rd_T60 l0 x16_1).f1.f3), .int .i64 ((rd_T60 l0 x16_1).f1.f4), .int .i64 ((rd_T60 l0 x16_1).f1.f5), .int .i64 ((rd_T60 l0 x16_1).f1.f6)] 60 (0, 0))) := ⟨by (with_reducible repeat (first | refine blk_drewN ?_ _ | refine blk_drew ?_ | refine blk_alloc ?_ _)); refine blk_put (cs := #[.int .i64 ((rd_T60 l0 x16_1).f0), .int .i64 ((rd_T60 l0 x16_1).f1.f0), .int .i64 ((rd_T60 l0 x16_1).f1.f1), .int .i64 ((rd_T60 l0 x16_1).f1.f2), .int .i64 ((rd_T60 l0 x16_1).f1.f3), .int .i64 ((rd_T60 l0 x16_1).f1.f4), .int .i64 ((rd_T60 l0 x16_1).f1.f5), .int .i64 0]) ?_ 7 _ rfl; (with_reducible repeat (first | refine blk_drewN ?_ _ | refine blk_drew ?_ | refine blk_alloc ?_ _)); refine blk_put (cs := #[.int .i64 ((rd_T60 l0 x16_1).f0), .int .i64 ((rd_T60 l0 x16_1).f1.f0), .int .i64 ((rd_T60 l0 x16_1).f1.f1), .int .i64 ((rd_T60 l0 x16_1).f1.f2), .int .i64 ((rd_T60 l0 x16_1).f1.f3), .int .i64 ((rd_T60 l0 x16_1).f1.f4), .int .i64 0, .int .i64 0]) ?_ 6 _ rfl; (with_reducible repeat (first | refine blk_drewN ?_ _ | refine blk_drew ?_ | refine blk_alloc ?_ _)); refine blk_put (cs := #[.int .i64 ((rd_T60 l0 x16_1).f0), .int .i64 ((rd_T60 l0 x16_1).f1.f0), .int .i64 ((rd_T60 l0 x16_1).f1.f1), .int .i64 ((rd_T60 l0 x16_1).f1.f2), .int .i64 ((rd_T60 l0 x16_1).f1.f3), .int .i64 0, .int .i64 0, .int .i64 0]) ?_ 5 _ rfl; (with_reducible repeat (first | refine blk_drewN ?_ _ | refine blk_drew ?_ | refine blk_alloc ?_ _)); refine blk_put (cs := #[.int .i64 ((rd_T60 l0 x16_1).f0), .int .i64 ((rd_T60 l0 x16_1).f1.f0), .int .i64 ((rd_T60 l0 x16_1).f1.f1), .int .i64 ((rd_T60 l0 x16_1).f1.f2), .int .i64 0, .int .i64 0, .int .i64 0, .int .i64 0]) ?_ 4 _ rfl; (with_reducible repeat (first | refine blk_drewN ?_ _ | refine blk_drew ?_ | refine blk_alloc ?_ _)); refine blk_put (cs := #[.int .i64 ((rd_T60 l0 x16_1).f0), .int .i64 ((rd_T60 l0 x16_1).f1.f0), .int .i64 ((rd_T60 l0 x16_1).f1.f1), .int .i64 0, .int .i64 0, .int .i64 0, .int .i64 0, .int .i64 0]) ?_ 3 _ rfl; (with_reducible repeat (first | refine blk_drewN ?_ _ | refine blk_drew ?_ | refine blk_alloc ?_ _)); refine blk_put (cs := #[.int .i64 ((rd_T60 l0 x16_1).f0), .int .i64 ((rd_T60 l0 x16_1).f1.f0), .int .i64 0, .int .i64 0, .int .i64 0, .int .i64 0, .int .i64 0, .int .i64 0]) ?_ 2 _ rfl; (with_reducible repeat (first | refine blk_drewN ?_ _ | refine blk_drew ?_ | refine blk_alloc ?_ _)); refine blk_put (cs := #[.int .i64 ((rd_T60 l0 x16_1).f0), .int .i64 0, .int .i64 0, .int .i64 0, .int .i64 0, .int .i64 0, .int .i64 0, .int .i64 0]) ?_ 1 _ rfl; (with_reducible repeat (first | refine blk_drewN ?_ _ | refine blk_drew ?_ | refine blk_alloc ?_ _)); refine blk_put (cs := #[.int .i64 0, .int .i64 0, .int .i64 0, .int .i64 0, .int .i64 0, .int .i64 0, .int .i64 0, .int .i64 0]) ?_ 0 _ rfl; (with_reducible repeat (first | refine blk_drewN ?_ _ | refine blk_drew ?_ | refine blk_alloc ?_ _)); exact BK145.out⟩
                  have n3_ : Aside0 (Below w.heap.size w ((((((((w12.setCell ⟨gb145, 0, none⟩ (.int .i64 ((rd_T60 l0 x16_1).f0))).setCell ⟨gb145, 1, none⟩ (.int .i64 ((rd_T60 l0 x16_1).f1.f0))).setCell ⟨gb145, 2, none⟩ (.int .i64 ((rd_T60 l0 x16_1).f1.f1))).setCell ⟨gb145, 3, none⟩ (.int .i64 ((rd_T60 l0 x16_1).f1.f2))).setCell ⟨gb145, 4, none⟩ (.int .i64 ((rd_T60 l0 x16_1).f1.f3))).setCell ⟨gb145, 5, none⟩ (.int .i64 ((rd_T60 l0 x16_1).f1.f4))).setCell ⟨gb145, 6, none⟩ (.int .i64 ((rd_T60 l0 x16_1).f1.f5))).setCell ⟨gb145, 7, none⟩ (.int .i64 ((rd_T60 l0 x16_1).f1.f6)))) := ⟨by repeat (first | (with_reducible first | exact HB.out | apply below_alloc | apply pw_below_drewN | apply below_drew1 | refine below_set ?_ GE142.out | refine below_set ?_ GE143.out | refine below_set ?_ GE145.out) | exact HB.out)⟩
                  (try clear BK142)
                  (try clear BK143)
                  (try clear BK145)
                  (try clear HB)
                  generalize ((((((((w12.setCell ⟨gb145, 0, none⟩ (.int .i64 ((rd_T60 l0 x16_1).f0))).setCell ⟨gb145, 1, none⟩ (.int .i64 ((rd_T60 l0 x16_1).f1.f0))).setCell ⟨gb145, 2, none⟩ (.int .i64 ((rd_T60 l0 x16_1).f1.f1))).setCell ⟨gb145, 3, none⟩ (.int .i64 ((rd_T60 l0 x16_1).f1.f2))).setCell ⟨gb145, 4, none⟩ (.int .i64 ((rd_T60 l0 x16_1).f1.f3))).setCell ⟨gb145, 5, none⟩ (.int .i64 ((rd_T60 l0 x16_1).f1.f4))).setCell ⟨gb145, 6, none⟩ (.int .i64 ((rd_T60 l0 x16_1).f1.f5))).setCell ⟨gb145, 7, none⟩ (.int .i64 ((rd_T60 l0 x16_1).f1.f6))) = w28 at n0_ n1_ n2_ n3_ ⊢
                  have BK142 := n0_
                  have BK143 := n1_
                  have BK145 := n2_
                  have HB := n3_
                  clear n0_ n1_ n2_ n3_
                  have n0_ := Aside0.mk (blk_drew BK142.out)
                  have n1_ := Aside0.mk (blk_drew BK143.out)
                  have n2_ := Aside0.mk (blk_drew BK145.out)
                  have n3_ := Aside0.mk (below_drew1 HB.out)
                  clear BK142
                  clear BK143
                  clear BK145
                  clear HB
                  have BK142 := n0_
                  have BK143 := n1_
                  have BK145 := n2_
                  have HB := n3_
                  clear n0_ n1_ n2_ n3_
                  refine start_ (n := 19) (S := fun w' => w'.cell? ⟨gb145, 0, none⟩ = some (.int .i64 ((rd_T60 l0 x16_1).f0)) ∧ w'.cell? ⟨gb145, 1, none⟩ = some (.int .i64 ((rd_T60 l0 x16_1).f1.f0)) ∧ w'.cell? ⟨gb145, 2, none⟩ = some (.int .i64 ((rd_T60 l0 x16_1).f1.f1)) ∧ w'.cell? ⟨gb145, 3, none⟩ = some (.int .i64 ((rd_T60 l0 x16_1).f1.f2)) ∧ w'.cell? ⟨gb145, 4, none⟩ = some (.int .i64 ((rd_T60 l0 x16_1).f1.f3)) ∧ w'.cell? ⟨gb145, 5, none⟩ = some (.int .i64 ((rd_T60 l0 x16_1).f1.f4)) ∧ w'.cell? ⟨gb145, 6, none⟩ = some (.int .i64 ((rd_T60 l0 x16_1).f1.f5)) ∧ w'.cell? ⟨gb145, 7, none⟩ = some (.int .i64 ((rd_T60 l0 x16_1).f1.f6))) (ds := []) #[false, false, false, false, false, false, false, false, false, false, false, false, false, false, false, false, false, false, false] (by kernel_rfl) rfl rfl ⟨(blk_cell BK145.out 0).trans rfl, (blk_cell BK145.out 1).trans rfl, (blk_cell BK145.out 2).trans rfl, (blk_cell BK145.out 3).trans rfl, (blk_cell BK145.out 4).trans rfl, (blk_cell BK145.out 5).trans rfl, (blk_cell BK145.out 6).trans rfl, (blk_cell BK145.out 7).trans rfl⟩ (fun hHeld => ?_); refine with_tabW impl_LoopAt.tab8 impl_LoopAt.bits8 (fun HT_ HW_ => ?_)
                  generalize w28.drew = w29 at BK142 BK143 BK145 HB hHeld ⊢
                  refine pure_ (i := 0) (N := some 21) (v := ?_) (a' := ?_) #[true, false, false, false, false, false, false, false, false, false, false, false, false, false, false, false, false, false, false] rfl rfl (any_of HT_.out (by kernel_rfl)) (fun _ _ _ h => h) (Or.inl ⟨by rfl, ?_⟩) ?_ ?_
                  rotate_left
                  · intro w'
                    go_simp
                    with_reducible rfl
                  rotate_left
                  · simp only [Act.put, List.setIfInBounds_toArray, List.set_cons_zero, List.set_cons_succ, i64_w, i32_w]
                    rfl
                  refine take_ (i := 1) (N := some 22) (v := ?_) (a' := ?_) #[true, true, false, false, false, false, false, false, false, false, false, false, false, false, false, false, false, false, false] rfl rfl (take_ofW HT_.out HW_.out (by kernel_rfl)) (fun _ _ _ h => h) (Or.inl ⟨by rfl, ?_⟩) hHeld ?_ ?_
                  rotate_left
                  · rintro w' ⟨s0, s1, s2, s3, s4, s5, s6, s7⟩
                    go_simp
                    with_reducible rfl
                  rotate_left
                  · simp only [Act.put, List.setIfInBounds_toArray, List.set_cons_zero, List.set_cons_succ, i64_w, i32_w]
                    rfl
                  refine one_ (i := 2) (N := some 23) #[true, true, true, false, false, false, false, false, false, false, false, false, false, false, false, false, false, false, false] rfl rfl (one_of HT_.out (by kernel_rfl)) (by decide) (fun K hK => ?_)
                  refine goes_ Try.func41 (by kernel_rfl) rfl #[.agg #[.int .i64 ((rd_T60 l0 x16_1).f1.f0), .int .i64 ((rd_T60 l0 x16_1).f1.f1), .int .i64 ((rd_T60 l0 x16_1).f1.f2), .int .i64 ((rd_T60 l0 x16_1).f1.f3), .int .i64 ((rd_T60 l0 x16_1).f1.f4), .int .i64 ((rd_T60 l0 x16_1).f1.f5), .int .i64 ((rd_T60 l0 x16_1).f1.f6)]] (by rfl) rfl rfl (by (try simp only [List.map_toArray, List.map_cons, List.map_nil]); first | done | rfl | (simp only [List.length_drop, List.length_take]; rfl)) ?_
                  with_reducible refine (impl_GoodLoop.calls ((rd_T60 l0 x16_1).f1.f0) ((rd_T60 l0 x16_1).f1.f1) ((rd_T60 l0 x16_1).f1.f2) ((rd_T60 l0 x16_1).f1.f3) ((rd_T60 l0 x16_1).f1.f4) ((rd_T60 l0 x16_1).f1.f5) ((rd_T60 l0 x16_1).f1.f6) false _ A16.out).mono ?_
                  rintro e w30 ⟨rfl, hb⟩
                  refine ⟨_, rfl, ?_⟩
                  have n0_ := Aside0.mk (blk_below (g := gb142) (o := .cells #[.int .i64 x143000_1, .int .i64 x143001_1, .int .i64 x143002_1, .int .i64 x143003_1, .int .i64 x143004_1, .int .i64 x143005_1, .int .i64 x143006_1] 25 (0, 0)) (by (with_reducible repeat (first | refine blk_drewN ?_ _ | refine blk_drew ?_ | refine blk_alloc ?_ _)); exact BK142.out) hb)
                  have n1_ := Aside0.mk (blk_below (g := gb143) (o := .cells #[.int .i64 x144000_1, .int .i64 x144001_1, .int .i64 x144002_1, .int .i64 x144003_1, .int .i64 x144004_1, .int .i64 x144005_1, .int .i64 x144006_1] 25 (0, 0)) (by (with_reducible repeat (first | refine blk_drewN ?_ _ | refine blk_drew ?_ | refine blk_alloc ?_ _)); exact BK143.out) hb)
                  have n2_ := Aside0.mk (blk_below (g := gb145) (o := .cells #[.int .i64 ((rd_T60 l0 x16_1).f0), .int .i64 ((rd_T60 l0 x16_1).f1.f0), .int .i64 ((rd_T60 l0 x16_1).f1.f1), .int .i64 ((rd_T60 l0 x16_1).f1.f2), .int .i64 ((rd_T60 l0 x16_1).f1.f3), .int .i64 ((rd_T60 l0 x16_1).f1.f4), .int .i64 ((rd_T60 l0 x16_1).f1.f5), .int .i64 ((rd_T60 l0 x16_1).f1.f6)] 60 (0, 0)) (by (with_reducible repeat (first | refine blk_drewN ?_ _ | refine blk_drew ?_ | refine blk_alloc ?_ _)); exact BK145.out) hb)
                  have n3_ := Aside0.mk (below_step (by repeat (first | (with_reducible first | exact HB.out | apply below_alloc | apply pw_below_drewN | apply below_drew1 | refine below_set ?_ GE142.out | refine below_set ?_ GE143.out | refine below_set ?_ GE145.out) | exact HB.out)) hb)
                  clear BK142
                  clear BK143
                  clear BK145
                  clear HB
                  have BK142 := n0_
                  have BK143 := n1_
                  have BK145 := n2_
                  have HB := n3_
                  clear n0_ n1_ n2_ n3_
                  (try clear hb)
                  (try clear hb2)
                  (try clear hk)
                  (try clear hi)
                  refine hK.out _ _ ⟨(blk_cell BK145.out 0).trans rfl, (blk_cell BK145.out 1).trans rfl, (blk_cell BK145.out 2).trans rfl, (blk_cell BK145.out 3).trans rfl, (blk_cell BK145.out 4).trans rfl, (blk_cell BK145.out 5).trans rfl, (blk_cell BK145.out 6).trans rfl, (blk_cell BK145.out 7).trans rfl⟩ (fun hHeld => ?_)
                  clear hK K
                  refine norm_ (a' := ?_) ?_ ?_
                  rotate_left
                  · show Act.put _ (some 23) _ = _
                    simp only [Act.put, List.setIfInBounds_toArray, List.set_cons_zero, List.set_cons_succ, i64_w, i32_w]
                    rfl
                  refine pure_ (i := 3) (N := some 24) (v := ?_) (a' := ?_) #[true, true, true, true, false, false, false, false, false, false, false, false, false, false, false, false, false, false, false] rfl rfl (any_of HT_.out (by kernel_rfl)) (fun _ _ _ h => h) (Or.inl ⟨by rfl, ?_⟩) ?_ ?_
                  rotate_left
                  · intro w'
                    go_simp
                    with_reducible rfl
                  rotate_left
                  · simp only [Act.put, List.setIfInBounds_toArray, List.set_cons_zero, List.set_cons_succ, i64_w, i32_w]
                    rfl
                  refine pure_ (i := 4) (N := some 25) (v := ?_) (a' := ?_) #[true, true, true, true, true, false, false, false, false, false, false, false, false, false, false, false, false, false, false] rfl rfl (any_of HT_.out (by kernel_rfl)) (fun _ _ _ h => h) (Or.inl ⟨by rfl, ?_⟩) ?_ ?_
                  rotate_left
                  · intro w'
                    go_simp
                    with_reducible rfl
                  rotate_left
                  · simp only [Act.put, List.setIfInBounds_toArray, List.set_cons_zero, List.set_cons_succ, i64_w, i32_w]
                    rfl
                  refine pure_ (i := 5) (N := some 26) (v := undef) (a' := ?_) #[true, true, true, true, true, true, false, false, false, false, false, false, false, false, false, false, false, false, false] rfl rfl (any_of HT_.out (by kernel_rfl)) (fun _ _ _ h => h) (Or.inr ⟨by rfl, rfl⟩) ?_ ?_
                  rotate_left
                  · simp only [Act.put, List.setIfInBounds_toArray, List.set_cons_zero, List.set_cons_succ, i64_w, i32_w]
                    rfl
                  refine pure_ (i := 6) (N := some 27) (v := undef) (a' := ?_) #[true, true, true, true, true, true, true, false, false, false, false, false, false, false, false, false, false, false, false] rfl rfl (any_of HT_.out (by kernel_rfl)) (fun _ _ _ h => h) (Or.inr ⟨by rfl, rfl⟩) ?_ ?_
                  rotate_left
                  · simp only [Act.put, List.setIfInBounds_toArray, List.set_cons_zero, List.set_cons_succ, i64_w, i32_w]
                    rfl
                  refine pure_ (i := 7) (N := some 28) (v := undef) (a' := ?_) #[true, true, true, true, true, true, true, true, false, false, false, false, false, false, false, false, false, false, false] rfl rfl (any_of HT_.out (by kernel_rfl)) (fun _ _ _ h => h) (Or.inr ⟨by rfl, rfl⟩) ?_ ?_
                  rotate_left
                  · simp only [Act.put, List.setIfInBounds_toArray, List.set_cons_zero, List.set_cons_succ, i64_w, i32_w]
                    rfl
                  refine pure_ (i := 8) (N := some 29) (v := undef) (a' := ?_) #[true, true, true, true, true, true, true, true, true, false, false, false, false, false, false, false, false, false, false] rfl rfl (any_of HT_.out (by kernel_rfl)) (fun _ _ _ h => h) (Or.inr ⟨by rfl, rfl⟩) ?_ ?_
                  rotate_left
                  · simp only [Act.put, List.setIfInBounds_toArray, List.set_cons_zero, List.set_cons_succ, i64_w, i32_w]
                    rfl
                  refine pure_ (i := 9) (N := some 30) (v := undef) (a' := ?_) #[true, true, true, true, true, true, true, true, true, true, false, false, false, false, false, false, false, false, false] rfl rfl (any_of HT_.out (by kernel_rfl)) (fun _ _ _ h => h) (Or.inr ⟨by rfl, rfl⟩) ?_ ?_
                  rotate_left
                  · simp only [Act.put, List.setIfInBounds_toArray, List.set_cons_zero, List.set_cons_succ, i64_w, i32_w]
                    rfl
                  refine pure_ (i := 10) (N := some 31) (v := undef) (a' := ?_) #[true, true, true, true, true, true, true, true, true, true, true, false, false, false, false, false, false, false, false] rfl rfl (any_of HT_.out (by kernel_rfl)) (fun _ _ _ h => h) (Or.inr ⟨by rfl, rfl⟩) ?_ ?_
                  rotate_left
                  · simp only [Act.put, List.setIfInBounds_toArray, List.set_cons_zero, List.set_cons_succ, i64_w, i32_w]
                    rfl
                  refine pure_ (i := 11) (N := some 32) (v := undef) (a' := ?_) #[true, true, true, true, true, true, true, true, true, true, true, true, false, false, false, false, false, false, false] rfl rfl (any_of HT_.out (by kernel_rfl)) (fun _ _ _ h => h) (Or.inr ⟨by rfl, rfl⟩) ?_ ?_
                  rotate_left
                  · simp only [Act.put, List.setIfInBounds_toArray, List.set_cons_zero, List.set_cons_succ, i64_w, i32_w]
                    rfl
                  refine pure_ (i := 12) (N := some 33) (v := undef) (a' := ?_) #[true, true, true, true, true, true, true, true, true, true, true, true, true, false, false, false, false, false, false] rfl rfl (any_of HT_.out (by kernel_rfl)) (fun _ _ _ h => h) (Or.inr ⟨by rfl, rfl⟩) ?_ ?_
                  rotate_left
                  · simp only [Act.put, List.setIfInBounds_toArray, List.set_cons_zero, List.set_cons_succ, i64_w, i32_w]
                    rfl
                  refine pure_ (i := 13) (N := some 34) (v := undef) (a' := ?_) #[true, true, true, true, true, true, true, true, true, true, true, true, true, true, false, false, false, false, false] rfl rfl (any_of HT_.out (by kernel_rfl)) (fun _ _ _ h => h) (Or.inr ⟨by rfl, rfl⟩) ?_ ?_
                  rotate_left
                  · simp only [Act.put, List.setIfInBounds_toArray, List.set_cons_zero, List.set_cons_succ, i64_w, i32_w]
                    rfl
                  refine pure_ (i := 14) (N := some 35) (v := undef) (a' := ?_) #[true, true, true, true, true, true, true, true, true, true, true, true, true, true, true, false, false, false, false] rfl rfl (any_of HT_.out (by kernel_rfl)) (fun _ _ _ h => h) (Or.inr ⟨by rfl, rfl⟩) ?_ ?_
                  rotate_left
                  · simp only [Act.put, List.setIfInBounds_toArray, List.set_cons_zero, List.set_cons_succ, i64_w, i32_w]
                    rfl
                  refine pure_ (i := 15) (N := some 36) (v := undef) (a' := ?_) #[true, true, true, true, true, true, true, true, true, true, true, true, true, true, true, true, false, false, false] rfl rfl (any_of HT_.out (by kernel_rfl)) (fun _ _ _ h => h) (Or.inr ⟨by rfl, rfl⟩) ?_ ?_
                  rotate_left
                  · simp only [Act.put, List.setIfInBounds_toArray, List.set_cons_zero, List.set_cons_succ, i64_w, i32_w]
                    rfl
                  refine pure_ (i := 16) (N := some 37) (v := undef) (a' := ?_) #[true, true, true, true, true, true, true, true, true, true, true, true, true, true, true, true, true, false, false] rfl rfl (any_of HT_.out (by kernel_rfl)) (fun _ _ _ h => h) (Or.inr ⟨by rfl, rfl⟩) ?_ ?_
                  rotate_left
                  · simp only [Act.put, List.setIfInBounds_toArray, List.set_cons_zero, List.set_cons_succ, i64_w, i32_w]
                    rfl
                  refine pure_ (i := 17) (N := some 38) (v := undef) (a' := ?_) #[true, true, true, true, true, true, true, true, true, true, true, true, true, true, true, true, true, true, false] rfl rfl (any_of HT_.out (by kernel_rfl)) (fun _ _ _ h => h) (Or.inr ⟨by rfl, rfl⟩) ?_ ?_
                  rotate_left
                  · simp only [Act.put, List.setIfInBounds_toArray, List.set_cons_zero, List.set_cons_succ, i64_w, i32_w]
                    rfl
                  refine pure_ (i := 18) (N := some 39) (v := ?_) (a' := ?_) #[true, true, true, true, true, true, true, true, true, true, true, true, true, true, true, true, true, true, true] rfl rfl (any_of HT_.out (by kernel_rfl)) (fun _ _ _ h => h) (Or.inl ⟨by rfl, ?_⟩) ?_ ?_
                  rotate_left
                  · intro w'
                    go_simp
                    with_reducible rfl
                  rotate_left
                  · simp only [Act.put, List.setIfInBounds_toArray, List.set_cons_zero, List.set_cons_succ, i64_w, i32_w]
                    rfl
                  refine done_ (done_of HT_.out (by kernel_rfl)) ?_
                  try go_wp2
                  go_meet
                  case rel => exact ⟨_, (true), (by first | rfl | (simp; done) | (simp [*]; done)), H', ⟨by have := HK1.out; first | omega | exact Nat.le_refl _⟩, ⟨by (with_reducible repeat (first | refine blk_drewN ?_ _ | refine blk_drew ?_ | refine blk_alloc ?_ _)); exact BK142.out⟩, ⟨by (with_reducible repeat (first | refine blk_drewN ?_ _ | refine blk_drew ?_ | refine blk_alloc ?_ _)); exact BK143.out⟩, ⟨by (with_reducible repeat (first | refine blk_drewN ?_ _ | refine blk_drew ?_ | refine blk_alloc ?_ _)); exact BK145.out⟩, ⟨by repeat (first | (with_reducible first | exact HB.out | apply below_alloc | apply pw_below_drewN | apply below_drew1 | refine below_set ?_ GE142.out | refine below_set ?_ GE143.out | refine below_set ?_ GE145.out) | exact HB.out)⟩⟩
              case rest =>
                clear HC11
                try clear c1
                try clear p1
                try clear q1
                try clear hx1
                try clear c2
                try clear p2
                try clear c4
                try clear p6
                try clear p14
                try clear q14
                try clear hx14
                try clear c17
                try clear c18
                try clear c18b0
                try clear c20
                try clear c20b0
                try clear c21
                try clear c21b0
                try clear hx147_0
                try clear hx147_1
                try clear hx147_2
                try clear hx147_3
                try clear hx147_4
                try clear hx147_5
                try clear hx147_6
                try clear hx147_7
                try clear p147
                try clear q147
                obtain ⟨kq, x39_10, rfl, HA, HJ10, BK142, BK143, BK145, HB⟩ := hcut
                cases kq with
                | zero => exact absurd HA.out (by simp [impl_LoopAt.j1])
                | succ kj10 =>
                  have H := HA.out
                  clear HA
                  simp only [impl_LoopAt.j1] at H
                  by_cases c31 : x39_10 = true
                  · subst c31
                    have H1 : (some (0, 0, 0, 0, 0, 0, 0, false)) = some (r1, r2, r3, r4, r5, r6, r7, r8) := by rw [if_pos rfl] at H; exact H
                    clear H
                    have H := H1
                    clear H1
                    simp only [Option.some.injEq, Prod.mk.injEq] at H
                    obtain ⟨rfl, rfl, rfl, rfl, rfl, rfl, rfl, rfl⟩ := H
                    have hnb32 := NB142_143.out
                    have hnc32 := NB143_142.out
                    have hnb33 := NB142_145.out
                    have hnc33 := NB145_142.out
                    have hcz34_0 : wc.cell? ⟨gb142, 0, none⟩ = some (.int .i64 x143000_1) := (blk_cell BK142.out 0).trans rfl
                    have hcz34_1 : wc.cell? ⟨gb142, 1, none⟩ = some (.int .i64 x143001_1) := (blk_cell BK142.out 1).trans rfl
                    have hcz34_2 : wc.cell? ⟨gb142, 2, none⟩ = some (.int .i64 x143002_1) := (blk_cell BK142.out 2).trans rfl
                    have hcz34_3 : wc.cell? ⟨gb142, 3, none⟩ = some (.int .i64 x143003_1) := (blk_cell BK142.out 3).trans rfl
                    have hcz34_4 : wc.cell? ⟨gb142, 4, none⟩ = some (.int .i64 x143004_1) := (blk_cell BK142.out 4).trans rfl
                    have hcz34_5 : wc.cell? ⟨gb142, 5, none⟩ = some (.int .i64 x143005_1) := (blk_cell BK142.out 5).trans rfl
                    have hcz34_6 : wc.cell? ⟨gb142, 6, none⟩ = some (.int .i64 x143006_1) := (blk_cell BK142.out 6).trans rfl
                    have hfz34_0 := blk_frozen BK142.out 0
                    have hfz34_1 := blk_frozen BK142.out 1
                    have hfz34_2 := blk_frozen BK142.out 2
                    have hfz34_3 := blk_frozen BK142.out 3
                    have hfz34_4 := blk_frozen BK142.out 4
                    have hfz34_5 := blk_frozen BK142.out 5
                    have hfz34_6 := blk_frozen BK142.out 6
                    go_wp2
                    refine bodyPost_ret (results_ct rfl _ _ gb142 25 #[.int .i64 0, .int .i64 0, .int .i64 0, .int .i64 0, .int .i64 0, .int .i64 0, .int .i64 0] (0, 0) _ rfl (by (with_reducible repeat (first | refine blk_drewN ?_ _ | refine blk_drew ?_ | refine blk_alloc ?_ _)); refine blk_put (cs := #[.int .i64 0, .int .i64 0, .int .i64 0, .int .i64 0, .int .i64 0, .int .i64 0, .int .i64 x143006_1]) ?_ 6 _ rfl; (with_reducible repeat (first | refine blk_drewN ?_ _ | refine blk_drew ?_ | refine blk_alloc ?_ _)); refine blk_put (cs := #[.int .i64 0, .int .i64 0, .int .i64 0, .int .i64 0, .int .i64 0, .int .i64 x143005_1, .int .i64 x143006_1]) ?_ 5 _ rfl; (with_reducible repeat (first | refine blk_drewN ?_ _ | refine blk_drew ?_ | refine blk_alloc ?_ _)); refine blk_put (cs := #[.int .i64 0, .int .i64 0, .int .i64 0, .int .i64 0, .int .i64 x143004_1, .int .i64 x143005_1, .int .i64 x143006_1]) ?_ 4 _ rfl; (with_reducible repeat (first | refine blk_drewN ?_ _ | refine blk_drew ?_ | refine blk_alloc ?_ _)); refine blk_put (cs := #[.int .i64 0, .int .i64 0, .int .i64 0, .int .i64 x143003_1, .int .i64 x143004_1, .int .i64 x143005_1, .int .i64 x143006_1]) ?_ 3 _ rfl; (with_reducible repeat (first | refine blk_drewN ?_ _ | refine blk_drew ?_ | refine blk_alloc ?_ _)); refine blk_put (cs := #[.int .i64 0, .int .i64 0, .int .i64 x143002_1, .int .i64 x143003_1, .int .i64 x143004_1, .int .i64 x143005_1, .int .i64 x143006_1]) ?_ 2 _ rfl; (with_reducible repeat (first | refine blk_drewN ?_ _ | refine blk_drew ?_ | refine blk_alloc ?_ _)); refine blk_put (cs := #[.int .i64 0, .int .i64 x143001_1, .int .i64 x143002_1, .int .i64 x143003_1, .int .i64 x143004_1, .int .i64 x143005_1, .int .i64 x143006_1]) ?_ 1 _ rfl; (with_reducible repeat (first | refine blk_drewN ?_ _ | refine blk_drew ?_ | refine blk_alloc ?_ _)); refine blk_put (cs := #[.int .i64 x143000_1, .int .i64 x143001_1, .int .i64 x143002_1, .int .i64 x143003_1, .int .i64 x143004_1, .int .i64 x143005_1, .int .i64 x143006_1]) ?_ 0 _ rfl; (with_reducible repeat (first | refine blk_drewN ?_ _ | refine blk_drew ?_ | refine blk_alloc ?_ _)); exact BK142.out) Try.underlying25 rfl (by kernel_rfl)) rfl ?_
                    exact ⟨by first | rfl | (simp [errW_none, errW_some] <;> rfl) | (simp [*, errW_none, errW_some] <;> rfl), by repeat (first | (with_reducible first | exact HB.out | apply below_alloc | apply pw_below_drewN | apply below_drew1 | refine below_set ?_ GE142.out | refine below_set ?_ GE143.out | refine below_set ?_ GE145.out) | exact HB.out)⟩
                  · replace c31 := Bool.eq_false_iff.mpr c31
                    subst c31
                    have H1 : (if ((rd_T60 l0 x16_1).f0) ≤ a1 then (impl_LoopAt.l0 kj10 l0 a1 true l0 (l0.length : Int) (wrap64 (x16_1 + 1)) ((rd_T60 l0 x16_1).f1.f0) ((rd_T60 l0 x16_1).f1.f1) ((rd_T60 l0 x16_1).f1.f2) ((rd_T60 l0 x16_1).f1.f3) ((rd_T60 l0 x16_1).f1.f4) ((rd_T60 l0 x16_1).f1.f5) ((rd_T60 l0 x16_1).f1.f6)) else (impl_LoopAt.l0 kj10 l0 a1 x7_1 l0 (l0.length : Int) (wrap64 (x16_1 + 1)) x144000_1 x144001_1 x144002_1 x144003_1 x144004_1 x144005_1 x144006_1)) = some (r1, r2, r3, r4, r5, r6, r7, r8) := by rw [if_neg (show ¬ (false = true) by decide)] at H; exact H
                    clear H
                    have H := H1
                    clear H1
                    by_cases c35 : ((rd_T60 l0 x16_1).f0) ≤ a1
                    · rw [if_pos c35] at H
                      have c35b0 : decide (((rd_T60 l0 x16_1).f0) ≤ a1) = true := decide_eq_true c35
                      clear c35
                      have H' := Aside0.mk H
                      clear H
                      have hnb36 := NB145_142.out
                      have hnc36 := NB142_145.out
                      have hnb37 := NB145_143.out
                      have hnc37 := NB143_145.out
                      have hcz38_0 : wc.cell? ⟨gb145, 0, none⟩ = some (.int .i64 ((rd_T60 l0 x16_1).f0)) := (blk_cell BK145.out 0).trans rfl
                      have hcz38_1 : wc.cell? ⟨gb145, 1, none⟩ = some (.int .i64 ((rd_T60 l0 x16_1).f1.f0)) := (blk_cell BK145.out 1).trans rfl
                      have hcz38_2 : wc.cell? ⟨gb145, 2, none⟩ = some (.int .i64 ((rd_T60 l0 x16_1).f1.f1)) := (blk_cell BK145.out 2).trans rfl
                      have hcz38_3 : wc.cell? ⟨gb145, 3, none⟩ = some (.int .i64 ((rd_T60 l0 x16_1).f1.f2)) := (blk_cell BK145.out 3).trans rfl
                      have hcz38_4 : wc.cell? ⟨gb145, 4, none⟩ = some (.int .i64 ((rd_T60 l0 x16_1).f1.f3)) := (blk_cell BK145.out 4).trans rfl
                      have hcz38_5 : wc.cell? ⟨gb145, 5, none⟩ = some (.int .i64 ((rd_T60 l0 x16_1).f1.f4)) := (blk_cell BK145.out 5).trans rfl
                      have hcz38_6 : wc.cell? ⟨gb145, 6, none⟩ = some (.int .i64 ((rd_T60 l0 x16_1).f1.f5)) := (blk_cell BK145.out 6).trans rfl
                      have hcz38_7 : wc.cell? ⟨gb145, 7, none⟩ = some (.int .i64 ((rd_T60 l0 x16_1).f1.f6)) := (blk_cell BK145.out 7).trans rfl
                      have hfz38_0 := blk_frozen BK145.out 0
                      have hfz38_1 := blk_frozen BK145.out 1
                      have hfz38_2 := blk_frozen BK145.out 2
                      have hfz38_3 := blk_frozen BK145.out 3
                      have hfz38_4 := blk_frozen BK145.out 4
                      have hfz38_5 := blk_frozen BK145.out 5
                      have hfz38_6 := blk_frozen BK145.out 6
                      have hfz38_7 := blk_frozen BK145.out 7
                      have hnb39 := NB143_142.out
                      have hnc39 := NB142_143.out
                      have hcz40_0 : wc.cell? ⟨gb143, 0, none⟩ = some (.int .i64 x144000_1) := (blk_cell BK143.out 0).trans rfl
                      have hcz40_1 : wc.cell? ⟨gb143, 1, none⟩ = some (.int .i64 x144001_1) := (blk_cell BK143.out 1).trans rfl
                      have hcz40_2 : wc.cell? ⟨gb143, 2, none⟩ = some (.int .i64 x144002_1) := (blk_cell BK143.out 2).trans rfl
                      have hcz40_3 : wc.cell? ⟨gb143, 3, none⟩ = some (.int .i64 x144003_1) := (blk_cell BK143.out 3).trans rfl
                      have hcz40_4 : wc.cell? ⟨gb143, 4, none⟩ = some (.int .i64 x144004_1) := (blk_cell BK143.out 4).trans rfl
                      have hcz40_5 : wc.cell? ⟨gb143, 5, none⟩ = some (.int .i64 x144005_1) := (blk_cell BK143.out 5).trans rfl
                      have hcz40_6 : wc.cell? ⟨gb143, 6, none⟩ = some (.int .i64 x144006_1) := (blk_cell BK143.out 6).trans rfl
                      have hfz40_0 := blk_frozen BK143.out 0
                      have hfz40_1 := blk_frozen BK143.out 1
                      have hfz40_2 := blk_frozen BK143.out 2
                      have hfz40_3 := blk_frozen BK143.out 3
                      have hfz40_4 := blk_frozen BK143.out 4
                      have hfz40_5 := blk_frozen BK143.out 5
                      have hfz40_6 := blk_frozen BK143.out 6
                      go_wp2
                      go_roundg kj10
                      case measure => have := HK1.out; have := HJ10.out; omega
                      case rel => exact ⟨(true), (wrap64 (x16_1 + 1)), (x143000_1), (x143001_1), (x143002_1), (x143003_1), (x143004_1), (x143005_1), (x143006_1), (((rd_T60 l0 x16_1).f1.f0)), (((rd_T60 l0 x16_1).f1.f1)), (((rd_T60 l0 x16_1).f1.f2)), (((rd_T60 l0 x16_1).f1.f3)), (((rd_T60 l0 x16_1).f1.f4)), (((rd_T60 l0 x16_1).f1.f5)), (((rd_T60 l0 x16_1).f1.f6)), (by first | rfl | (simp; done) | (simp [*]; done)), (by first | rfl | (simp; done) | (simp [*]; done)), H', ⟨by have := HK1.out; have := HJ10.out; omega⟩, ⟨by (with_reducible repeat (first | refine blk_drewN ?_ _ | refine blk_drew ?_ | refine blk_alloc ?_ _)); refine blk_far ?_ NB142_143.out _; (with_reducible repeat (first | refine blk_drewN ?_ _ | refine blk_drew ?_ | refine blk_alloc ?_ _)); refine blk_far ?_ NB142_143.out _; (with_reducible repeat (first | refine blk_drewN ?_ _ | refine blk_drew ?_ | refine blk_alloc ?_ _)); refine blk_far ?_ NB142_143.out _; (with_reducible repeat (first | refine blk_drewN ?_ _ | refine blk_drew ?_ | refine blk_alloc ?_ _)); refine blk_far ?_ NB142_143.out _; (with_reducible repeat (first | refine blk_drewN ?_ _ | refine blk_drew ?_ | refine blk_alloc ?_ _)); refine blk_far ?_ NB142_143.out _; (with_reducible repeat (first | refine blk_drewN ?_ _ | refine blk_drew ?_ | refine blk_alloc ?_ _)); refine blk_far ?_ NB142_143.out _; (with_reducible repeat (first | refine blk_drewN ?_ _ | refine blk_drew ?_ | refine blk_alloc ?_ _)); refine blk_far ?_ NB142_143.out _; (with_reducible repeat (first | refine blk_drewN ?_ _ | refine blk_drew ?_ | refine blk_alloc ?_ _)); exact BK142.out⟩, ⟨by (with_reducible repeat (first | refine blk_drewN ?_ _ | refine blk_drew ?_ | refine blk_alloc ?_ _)); refine blk_put (cs := #[.int .i64 ((rd_T60 l0 x16_1).f1.f0), .int .i64 ((rd_T60 l0 x16_1).f1.f1), .int .i64 ((rd_T60 l0 x16_1).f1.f2), .int .i64 ((rd_T60 l0 x16_1).f1.f3), .int .i64 ((rd_T60 l0 x16_1).f1.f4), .int .i64 ((rd_T60 l0 x16_1).f1.f5), .int .i64 x144006_1]) ?_ 6 _ rfl; (with_reducible repeat (first | refine blk_drewN ?_ _ | refine blk_drew ?_ | refine blk_alloc ?_ _)); refine blk_put (cs := #[.int .i64 ((rd_T60 l0 x16_1).f1.f0), .int .i64 ((rd_T60 l0 x16_1).f1.f1), .int .i64 ((rd_T60 l0 x16_1).f1.f2), .int .i64 ((rd_T60 l0 x16_1).f1.f3), .int .i64 ((rd_T60 l0 x16_1).f1.f4), .int .i64 x144005_1, .int .i64 x144006_1]) ?_ 5 _ rfl; (with_reducible repeat (first | refine blk_drewN ?_ _ | refine blk_drew ?_ | refine blk_alloc ?_ _)); refine blk_put (cs := #[.int .i64 ((rd_T60 l0 x16_1).f1.f0), .int .i64 ((rd_T60 l0 x16_1).f1.f1), .int .i64 ((rd_T60 l0 x16_1).f1.f2), .int .i64 ((rd_T60 l0 x16_1).f1.f3), .int .i64 x144004_1, .int .i64 x144005_1, .int .i64 x144006_1]) ?_ 4 _ rfl; (with_reducible repeat (first | refine blk_drewN ?_ _ | refine blk_drew ?_ | refine blk_alloc ?_ _)); refine blk_put (cs := #[.int .i64 ((rd_T60 l0 x16_1).f1.f0), .int .i64 ((rd_T60 l0 x16_1).f1.f1), .int .i64 ((rd_T60 l0 x16_1).f1.f2), .int .i64 x144003_1, .int .i64 x144004_1, .int .i64 x144005_1, .int .i64 x144006_1]) ?_ 3 _ rfl; (with_reducible repeat (first | refine blk_drewN ?_ _ | refine blk_drew ?_ | refine blk_alloc ?_ _)); refine blk_put (cs := #[.int .i64 ((rd_T60 l0 x16_1).f1.f0), .int .i64 ((rd_T60 l0 x16_1).f1.f1), .int .i64 x144002_1, .int .i64 x144003_1, .int .i64 x144004_1, .int .i64 x144005_1, .int .i64 x144006_1]) ?_ 2 _ rfl; (with_reducible repeat (first | refine blk_drewN ?_ _ | refine blk_drew ?_ | refine blk_alloc ?_ _)); refine blk_put (cs := #[.int .i64 ((rd_T60 l0 x16_1).f1.f0), .int .i64 x144001_1, .int .i64 x144002_1, .int .i64 x144003_1, .int .i64 x144004_1, .int .i64 x144005_1, .int .i64 x144006_1]) ?_ 1 _ rfl; (with_reducible repeat (first | refine blk_drewN ?_ _ | refine blk_drew ?_ | refine blk_alloc ?_ _)); refine blk_put (cs := #[.int .i64 x144000_1, .int .i64 x144001_1, .int .i64 x144002_1, .int .i64 x144003_1, .int .i64 x144004_1, .int .i64 x144005_1, .int .i64 x144006_1]) ?_ 0 _ rfl; (with_reducible repeat (first | refine blk_drewN ?_ _ | refine blk_drew ?_ | refine blk_alloc ?_ _)); exact BK143.out⟩, ⟨by repeat (first | (with_reducible first | exact HB.out | apply below_alloc | apply pw_below_drewN | apply below_drew1 | refine below_set ?_ GE142.out | refine below_set ?_ GE143.out | refine below_set ?_ GE145.out) | exact HB.out)⟩⟩
                    · rw [if_neg c35] at H
                      have c35b0 : decide (((rd_T60 l0 x16_1).f0) ≤ a1) = false := decide_eq_false c35
                      clear c35
                      have H' := Aside0.mk H
                      clear H
                      have hnb41 := NB145_142.out
                      have hnc41 := NB142_145.out
                      have hnb42 := NB145_143.out
                      have hnc42 := NB143_145.out
                      have hcz43_0 : wc.cell? ⟨gb145, 0, none⟩ = some (.int .i64 ((rd_T60 l0 x16_1).f0)) := (blk_cell BK145.out 0).trans rfl
                      have hcz43_1 : wc.cell? ⟨gb145, 1, none⟩ = some (.int .i64 ((rd_T60 l0 x16_1).f1.f0)) := (blk_cell BK145.out 1).trans rfl
                      have hcz43_2 : wc.cell? ⟨gb145, 2, none⟩ = some (.int .i64 ((rd_T60 l0 x16_1).f1.f1)) := (blk_cell BK145.out 2).trans rfl
                      have hcz43_3 : wc.cell? ⟨gb145, 3, none⟩ = some (.int .i64 ((rd_T60 l0 x16_1).f1.f2)) := (blk_cell BK145.out 3).trans rfl
                      have hcz43_4 : wc.cell? ⟨gb145, 4, none⟩ = some (.int .i64 ((rd_T60 l0 x16_1).f1.f3)) := (blk_cell BK145.out 4).trans rfl
                      have hcz43_5 : wc.cell? ⟨gb145, 5, none⟩ = some (.int .i64 ((rd_T60 l0 x16_1).f1.f4)) := (blk_cell BK145.out 5).trans rfl
                      have hcz43_6 : wc.cell? ⟨gb145, 6, none⟩ = some (.int .i64 ((rd_T60 l0 x16_1).f1.f5)) := (blk_cell BK145.out 6).trans rfl
                      have hcz43_7 : wc.cell? ⟨gb145, 7, none⟩ = some (.int .i64 ((rd_T60 l0 x16_1).f1.f6)) := (blk_cell BK145.out 7).trans rfl
                      have hfz43_0 := blk_frozen BK145.out 0
                      have hfz43_1 := blk_frozen BK145.out 1
                      have hfz43_2 := blk_frozen BK145.out 2
                      have hfz43_3 := blk_frozen BK145.out 3
                      have hfz43_4 := blk_frozen BK145.out 4
                      have hfz43_5 := blk_frozen BK145.out 5
                      have hfz43_6 := blk_frozen BK145.out 6
                      have hfz43_7 := blk_frozen BK145.out 7
                      go_wp2
                      go_roundg kj10
                      case measure => have := HK1.out; have := HJ10.out; omega
                      case rel => exact ⟨(x7_1), (wrap64 (x16_1 + 1)), (x143000_1), (x143001_1), (x143002_1), (x143003_1), (x143004_1), (x143005_1), (x143006_1), (x144000_1), (x144001_1), (x144002_1), (x144003_1), (x144004_1), (x144005_1), (x144006_1), (by first | rfl | (simp; done) | (simp [*]; done)), (by first | rfl | (simp; done) | (simp [*]; done)), H', ⟨by have := HK1.out; have := HJ10.out; omega⟩, ⟨by (with_reducible repeat (first | refine blk_drewN ?_ _ | refine blk_drew ?_ | refine blk_alloc ?_ _)); exact BK142.out⟩, ⟨by (with_reducible repeat (first | refine blk_drewN ?_ _ | refine blk_drew ?_ | refine blk_alloc ?_ _)); exact BK143.out⟩, ⟨by repeat (first | (with_reducible first | exact HB.out | apply below_alloc | apply pw_below_drewN | apply below_drew1 | refine below_set ?_ GE142.out | refine below_set ?_ GE143.out | refine below_set ?_ GE145.out) | exact HB.out)⟩⟩
            · rw [if_neg c10] at H
              exact absurd H (by simp)
          · rw [if_neg c9] at H
            exact absurd H (by simp)
        · rw [if_neg c8] at H
          have c8b0 : decide (x16_1 < (l0.length : Int)) = false := decide_eq_false c8
          clear c8
          simp only [Option.some.injEq, Prod.mk.injEq] at H
          obtain ⟨rfl, rfl, rfl, rfl, rfl, rfl, rfl, rfl⟩ := H
          have hnb44 := NB143_142.out
          have hnc44 := NB142_143.out
          have hcz45_0 : wr.cell? ⟨gb143, 0, none⟩ = some (.int .i64 x144000_1) := (blk_cell BK143.out 0).trans rfl
          have hcz45_1 : wr.cell? ⟨gb143, 1, none⟩ = some (.int .i64 x144001_1) := (blk_cell BK143.out 1).trans rfl
          have hcz45_2 : wr.cell? ⟨gb143, 2, none⟩ = some (.int .i64 x144002_1) := (blk_cell BK143.out 2).trans rfl
          have hcz45_3 : wr.cell? ⟨gb143, 3, none⟩ = some (.int .i64 x144003_1) := (blk_cell BK143.out 3).trans rfl
          have hcz45_4 : wr.cell? ⟨gb143, 4, none⟩ = some (.int .i64 x144004_1) := (blk_cell BK143.out 4).trans rfl
          have hcz45_5 : wr.cell? ⟨gb143, 5, none⟩ = some (.int .i64 x144005_1) := (blk_cell BK143.out 5).trans rfl
          have hcz45_6 : wr.cell? ⟨gb143, 6, none⟩ = some (.int .i64 x144006_1) := (blk_cell BK143.out 6).trans rfl
          have hfz45_0 := blk_frozen BK143.out 0
          have hfz45_1 := blk_frozen BK143.out 1
          have hfz45_2 := blk_frozen BK143.out 2
          have hfz45_3 := blk_frozen BK143.out 3
          have hfz45_4 := blk_frozen BK143.out 4
          have hfz45_5 := blk_frozen BK143.out 5
          have hfz45_6 := blk_frozen BK143.out 6
          have hcz46_0 : wr.cell? ⟨gb142, 0, none⟩ = some (.int .i64 x143000_1) := (blk_cell BK142.out 0).trans rfl
          have hcz46_1 : wr.cell? ⟨gb142, 1, none⟩ = some (.int .i64 x143001_1) := (blk_cell BK142.out 1).trans rfl
          have hcz46_2 : wr.cell? ⟨gb142, 2, none⟩ = some (.int .i64 x143002_1) := (blk_cell BK142.out 2).trans rfl
          have hcz46_3 : wr.cell? ⟨gb142, 3, none⟩ = some (.int .i64 x143003_1) := (blk_cell BK142.out 3).trans rfl
          have hcz46_4 : wr.cell? ⟨gb142, 4, none⟩ = some (.int .i64 x143004_1) := (blk_cell BK142.out 4).trans rfl
          have hcz46_5 : wr.cell? ⟨gb142, 5, none⟩ = some (.int .i64 x143005_1) := (blk_cell BK142.out 5).trans rfl
          have hcz46_6 : wr.cell? ⟨gb142, 6, none⟩ = some (.int .i64 x143006_1) := (blk_cell BK142.out 6).trans rfl
          have hfz46_0 := blk_frozen BK142.out 0
          have hfz46_1 := blk_frozen BK142.out 1
          have hfz46_2 := blk_frozen BK142.out 2
          have hfz46_3 := blk_frozen BK142.out 3
          have hfz46_4 := blk_frozen BK142.out 4
          have hfz46_5 := blk_frozen BK142.out 5
          have hfz46_6 := blk_frozen BK142.out 6
          go_wp2
          refine bodyPost_ret (results_ct rfl _ _ gb142 25 #[.int .i64 x144000_1, .int .i64 x144001_1, .int .i64 x144002_1, .int .i64 x144003_1, .int .i64 x144004_1, .int .i64 x144005_1, .int .i64 x144006_1] (0, 0) _ rfl (by (with_reducible repeat (first | refine blk_drewN ?_ _ | refine blk_drew ?_ | refine blk_alloc ?_ _)); refine blk_put (cs := #[.int .i64 x144000_1, .int .i64 x144001_1, .int .i64 x144002_1, .int .i64 x144003_1, .int .i64 x144004_1, .int .i64 x144005_1, .int .i64 x143006_1]) ?_ 6 _ rfl; (with_reducible repeat (first | refine blk_drewN ?_ _ | refine blk_drew ?_ | refine blk_alloc ?_ _)); refine blk_put (cs := #[.int .i64 x144000_1, .int .i64 x144001_1, .int .i64 x144002_1, .int .i64 x144003_1, .int .i64 x144004_1, .int .i64 x143005_1, .int .i64 x143006_1]) ?_ 5 _ rfl; (with_reducible repeat (first | refine blk_drewN ?_ _ | refine blk_drew ?_ | refine blk_alloc ?_ _)); refine blk_put (cs := #[.int .i64 x144000_1, .int .i64 x144001_1, .int .i64 x144002_1, .int .i64 x144003_1, .int .i64 x143004_1, .int .i64 x143005_1, .int .i64 x143006_1]) ?_ 4 _ rfl; (with_reducible repeat (first | refine blk_drewN ?_ _ | refine blk_drew ?_ | refine blk_alloc ?_ _)); refine blk_put (cs := #[.int .i64 x144000_1, .int .i64 x144001_1, .int .i64 x144002_1, .int .i64 x143003_1, .int .i64 x143004_1, .int .i64 x143005_1, .int .i64 x143006_1]) ?_ 3 _ rfl; (with_reducible repeat (first | refine blk_drewN ?_ _ | refine blk_drew ?_ | refine blk_alloc ?_ _)); refine blk_put (cs := #[.int .i64 x144000_1, .int .i64 x144001_1, .int .i64 x143002_1, .int .i64 x143003_1, .int .i64 x143004_1, .int .i64 x143005_1, .int .i64 x143006_1]) ?_ 2 _ rfl; (with_reducible repeat (first | refine blk_drewN ?_ _ | refine blk_drew ?_ | refine blk_alloc ?_ _)); refine blk_put (cs := #[.int .i64 x144000_1, .int .i64 x143001_1, .int .i64 x143002_1, .int .i64 x143003_1, .int .i64 x143004_1, .int .i64 x143005_1, .int .i64 x143006_1]) ?_ 1 _ rfl; (with_reducible repeat (first | refine blk_drewN ?_ _ | refine blk_drew ?_ | refine blk_alloc ?_ _)); refine blk_put (cs := #[.int .i64 x143000_1, .int .i64 x143001_1, .int .i64 x143002_1, .int .i64 x143003_1, .int .i64 x143004_1, .int .i64 x143005_1, .int .i64 x143006_1]) ?_ 0 _ rfl; (with_reducible repeat (first | refine blk_drewN ?_ _ | refine blk_drew ?_ | refine blk_alloc ?_ _)); exact BK142.out) Try.underlying25 rfl (by kernel_rfl)) rfl ?_
          exact ⟨by first | rfl | (simp [errW_none, errW_some] <;> rfl) | (simp [*, errW_none, errW_some] <;> rfl), by repeat (first | (with_reducible first | exact HB.out | apply below_alloc | apply pw_below_drewN | apply below_drew1 | refine below_set ?_ GE142.out | refine below_set ?_ GE143.out) | exact HB.out)⟩

end Go.Proofs.Ytonafpbnjgdlgaa.PFnExactLoopAt
