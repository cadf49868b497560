-- Written by a program of this session out of the loaded functions' print; helper lemmas as print.sh lays them.
import Derived.Test.YtineniimpdjpnaaUp
import Derived.Test.YtineniimpdjpnaaRFnGainsx0
import Derived.Test.YtineniimpdjpnaaRFnGainsx6
namespace Go.Proofs.Ytineniimpdjpnaa.PFnGains
open Go.RowKit Go.Proofs.YtineniimpdjpnaaW.PrintWords Go.Proofs.YtineniimpdjpnaaW.PrintLast Go.Proofs.YtineniimpdjpnaaW.PrintMore
attribute [local go_sem] max2_int min2_int max_two min_two max_three min_three max_four min_four  -- for this text's walks alone
set_option linter.unusedVariables false
set_option linter.unusedSimpArgs false

/-! ### spec_LoopAt: function 17 -/
mutual
def spec_LoopAt.l0 : Nat → List (S45) → Int → Bool → List (S45) → Int → Int → Int → Int → Int → Int → Int → Int → Int → Option (Int × Int × Int × Int × Int × Int × Int × Bool)
 | 0, _, _, _, _, _, _, _, _, _, _, _, _, _ => none
 | k + 1, x0, x1, x7, x15, x16, x17, x220000, x220001, x220002, x220003, x220004, x220005, x220006 => if x17 < x16 then (if 0 ≤ x17 then (if x17 < (x15.length : Int) then ((spec_GoodLoop.f ((rd_T45 x15 x17).f1.f0) ((rd_T45 x15 x17).f1.f1) ((rd_T45 x15 x17).f1.f2) ((rd_T45 x15 x17).f1.f3) ((rd_T45 x15 x17).f1.f4) ((rd_T45 x15 x17).f1.f5) ((rd_T45 x15 x17).f1.f6)).bind fun t222 => (if t222 = true then (if x17 > 0 then (if 0 ≤ (wrap64 (x17 - 1)) then (if (wrap64 (x17 - 1)) < (x0.length : Int) then (spec_LoopAt.j1 k x0 x1 x7 x15 x16 x17 (decide (((rd_T45 x0 (wrap64 (x17 - 1))).f0) ≥ ((rd_T45 x15 x17).f0))) x220000 x220001 x220002 x220003 x220004 x220005 x220006 ((rd_T45 x15 x17).f0) ((rd_T45 x15 x17).f1.f0) ((rd_T45 x15 x17).f1.f1) ((rd_T45 x15 x17).f1.f2) ((rd_T45 x15 x17).f1.f3) ((rd_T45 x15 x17).f1.f4) ((rd_T45 x15 x17).f1.f5) ((rd_T45 x15 x17).f1.f6)) else (none)) else (none)) else (spec_LoopAt.j1 k x0 x1 x7 x15 x16 x17 false x220000 x220001 x220002 x220003 x220004 x220005 x220006 ((rd_T45 x15 x17).f0) ((rd_T45 x15 x17).f1.f0) ((rd_T45 x15 x17).f1.f1) ((rd_T45 x15 x17).f1.f2) ((rd_T45 x15 x17).f1.f3) ((rd_T45 x15 x17).f1.f4) ((rd_T45 x15 x17).f1.f5) ((rd_T45 x15 x17).f1.f6))) else (spec_LoopAt.j1 k x0 x1 x7 x15 x16 x17 true x220000 x220001 x220002 x220003 x220004 x220005 x220006 ((rd_T45 x15 x17).f0) ((rd_T45 x15 x17).f1.f0) ((rd_T45 x15 x17).f1.f1) ((rd_T45 x15 x17).f1.f2) ((rd_T45 x15 x17).f1.f3) ((rd_T45 x15 x17).f1.f4) ((rd_T45 x15 x17).f1.f5) ((rd_T45 x15 x17).f1.f6)))) else (none)) else (none)) else (some (x220000, x220001, x220002, x220003, x220004, x220005, x220006, x7))
def spec_LoopAt.j1 : Nat → List (S45) → Int → Bool → List (S45) → Int → Int → Bool → Int → Int → Int → Int → Int → Int → Int → Int → Int → Int → Int → Int → Int → Int → Int → Option (Int × Int × Int × Int × Int × Int × Int × Bool)
 | 0, _, _, _, _, _, _, _, _, _, _, _, _, _, _, _, _, _, _, _, _, _, _ => none
 | k + 1, x0, x1, x7, x15, x16, x17, x40, x220000, x220001, x220002, x220003, x220004, x220005, x220006, x222000, x222001, x222002, x222003, x222004, x222005, x222006, x222007 => if x40 = true then (some (0, 0, 0, 0, 0, 0, 0, false)) else (if x222000 ≤ x1 then (spec_LoopAt.l0 k x0 x1 true x15 x16 (wrap64 (x17 + 1)) x222001 x222002 x222003 x222004 x222005 x222006 x222007) else (spec_LoopAt.l0 k x0 x1 x7 x15 x16 (wrap64 (x17 + 1)) x220000 x220001 x220002 x220003 x220004 x220005 x220006))
end
def spec_LoopAt.f (k : Nat) (l0 : List (S45)) (a1 : Int) : Option (Int × Int × Int × Int × Int × Int × Int × Bool) := if (l0.length : Int) > 60 then (some (0, 0, 0, 0, 0, 0, 0, false)) else (spec_LoopAt.l0 k l0 a1 false l0 (l0.length : Int) 0 0 0 0 0 0 0 0)
theorem spec_LoopAt.mono_l : ∀ k, (∀ y0 y1 y2 y3 y4 y5 y6 y7 y8 y9 y10 y11 y12, LeO (spec_LoopAt.l0 k y0 y1 y2 y3 y4 y5 y6 y7 y8 y9 y10 y11 y12) (spec_LoopAt.l0 (k + 1) y0 y1 y2 y3 y4 y5 y6 y7 y8 y9 y10 y11 y12)) ∧ (∀ y0 y1 y2 y3 y4 y5 y6 y7 y8 y9 y10 y11 y12 y13 y14 y15 y16 y17 y18 y19 y20 y21, LeO (spec_LoopAt.j1 k y0 y1 y2 y3 y4 y5 y6 y7 y8 y9 y10 y11 y12 y13 y14 y15 y16 y17 y18 y19 y20 y21) (spec_LoopAt.j1 (k + 1) y0 y1 y2 y3 y4 y5 y6 y7 y8 y9 y10 y11 y12 y13 y14 y15 y16 y17 y18 y19 y20 y21))
 | 0 => ⟨fun _ _ _ _ _ _ _ _ _ _ _ _ _ r h => by simp [spec_LoopAt.l0] at h, fun _ _ _ _ _ _ _ _ _ _ _ _ _ _ _ _ _ _ _ _ _ _ r h => by simp [spec_LoopAt.j1] at h⟩
 | k + 1 => by
  obtain ⟨ih0, ih1⟩ := spec_LoopAt.mono_l k
  refine ⟨?_, ?_⟩
  ·intro y0 y1 y2 y3 y4 y5 y6 y7 y8 y9 y10 y11 y12
   unfold spec_LoopAt.l0
   repeat' first
   | (with_reducible exact ih0 _ _ _ _ _ _ _ _ _ _ _ _ _)
   | (with_reducible exact ih1 _ _ _ _ _ _ _ _ _ _ _ _ _ _ _ _ _ _ _ _ _ _)
   | (with_reducible exact LeO.refl _)
   | (with_reducible exact LeO.none _)
   | (with_reducible refine LeO.ite ?_ ?_)
   | (with_reducible refine LeO.bind ?_ (fun _ => ?_))
   | exact ih0 _ _ _ _ _ _ _ _ _ _ _ _ _
   | exact ih1 _ _ _ _ _ _ _ _ _ _ _ _ _ _ _ _ _ _ _ _ _ _
   | exact LeO.none _
   | refine LeO.ite ?_ ?_
   | refine LeO.bind ?_ (fun _ => ?_)
  ·intro y0 y1 y2 y3 y4 y5 y6 y7 y8 y9 y10 y11 y12 y13 y14 y15 y16 y17 y18 y19 y20 y21
   unfold spec_LoopAt.j1
   repeat' first
   | (with_reducible exact ih0 _ _ _ _ _ _ _ _ _ _ _ _ _)
   | (with_reducible exact ih1 _ _ _ _ _ _ _ _ _ _ _ _ _ _ _ _ _ _ _ _ _ _)
   | (with_reducible exact LeO.refl _)
   | (with_reducible exact LeO.none _)
   | (with_reducible refine LeO.ite ?_ ?_)
   | (with_reducible refine LeO.bind ?_ (fun _ => ?_))
   | exact ih0 _ _ _ _ _ _ _ _ _ _ _ _ _
   | exact ih1 _ _ _ _ _ _ _ _ _ _ _ _ _ _ _ _ _ _ _ _ _ _
   | exact LeO.none _
   | refine LeO.ite ?_ ?_
   | refine LeO.bind ?_ (fun _ => ?_)
theorem spec_LoopAt.mono : ∀ a0 a1 k, LeO (spec_LoopAt.f k a0 a1) (spec_LoopAt.f (k + 1) a0 a1) := by
 intro a0 a1 k
 obtain ⟨ih0, ih1⟩ := spec_LoopAt.mono_l k
 unfold spec_LoopAt.f
 repeat' first
   | (with_reducible exact ih0 _ _ _ _ _ _ _ _ _ _ _ _ _)
   | (with_reducible exact ih1 _ _ _ _ _ _ _ _ _ _ _ _ _ _ _ _ _ _ _ _ _ _)
   | (with_reducible exact LeO.refl _)
   | (with_reducible exact LeO.none _)
   | (with_reducible refine LeO.ite ?_ ?_)
   | (with_reducible refine LeO.bind ?_ (fun _ => ?_))
   | exact ih0 _ _ _ _ _ _ _ _ _ _ _ _ _
   | exact ih1 _ _ _ _ _ _ _ _ _ _ _ _ _ _ _ _ _ _ _ _ _ _
   | exact LeO.none _
   | refine LeO.ite ?_ ?_
   | refine LeO.bind ?_ (fun _ => ?_)
def spec_LoopAt.T8 : Bool × List (List Nat × List Nat) := (true, [([], []), ([0], [0]), ([1], [1]), ([2], [2]), ([3, 2], [3]), ([4], [4]), ([5, 4], [4, 5]), ([6, 4, 4], [4, 6]), ([7], [7]), ([7], [7]), ([9, 7], [7, 9]), ([8, 10, 7], [7, 8, 10]), ([11, 7], [7, 11]), ([12, 7], [7, 12]), ([7], [7]), ([14, 7], [7, 14]), ([13, 15, 7], [7, 13, 15]), ([7, 16, 4], [4, 7, 16]), ([4, 17], [4, 17])])
def spec_LoopAt.B8 : List Nat := [0, 1, 3, 7, 15, 31, 63, 127, 255, 255, 767, 2047, 4095, 8191, 255, 16639, 65535, 131071, 262143]
theorem spec_LoopAt.tab8 : rtab .any (opsOf Try.f17 8) = spec_LoopAt.T8 := by kernel_rfl
theorem spec_LoopAt.bits8 : waitsOk spec_LoopAt.T8.2 spec_LoopAt.B8 = true := by kernel_rfl
set_option maxHeartbeats 8000000 in
set_option maxRecDepth 100000 in
theorem spec_LoopAt.calls (k : Nat) (A0 : Option Addr) (c0 : Nat) (l0 : List (S45)) (a1 : Int) (r1 : Int) (r2 : Int) (r3 : Int) (r4 : Int) (r5 : Int) (r6 : Int) (r7 : Int) (r8 : Bool) (w : World) (hr0 : Kd.C k45 w A0 l0.length l0) (hc0 : l0.length ≤ c0) (h : spec_LoopAt.f k l0 a1 = some (r1, r2, r3, r4, r5, r6, r7, r8)) :
  Calls Try.prog 17 #[.slice A0 l0.length c0, .int .i64 a1] w fun e w' => e = .returned (.tuple #[.agg #[.int .i64 r1, .int .i64 r2, .int .i64 r3, .int .i64 r4, .int .i64 r5, .int .i64 r6, .int .i64 r7], .bool r8]) ∧ Below w.heap.size w w' := by
 have hu30 := Try.underlying30
 have hu45 := Try.underlying45
 have HR0 := Aside0.mk hr0
 have HC0 := Aside0.mk hc0
 clear hr0 hc0
 have HB := a_ (Below.refl w.heap.size w)
 have H : (if (l0.length : Int) > 60 then (some (0, 0, 0, 0, 0, 0, 0, false)) else (spec_LoopAt.l0 k l0 a1 false l0 (l0.length : Int) 0 0 0 0 0 0 0 0)) = some (r1, r2, r3, r4, r5, r6, r7, r8) := h
 clear h
 by_cases c3 : (l0.length : Int) > 60
 ·rw [if_pos c3] at H
  have c3b0 : decide (60 < (l0.length : Int)) = true := decide_eq_true c3
  have c3b1 : decide (60 < l0.length) = true := decide_eq_true (by omega)
  clear c3
  simp only [Option.some.injEq, Prod.mk.injEq] at H
  obtain ⟨rfl, rfl, rfl, rfl, rfl, rfl, rfl, rfl⟩ := H
  go_enter Try.func17, Try.ntmps17
  go_wp2_with (first | ((with_reducible refine gate_dst (N := 4) rfl ?_); refine box_event ?hg (N := 4) ?hd (cs := #[.int .i64 0, .int .i64 0, .int .i64 0, .int .i64 0, .int .i64 0, .int .i64 0, .int .i64 0]) (t := 30) ?hr ?_; (case hd => rfl); (case hg => rfl); (case hr => first | (go_simp; done) | (go_simp; rfl)); intro gb218 hg w4 hbox hb; have BK218 := a_ (hbox); have GW218 := a_ (bsg hg HB.out); have GE218 := a_ (bsg hg HB.out); replace HB := a_ (below_step (un HB.out) hb); clear hb hbox hg; have hcz5_0 : _ = some (Value.int .i64 0) := (blk_cell BK218.out 0).trans rfl; have hcz5_1 : _ = some (Value.int .i64 0) := (blk_cell BK218.out 1).trans rfl; have hcz5_2 : _ = some (Value.int .i64 0) := (blk_cell BK218.out 2).trans rfl; have hcz5_3 : _ = some (Value.int .i64 0) := (blk_cell BK218.out 3).trans rfl; have hcz5_4 : _ = some (Value.int .i64 0) := (blk_cell BK218.out 4).trans rfl; have hcz5_5 : _ = some (Value.int .i64 0) := (blk_cell BK218.out 5).trans rfl; have hcz5_6 : _ = some (Value.int .i64 0) := (blk_cell BK218.out 6).trans rfl; have hfz5_0 := blk_frozen BK218.out 0; have hfz5_1 := blk_frozen BK218.out 1; have hfz5_2 := blk_frozen BK218.out 2; have hfz5_3 := blk_frozen BK218.out 3; have hfz5_4 := blk_frozen BK218.out 4; have hfz5_5 := blk_frozen BK218.out 5; have hfz5_6 := blk_frozen BK218.out 6))
  refine bodyPost_ret (results_ct rfl _ _ gb218 30 #[.int .i64 0, .int .i64 0, .int .i64 0, .int .i64 0, .int .i64 0, .int .i64 0, .int .i64 0] (0, 0) _ rfl (by refine pk ?_; refine blk_put (cs := #[.int .i64 0, .int .i64 0, .int .i64 0, .int .i64 0, .int .i64 0, .int .i64 0, .int .i64 0]) ?_ 6 _ rfl; refine pk ?_; refine blk_put (cs := #[.int .i64 0, .int .i64 0, .int .i64 0, .int .i64 0, .int .i64 0, .int .i64 0, .int .i64 0]) ?_ 5 _ rfl; refine pk ?_; refine blk_put (cs := #[.int .i64 0, .int .i64 0, .int .i64 0, .int .i64 0, .int .i64 0, .int .i64 0, .int .i64 0]) ?_ 4 _ rfl; refine pk ?_; refine blk_put (cs := #[.int .i64 0, .int .i64 0, .int .i64 0, .int .i64 0, .int .i64 0, .int .i64 0, .int .i64 0]) ?_ 3 _ rfl; refine pk ?_; refine blk_put (cs := #[.int .i64 0, .int .i64 0, .int .i64 0, .int .i64 0, .int .i64 0, .int .i64 0, .int .i64 0]) ?_ 2 _ rfl; refine pk ?_; refine blk_put (cs := #[.int .i64 0, .int .i64 0, .int .i64 0, .int .i64 0, .int .i64 0, .int .i64 0, .int .i64 0]) ?_ 1 _ rfl; refine pk ?_; refine blk_put (cs := #[.int .i64 0, .int .i64 0, .int .i64 0, .int .i64 0, .int .i64 0, .int .i64 0, .int .i64 0]) ?_ 0 _ rfl; refine pk ?_; exact BK218.out) Try.underlying30 rfl (by kernel_rfl)) rfl ?_
  exact ⟨by first | rfl | (simp [errW_none, errW_some] <;> rfl) | (simp [*, errW_none, errW_some] <;> rfl), by repeat first | (with_reducible first | exact HB.out | refine bz ?_ (by assumption) | apply bA | apply bN | apply bD) | exact HB.out⟩
 ·rw [if_neg c3] at H
  have c3b0 : decide (60 < (l0.length : Int)) = false := decide_eq_false c3
  have c3b1 : decide (60 < l0.length) = false := decide_eq_false (by omega)
  clear c3
  have H' := Aside0.mk H
  clear H
  go_enter Try.func17, Try.ntmps17
  go_wp2_with (first | ((with_reducible refine gate_dst (N := 4) rfl ?_); refine box_event ?hg (N := 4) ?hd (cs := #[.int .i64 0, .int .i64 0, .int .i64 0, .int .i64 0, .int .i64 0, .int .i64 0, .int .i64 0]) (t := 30) ?hr ?_; (case hd => rfl); (case hg => rfl); (case hr => first | (go_simp; done) | (go_simp; rfl)); intro gb218 hg w6 hbox hb; have BK218 := a_ (hbox); have GW218 := a_ (bsg hg HB.out); have GE218 := a_ (bsg hg HB.out); replace HB := a_ (below_step (un HB.out) hb); clear hb hbox hg) | ((with_reducible refine gate_dst (N := 6) rfl ?_); refine box_event ?hg (N := 6) ?hd (cs := #[.int .i64 0, .int .i64 0, .int .i64 0, .int .i64 0, .int .i64 0, .int .i64 0, .int .i64 0]) (t := 30) ?hr ?_; (case hd => rfl); (case hg => rfl); (case hr => first | (go_simp; done) | (go_simp; rfl)); intro gb219 hg w7 hbox hb; have BK219 := a_ (hbox); have GW219 := a_ (bsg hg HB.out); have GE219 := a_ (bsg hg HB.out); replace HB := a_ (below_step (by repeat first | (with_reducible first | exact HB.out | refine bz ?_ (by assumption) | apply bA | apply bN | apply bD) | exact HB.out) hb); have NB218_219 := a_ (nel hg BK218.out); have NB219_218 := a_ (nle hg BK218.out); replace BK218 := a_ (blk_below (pk BK218.out) hb); clear hb hbox hg; have hnb8 := NB219_218.out; have hnc8 := NB218_219.out; have hcz9_0 : _ = some (Value.int .i64 0) := (blk_cell BK219.out 0).trans rfl; have hcz9_1 : _ = some (Value.int .i64 0) := (blk_cell BK219.out 1).trans rfl; have hcz9_2 : _ = some (Value.int .i64 0) := (blk_cell BK219.out 2).trans rfl; have hcz9_3 : _ = some (Value.int .i64 0) := (blk_cell BK219.out 3).trans rfl; have hcz9_4 : _ = some (Value.int .i64 0) := (blk_cell BK219.out 4).trans rfl; have hcz9_5 : _ = some (Value.int .i64 0) := (blk_cell BK219.out 5).trans rfl; have hcz9_6 : _ = some (Value.int .i64 0) := (blk_cell BK219.out 6).trans rfl; have hfz9_0 := blk_frozen BK219.out 0; have hfz9_1 := blk_frozen BK219.out 1; have hfz9_2 := blk_frozen BK219.out 2; have hfz9_3 := blk_frozen BK219.out 3; have hfz9_4 := blk_frozen BK219.out 4; have hfz9_5 := blk_frozen BK219.out 5; have hfz9_6 := blk_frozen BK219.out 6))
  go_loopg [7, 17] k (fun kq v7 v17 w' => ∃ (x7_1 : Bool) (x17_1 : Int) (x219000_1 : Int) (x219001_1 : Int) (x219002_1 : Int) (x219003_1 : Int) (x219004_1 : Int) (x219005_1 : Int) (x219006_1 : Int) (x220000_1 : Int) (x220001_1 : Int) (x220002_1 : Int) (x220003_1 : Int) (x220004_1 : Int) (x220005_1 : Int) (x220006_1 : Int), v7 = .bool x7_1 ∧ v17 = .int .i64 x17_1 ∧ Aside0 (spec_LoopAt.l0 kq l0 a1 x7_1 l0 (l0.length : Int) x17_1 x220000_1 x220001_1 x220002_1 x220003_1 x220004_1 x220005_1 x220006_1 = some (r1, r2, r3, r4, r5, r6, r7, r8)) ∧ Aside0 (kq ≤ k) ∧ Aside0 (w'.heap[gb218]? = some (.cells #[.int .i64 x219000_1, .int .i64 x219001_1, .int .i64 x219002_1, .int .i64 x219003_1, .int .i64 x219004_1, .int .i64 x219005_1, .int .i64 x219006_1] 30 (0, 0))) ∧ Aside0 (w'.heap[gb219]? = some (.cells #[.int .i64 x220000_1, .int .i64 x220001_1, .int .i64 x220002_1, .int .i64 x220003_1, .int .i64 x220004_1, .int .i64 x220005_1, .int .i64 x220006_1] 30 (0, 0))) ∧ Aside0 (Below w.heap.size w w'))
  case atStart => exact ⟨(false), (0), (0), (0), (0), (0), (0), (0), (0), (0), (0), (0), (0), (0), (0), (0), (by first | rfl | (simp; done) | (simp [*]; done)), (by first | rfl | (simp; done) | (simp [*]; done)), H', ⟨Nat.le_refl _⟩, ⟨by refine pk ?_; refine blk_far ?_ NB218_219.out _; refine pk ?_; refine blk_far ?_ NB218_219.out _; refine pk ?_; refine blk_far ?_ NB218_219.out _; refine pk ?_; refine blk_far ?_ NB218_219.out _; refine pk ?_; refine blk_far ?_ NB218_219.out _; refine pk ?_; refine blk_far ?_ NB218_219.out _; refine pk ?_; refine blk_far ?_ NB218_219.out _; refine pk ?_; exact BK218.out⟩, ⟨by refine pk ?_; refine blk_put (cs := #[.int .i64 0, .int .i64 0, .int .i64 0, .int .i64 0, .int .i64 0, .int .i64 0, .int .i64 0]) ?_ 6 _ rfl; refine pk ?_; refine blk_put (cs := #[.int .i64 0, .int .i64 0, .int .i64 0, .int .i64 0, .int .i64 0, .int .i64 0, .int .i64 0]) ?_ 5 _ rfl; refine pk ?_; refine blk_put (cs := #[.int .i64 0, .int .i64 0, .int .i64 0, .int .i64 0, .int .i64 0, .int .i64 0, .int .i64 0]) ?_ 4 _ rfl; refine pk ?_; refine blk_put (cs := #[.int .i64 0, .int .i64 0, .int .i64 0, .int .i64 0, .int .i64 0, .int .i64 0, .int .i64 0]) ?_ 3 _ rfl; refine pk ?_; refine blk_put (cs := #[.int .i64 0, .int .i64 0, .int .i64 0, .int .i64 0, .int .i64 0, .int .i64 0, .int .i64 0]) ?_ 2 _ rfl; refine pk ?_; refine blk_put (cs := #[.int .i64 0, .int .i64 0, .int .i64 0, .int .i64 0, .int .i64 0, .int .i64 0, .int .i64 0]) ?_ 1 _ rfl; refine pk ?_; refine blk_put (cs := #[.int .i64 0, .int .i64 0, .int .i64 0, .int .i64 0, .int .i64 0, .int .i64 0, .int .i64 0]) ?_ 0 _ rfl; refine pk ?_; exact BK219.out⟩, ⟨by repeat first | (with_reducible first | exact HB.out | refine bz ?_ (by assumption) | apply bA | apply bN | apply bD) | exact HB.out⟩⟩
  case round =>
   clear H'
   try clear c1
   try clear p2
   try clear c3
   try clear c3b0
   try clear c3b1
   try clear c8
   try clear hcz5_0
   try clear hcz5_1
   try clear hcz5_2
   try clear hcz5_3
   try clear hcz5_4
   try clear hcz5_5
   try clear hcz5_6
   try clear hcz9_0
   try clear hcz9_1
   try clear hcz9_2
   try clear hcz9_3
   try clear hcz9_4
   try clear hcz9_5
   try clear hcz9_6
   try clear hfz5_0
   try clear hfz5_1
   try clear hfz5_2
   try clear hfz5_3
   try clear hfz5_4
   try clear hfz5_5
   try clear hfz5_6
   try clear hfz9_0
   try clear hfz9_1
   try clear hfz9_2
   try clear hfz9_3
   try clear hfz9_4
   try clear hfz9_5
   try clear hfz9_6
   obtain ⟨x7_1, x17_1, x219000_1, x219001_1, x219002_1, x219003_1, x219004_1, x219005_1, x219006_1, x220000_1, x220001_1, x220002_1, x220003_1, x220004_1, x220005_1, x220006_1, rfl, rfl, HA, HK1, BK218, BK219, HB⟩ := hrel
   cases gk with
   | zero => exact absurd HA.out (by simp [spec_LoopAt.l0])
   | succ k1 =>
    have H := HA.out
    clear HA
    simp only [spec_LoopAt.l0] at H
    by_cases c10 : x17_1 < (l0.length : Int)
    ·rw [if_pos c10] at H
     have c10b0 : decide (x17_1 < (l0.length : Int)) = true := decide_eq_true c10
     clear c10
     by_cases c11 : 0 ≤ x17_1
     ·rw [if_pos c11] at H
      have c11b0 : decide (0 ≤ x17_1) = true := decide_eq_true c11
      clear c11
      by_cases c12 : x17_1 < (l0.length : Int)
      ·rw [if_pos c12] at H
       have c12b0 : decide (x17_1 < (l0.length : Int)) = true := decide_eq_true c12
       clear c12
       have HC13 := Aside0.mk H
       clear H
       have p220 : 0 ≤ (x17_1 : Int) := of_decide_eq_true (by first | (with_reducible assumption) | assumption)
       have q220 : x17_1 < (l0.length : Int) := of_decide_eq_true (by first | (with_reducible assumption) | assumption)
       obtain ⟨ad220, e220, hx220_0, hx220_1, hx220_2, hx220_3, hx220_4, hx220_5, hx220_6, hx220_7⟩ := at_T45 HR0.out x17_1 p220 q220
       cases e220
       replace hx220_0 := (HB.out.cell (World.block_lt_of_cell? w _ hx220_0)).trans hx220_0
       replace hx220_1 := (HB.out.cell (World.block_lt_of_cell? w _ hx220_1)).trans hx220_1
       replace hx220_2 := (HB.out.cell (World.block_lt_of_cell? w _ hx220_2)).trans hx220_2
       replace hx220_3 := (HB.out.cell (World.block_lt_of_cell? w _ hx220_3)).trans hx220_3
       replace hx220_4 := (HB.out.cell (World.block_lt_of_cell? w _ hx220_4)).trans hx220_4
       replace hx220_5 := (HB.out.cell (World.block_lt_of_cell? w _ hx220_5)).trans hx220_5
       replace hx220_6 := (HB.out.cell (World.block_lt_of_cell? w _ hx220_6)).trans hx220_6
       replace hx220_7 := (HB.out.cell (World.block_lt_of_cell? w _ hx220_7)).trans hx220_7
       replace p220 := eq_true p220
       replace q220 := eq_true q220
       go_upto_region 8 with (first | ((with_reducible refine gate_dst (N := 9) rfl ?_); refine box_event ?hg (N := 9) ?hd (cs := #[.int .i64 0, .int .i64 0, .int .i64 0, .int .i64 0, .int .i64 0, .int .i64 0, .int .i64 0, .int .i64 0]) (t := 45) ?hr ?_; (case hd => rfl); (case hg => rfl); (case hr => first | (go_simp; done) | (go_simp; rfl)); intro gb221 hg w14 hbox hb; have BK221 := a_ (hbox); have GW221 := a_ (bsg hg HB.out); have GE221 := a_ (bsg hg HB.out); replace HB := a_ (below_step (by repeat first | (with_reducible first | exact HB.out | refine bz ?_ (by assumption) | apply bA | apply bN | apply bD) | exact HB.out) hb); have NB218_221 := a_ (nel hg BK218.out); have NB221_218 := a_ (nle hg BK218.out); replace BK218 := a_ (blk_below (pk BK218.out) hb); have NB219_221 := a_ (nel hg BK219.out); have NB221_219 := a_ (nle hg BK219.out); replace BK219 := a_ (blk_below (pk BK219.out) hb); clear hb hbox hg; have hnb15 := NB221_218.out; have hnc15 := NB218_221.out; have hnb16 := NB221_219.out; have hnc16 := NB219_221.out; have hcz17_0 : _ = some (Value.int .i64 0) := (blk_cell BK221.out 0).trans rfl; have hcz17_1 : _ = some (Value.int .i64 0) := (blk_cell BK221.out 1).trans rfl; have hcz17_2 : _ = some (Value.int .i64 0) := (blk_cell BK221.out 2).trans rfl; have hcz17_3 : _ = some (Value.int .i64 0) := (blk_cell BK221.out 3).trans rfl; have hcz17_4 : _ = some (Value.int .i64 0) := (blk_cell BK221.out 4).trans rfl; have hcz17_5 : _ = some (Value.int .i64 0) := (blk_cell BK221.out 5).trans rfl; have hcz17_6 : _ = some (Value.int .i64 0) := (blk_cell BK221.out 6).trans rfl; have hcz17_7 : _ = some (Value.int .i64 0) := (blk_cell BK221.out 7).trans rfl; have hfz17_0 := blk_frozen BK221.out 0; have hfz17_1 := blk_frozen BK221.out 1; have hfz17_2 := blk_frozen BK221.out 2; have hfz17_3 := blk_frozen BK221.out 3; have hfz17_4 := blk_frozen BK221.out 4; have hfz17_5 := blk_frozen BK221.out 5; have hfz17_6 := blk_frozen BK221.out 6; have hfz17_7 := blk_frozen BK221.out 7))
       (try simp only [Act.put, List.setIfInBounds_toArray, List.set_cons_zero, List.set_cons_succ])
       go_cut [40] (fun v40 wc => ∃ (kq : Nat) (x40_12 : Bool), v40 = .bool x40_12 ∧ Aside0 (spec_LoopAt.j1 kq l0 a1 x7_1 l0 (l0.length : Int) x17_1 x40_12 x220000_1 x220001_1 x220002_1 x220003_1 x220004_1 x220005_1 x220006_1 ((rd_T45 l0 x17_1).f0) ((rd_T45 l0 x17_1).f1.f0) ((rd_T45 l0 x17_1).f1.f1) ((rd_T45 l0 x17_1).f1.f2) ((rd_T45 l0 x17_1).f1.f3) ((rd_T45 l0 x17_1).f1.f4) ((rd_T45 l0 x17_1).f1.f5) ((rd_T45 l0 x17_1).f1.f6) = some (r1, r2, r3, r4, r5, r6, r7, r8)) ∧ Aside0 (kq ≤ k1) ∧ Aside0 (wc.heap[gb218]? = some (.cells #[.int .i64 x219000_1, .int .i64 x219001_1, .int .i64 x219002_1, .int .i64 x219003_1, .int .i64 x219004_1, .int .i64 x219005_1, .int .i64 x219006_1] 30 (0, 0))) ∧ Aside0 (wc.heap[gb219]? = some (.cells #[.int .i64 x220000_1, .int .i64 x220001_1, .int .i64 x220002_1, .int .i64 x220003_1, .int .i64 x220004_1, .int .i64 x220005_1, .int .i64 x220006_1] 30 (0, 0))) ∧ Aside0 (wc.heap[gb221]? = some (.cells #[.int .i64 ((rd_T45 l0 x17_1).f0), .int .i64 ((rd_T45 l0 x17_1).f1.f0), .int .i64 ((rd_T45 l0 x17_1).f1.f1), .int .i64 ((rd_T45 l0 x17_1).f1.f2), .int .i64 ((rd_T45 l0 x17_1).f1.f3), .int .i64 ((rd_T45 l0 x17_1).f1.f4), .int .i64 ((rd_T45 l0 x17_1).f1.f5), .int .i64 ((rd_T45 l0 x17_1).f1.f6)] 45 (0, 0))) ∧ Aside0 (Below w.heap.size w wc))
       case first =>
        have H := HC13.out
        clear HC13
        replace H := Option.bind_eq_some_iff.mp H
        obtain ⟨t222, A180, H⟩ := H
        replace H : (if t222 = true then (if x17_1 > 0 then (if 0 ≤ (wrap64 (x17_1 - 1)) then (if (wrap64 (x17_1 - 1)) < (l0.length : Int) then (spec_LoopAt.j1 k1 l0 a1 x7_1 l0 (l0.length : Int) x17_1 (decide (((rd_T45 l0 (wrap64 (x17_1 - 1))).f0) ≥ ((rd_T45 l0 x17_1).f0))) x220000_1 x220001_1 x220002_1 x220003_1 x220004_1 x220005_1 x220006_1 ((rd_T45 l0 x17_1).f0) ((rd_T45 l0 x17_1).f1.f0) ((rd_T45 l0 x17_1).f1.f1) ((rd_T45 l0 x17_1).f1.f2) ((rd_T45 l0 x17_1).f1.f3) ((rd_T45 l0 x17_1).f1.f4) ((rd_T45 l0 x17_1).f1.f5) ((rd_T45 l0 x17_1).f1.f6)) else (none)) else (none)) else (spec_LoopAt.j1 k1 l0 a1 x7_1 l0 (l0.length : Int) x17_1 false x220000_1 x220001_1 x220002_1 x220003_1 x220004_1 x220005_1 x220006_1 ((rd_T45 l0 x17_1).f0) ((rd_T45 l0 x17_1).f1.f0) ((rd_T45 l0 x17_1).f1.f1) ((rd_T45 l0 x17_1).f1.f2) ((rd_T45 l0 x17_1).f1.f3) ((rd_T45 l0 x17_1).f1.f4) ((rd_T45 l0 x17_1).f1.f5) ((rd_T45 l0 x17_1).f1.f6))) else (spec_LoopAt.j1 k1 l0 a1 x7_1 l0 (l0.length : Int) x17_1 true x220000_1 x220001_1 x220002_1 x220003_1 x220004_1 x220005_1 x220006_1 ((rd_T45 l0 x17_1).f0) ((rd_T45 l0 x17_1).f1.f0) ((rd_T45 l0 x17_1).f1.f1) ((rd_T45 l0 x17_1).f1.f2) ((rd_T45 l0 x17_1).f1.f3) ((rd_T45 l0 x17_1).f1.f4) ((rd_T45 l0 x17_1).f1.f5) ((rd_T45 l0 x17_1).f1.f6))) = some (r1, r2, r3, r4, r5, r6, r7, r8) := H
        have A18 := Aside0.mk A180
        clear A180
        by_cases c19 : t222 = true
        ·subst c19
         have H1 : (if x17_1 > 0 then (if 0 ≤ (wrap64 (x17_1 - 1)) then (if (wrap64 (x17_1 - 1)) < (l0.length : Int) then (spec_LoopAt.j1 k1 l0 a1 x7_1 l0 (l0.length : Int) x17_1 (decide (((rd_T45 l0 (wrap64 (x17_1 - 1))).f0) ≥ ((rd_T45 l0 x17_1).f0))) x220000_1 x220001_1 x220002_1 x220003_1 x220004_1 x220005_1 x220006_1 ((rd_T45 l0 x17_1).f0) ((rd_T45 l0 x17_1).f1.f0) ((rd_T45 l0 x17_1).f1.f1) ((rd_T45 l0 x17_1).f1.f2) ((rd_T45 l0 x17_1).f1.f3) ((rd_T45 l0 x17_1).f1.f4) ((rd_T45 l0 x17_1).f1.f5) ((rd_T45 l0 x17_1).f1.f6)) else (none)) else (none)) else (spec_LoopAt.j1 k1 l0 a1 x7_1 l0 (l0.length : Int) x17_1 false x220000_1 x220001_1 x220002_1 x220003_1 x220004_1 x220005_1 x220006_1 ((rd_T45 l0 x17_1).f0) ((rd_T45 l0 x17_1).f1.f0) ((rd_T45 l0 x17_1).f1.f1) ((rd_T45 l0 x17_1).f1.f2) ((rd_T45 l0 x17_1).f1.f3) ((rd_T45 l0 x17_1).f1.f4) ((rd_T45 l0 x17_1).f1.f5) ((rd_T45 l0 x17_1).f1.f6))) = some (r1, r2, r3, r4, r5, r6, r7, r8) := by rw [if_pos rfl] at H; exact H
         clear H
         have H := H1
         clear H1
         by_cases c20 : x17_1 > 0
         ·rw [if_pos c20] at H
          have c20b0 : decide (0 < x17_1) = true := decide_eq_true c20
          clear c20
          (first | rw [c20b0] | (simp only [i64_w, i32_w]; rw [c20b0]) | skip)
          obtain ⟨ji21, hji21⟩ : ∃ j_ : Int, (wrap64 (x17_1 - 1)) = j_ := ⟨_, rfl⟩
          replace H : (if 0 ≤ (ji21) then (if (ji21) < (l0.length : Int) then (spec_LoopAt.j1 k1 l0 a1 x7_1 l0 (l0.length : Int) x17_1 (decide (((rd_T45 l0 (ji21)).f0) ≥ ((rd_T45 l0 x17_1).f0))) x220000_1 x220001_1 x220002_1 x220003_1 x220004_1 x220005_1 x220006_1 ((rd_T45 l0 x17_1).f0) ((rd_T45 l0 x17_1).f1.f0) ((rd_T45 l0 x17_1).f1.f1) ((rd_T45 l0 x17_1).f1.f2) ((rd_T45 l0 x17_1).f1.f3) ((rd_T45 l0 x17_1).f1.f4) ((rd_T45 l0 x17_1).f1.f5) ((rd_T45 l0 x17_1).f1.f6)) else (none)) else (none)) = some (r1, r2, r3, r4, r5, r6, r7, r8) := by first | (rw [hji21] at H; exact H) | (simp only [hji21] at H ⊢; exact H)
          (try rw [hji21] at A18)
          have hji21w : (IntKind.i64.wrap (x17_1 - 1)) = ji21 := (i64_w _).trans hji21
          by_cases c22 : 0 ≤ (ji21)
          ·rw [if_pos c22] at H
           have c22b0 : decide (0 ≤ (ji21)) = true := decide_eq_true c22
           clear c22
           by_cases c23 : (ji21) < (l0.length : Int)
           ·rw [if_pos c23] at H
            have c23b0 : decide ((ji21) < (l0.length : Int)) = true := decide_eq_true c23
            clear c23
            have H' := Aside0.mk H
            clear H
            try go_wp2
            have n0_ : Aside0 (((((((((w14.setCell ⟨gb221, 0, none⟩ (.int .i64 ((rd_T45 l0 x17_1).f0))).setCell ⟨gb221, 1, none⟩ (.int .i64 ((rd_T45 l0 x17_1).f1.f0))).setCell ⟨gb221, 2, none⟩ (.int .i64 ((rd_T45 l0 x17_1).f1.f1))).setCell ⟨gb221, 3, none⟩ (.int .i64 ((rd_T45 l0 x17_1).f1.f2))).setCell ⟨gb221, 4, none⟩ (.int .i64 ((rd_T45 l0 x17_1).f1.f3))).setCell ⟨gb221, 5, none⟩ (.int .i64 ((rd_T45 l0 x17_1).f1.f4))).setCell ⟨gb221, 6, none⟩ (.int .i64 ((rd_T45 l0 x17_1).f1.f5))).setCell ⟨gb221, 7, none⟩ (.int .i64 ((rd_T45 l0 x17_1).f1.f6))).heap[gb218]? = some (.cells #[.int .i64 x219000_1, .int .i64 x219001_1, .int .i64 x219002_1, .int .i64 x219003_1, .int .i64 x219004_1, .int .i64 x219005_1, .int .i64 x219006_1] 30 (0, 0))) := ⟨by refine pk ?_; refine blk_far ?_ NB218_221.out _; refine pk ?_; refine blk_far ?_ NB218_221.out _; refine pk ?_; refine blk_far ?_ NB218_221.out _; refine pk ?_; refine blk_far ?_ NB218_221.out _; refine pk ?_; refine blk_far ?_ NB218_221.out _; refine pk ?_; refine blk_far ?_ NB218_221.out _; refine pk ?_; refine blk_far ?_ NB218_221.out _; refine pk ?_; refine blk_far ?_ NB218_221.out _; refine pk ?_; exact BK218.out⟩
            have n1_ : Aside0 (((((((((w14.setCell ⟨gb221, 0, none⟩ (.int .i64 ((rd_T45 l0 x17_1).f0))).setCell ⟨gb221, 1, none⟩ (.int .i64 ((rd_T45 l0 x17_1).f1.f0))).setCell ⟨gb221, 2, none⟩ (.int .i64 ((rd_T45 l0 x17_1).f1.f1))).setCell ⟨gb221, 3, none⟩ (.int .i64 ((rd_T45 l0 x17_1).f1.f2))).setCell ⟨gb221, 4, none⟩ (.int .i64 ((rd_T45 l0 x17_1).f1.f3))).setCell ⟨gb221, 5, none⟩ (.int .i64 ((rd_T45 l0 x17_1).f1.f4))).setCell ⟨gb221, 6, none⟩ (.int .i64 ((rd_T45 l0 x17_1).f1.f5))).setCell ⟨gb221, 7, none⟩ (.int .i64 ((rd_T45 l0 x17_1).f1.f6))).heap[gb219]? = some (.cells #[.int .i64 x220000_1, .int .i64 x220001_1, .int .i64 x220002_1, .int .i64 x220003_1, .int .i64 x220004_1, .int .i64 x220005_1, .int .i64 x220006_1] 30 (0, 0))) := ⟨by refine pk ?_; refine blk_far ?_ NB219_221.out _; refine pk ?_; refine blk_far ?_ NB219_221.out _; refine pk ?_; refine blk_far ?_ NB219_221.out _; refine pk ?_; refine blk_far ?_ NB219_221.out _; refine pk ?_; refine blk_far ?_ NB219_221.out _; refine pk ?_; refine blk_far ?_ NB219_221.out _; refine pk ?_; refine blk_far ?_ NB219_221.out _; refine pk ?_; refine blk_far ?_ NB219_221.out _; refine pk ?_; exact BK219.out⟩
            have n2_ : Aside0 (((((((((w14.setCell ⟨gb221, 0, none⟩ (.int .i64 ((rd_T45 l0 x17_1).f0))).setCell ⟨gb221, 1, none⟩ (.int .i64 ((rd_T45 l0 x17_1).f1.f0))).setCell ⟨gb221, 2, none⟩ (.int .i64 ((rd_T45 l0 x17_1).f1.f1))).setCell ⟨gb221, 3, none⟩ (.int .i64 ((rd_T45 l0 x17_1).f1.f2))).setCell ⟨gb221, 4, none⟩ (.int .i64 ((rd_T45 l0 x17_1).f1.f3))).setCell ⟨gb221, 5, none⟩ (.int .i64 ((rd_T45 l0 x17_1).f1.f4))).setCell ⟨gb221, 6, none⟩ (.int .i64 ((rd_T45 l0 x17_1).f1.f5))).setCell ⟨gb221, 7, none⟩ (.int .i64 ((rd_T45 l0 x17_1).f1.f6))).heap[gb221]? = some (.cells #[.int .i64 ((rd_T45 l0 x17_1).f0), .int .i64 ((rd_T45 l0 x17_1).f1.f0), .int .i64 ((rd_T45 l0 x17_1).f1.f1), .int .i64 ((rd_T45 l0 x17_1).f1.f2), .int .i64 ((rd_T45 l0 x17_1).f1.f3), .int .i64 ((rd_T45 l0 x17_1).f1.f4), .int .i64 ((rd_T45 l0 x17_1).f1.f5), .int .i64 ((rd_T45 l0 x17_1).f1.f6)] 45 (0, 0))) := ⟨by refine pk ?_; refine blk_put (cs := #[.int .i64 ((rd_T45 l0 x17_1).f0), .int .i64 ((rd_T45 l0 x17_1).f1.f0), .int .i64 ((rd_T45 l0 x17_1).f1.f1), .int .i64 ((rd_T45 l0 x17_1).f1.f2), .int .i64 ((rd_T45 l0 x17_1).f1.f3), .int .i64 ((rd_T45 l0 x17_1).f1.f4), .int .i64 ((rd_T45 l0 x17_1).f1.f5), .int .i64 0]) ?_ 7 _ rfl; refine pk ?_; refine blk_put (cs := #[.int .i64 ((rd_T45 l0 x17_1).f0), .int .i64 ((rd_T45 l0 x17_1).f1.f0), .int .i64 ((rd_T45 l0 x17_1).f1.f1), .int .i64 ((rd_T45 l0 x17_1).f1.f2), .int .i64 ((rd_T45 l0 x17_1).f1.f3), .int .i64 ((rd_T45 l0 x17_1).f1.f4), .int .i64 0, .int .i64 0]) ?_ 6 _ rfl; refine pk ?_; refine blk_put (cs := #[.int .i64 ((rd_T45 l0 x17_1).f0), .int .i64 ((rd_T45 l0 x17_1).f1.f0), .int .i64 ((rd_T45 l0 x17_1).f1.f1), .int .i64 ((rd_T45 l0 x17_1).f1.f2), .int .i64 ((rd_T45 l0 x17_1).f1.f3), .int .i64 0, .int .i64 0, .int .i64 0]) ?_ 5 _ rfl; refine pk ?_; refine blk_put (cs := #[.int .i64 ((rd_T45 l0 x17_1).f0), .int .i64 ((rd_T45 l0 x17_1).f1.f0), .int .i64 ((rd_T45 l0 x17_1).f1.f1), .int .i64 ((rd_T45 l0 x17_1).f1.f2), .int .i64 0, .int .i64 0, .int .i64 0, .int .i64 0]) ?_ 4 _ rfl; refine pk ?_; refine blk_put (cs := #[.int .i64 ((rd_T45 l0 x17_1).f0), .int .i64 ((rd_T45 l0 x17_1).f1.f0), .int .i64 ((rd_T45 l0 x17_1).f1.f1), .int .i64 0, .int .i64 0, .int .i64 0, .int .i64 0, .int .i64 0]) ?_ 3 _ rfl; refine pk ?_; refine blk_put (cs := #[.int .i64 ((rd_T45 l0 x17_1).f0), .int .i64 ((rd_T45 l0 x17_1).f1.f0), .int .i64 0, .int .i64 0, .int .i64 0, .int .i64 0, .int .i64 0, .int .i64 0]) ?_ 2 _ rfl; refine pk ?_; refine blk_put (cs := #[.int .i64 ((rd_T45 l0 x17_1).f0), .int .i64 0, .int .i64 0, .int .i64 0, .int .i64 0, .int .i64 0, .int .i64 0, .int .i64 0]) ?_ 1 _ rfl; refine pk ?_; refine blk_put (cs := #[.int .i64 0, .int .i64 0, .int .i64 0, .int .i64 0, .int .i64 0, .int .i64 0, .int .i64 0, .int .i64 0]) ?_ 0 _ rfl; refine pk ?_; exact BK221.out⟩
            have n3_ : Aside0 (Below w.heap.size w ((((((((w14.setCell ⟨gb221, 0, none⟩ (.int .i64 ((rd_T45 l0 x17_1).f0))).setCell ⟨gb221, 1, none⟩ (.int .i64 ((rd_T45 l0 x17_1).f1.f0))).setCell ⟨gb221, 2, none⟩ (.int .i64 ((rd_T45 l0 x17_1).f1.f1))).setCell ⟨gb221, 3, none⟩ (.int .i64 ((rd_T45 l0 x17_1).f1.f2))).setCell ⟨gb221, 4, none⟩ (.int .i64 ((rd_T45 l0 x17_1).f1.f3))).setCell ⟨gb221, 5, none⟩ (.int .i64 ((rd_T45 l0 x17_1).f1.f4))).setCell ⟨gb221, 6, none⟩ (.int .i64 ((rd_T45 l0 x17_1).f1.f5))).setCell ⟨gb221, 7, none⟩ (.int .i64 ((rd_T45 l0 x17_1).f1.f6)))) := ⟨by repeat first | (with_reducible first | exact HB.out | refine bz ?_ (by assumption) | apply bA | apply bN | apply bD) | exact HB.out⟩
            (try clear BK218)
            (try clear BK219)
            (try clear BK221)
            (try clear HB)
            generalize ((((((((w14.setCell ⟨gb221, 0, none⟩ (.int .i64 ((rd_T45 l0 x17_1).f0))).setCell ⟨gb221, 1, none⟩ (.int .i64 ((rd_T45 l0 x17_1).f1.f0))).setCell ⟨gb221, 2, none⟩ (.int .i64 ((rd_T45 l0 x17_1).f1.f1))).setCell ⟨gb221, 3, none⟩ (.int .i64 ((rd_T45 l0 x17_1).f1.f2))).setCell ⟨gb221, 4, none⟩ (.int .i64 ((rd_T45 l0 x17_1).f1.f3))).setCell ⟨gb221, 5, none⟩ (.int .i64 ((rd_T45 l0 x17_1).f1.f4))).setCell ⟨gb221, 6, none⟩ (.int .i64 ((rd_T45 l0 x17_1).f1.f5))).setCell ⟨gb221, 7, none⟩ (.int .i64 ((rd_T45 l0 x17_1).f1.f6))) = w24 at n0_ n1_ n2_ n3_ ⊢
            have BK218 := n0_
            have BK219 := n1_
            have BK221 := n2_
            have HB := n3_
            clear n0_ n1_ n2_ n3_
            replace BK218 := a_ (blk_drew BK218.out)
            replace BK219 := a_ (blk_drew BK219.out)
            replace BK221 := a_ (blk_drew BK221.out)
            replace HB := a_ (below_drew1 HB.out)
            have p223 : 0 ≤ ((ji21) : Int) := of_decide_eq_true (by first | (with_reducible assumption) | assumption)
            have q223 : (ji21) < (l0.length : Int) := of_decide_eq_true (by first | (with_reducible assumption) | assumption)
            obtain ⟨ad223, e223, hx223_0, hx223_1, hx223_2, hx223_3, hx223_4, hx223_5, hx223_6, hx223_7⟩ := at_T45 HR0.out (ji21) p223 q223
            have hw223_7 := hx223_7
            have hw223_6 := hx223_6
            have hw223_5 := hx223_5
            have hw223_4 := hx223_4
            have hw223_3 := hx223_3
            have hw223_2 := hx223_2
            have hw223_1 := hx223_1
            have hw223_0 := hx223_0
            obtain rfl : ad220 = ad223 := (by injection e223)
            replace hx223_0 := (HB.out.cell (World.block_lt_of_cell? w _ hx223_0)).trans hx223_0
            replace hx223_1 := (HB.out.cell (World.block_lt_of_cell? w _ hx223_1)).trans hx223_1
            replace hx223_2 := (HB.out.cell (World.block_lt_of_cell? w _ hx223_2)).trans hx223_2
            replace hx223_3 := (HB.out.cell (World.block_lt_of_cell? w _ hx223_3)).trans hx223_3
            replace hx223_4 := (HB.out.cell (World.block_lt_of_cell? w _ hx223_4)).trans hx223_4
            replace hx223_5 := (HB.out.cell (World.block_lt_of_cell? w _ hx223_5)).trans hx223_5
            replace hx223_6 := (HB.out.cell (World.block_lt_of_cell? w _ hx223_6)).trans hx223_6
            replace hx223_7 := (HB.out.cell (World.block_lt_of_cell? w _ hx223_7)).trans hx223_7
            replace p223 := eq_true p223
            replace q223 := eq_true q223
            refine start_ (n := 19) (S := fun w' => w'.cell? ⟨gb221, 0, none⟩ = some (.int .i64 ((rd_T45 l0 x17_1).f0)) ∧ w'.cell? ⟨gb221, 1, none⟩ = some (.int .i64 ((rd_T45 l0 x17_1).f1.f0)) ∧ w'.cell? ⟨gb221, 2, none⟩ = some (.int .i64 ((rd_T45 l0 x17_1).f1.f1)) ∧ w'.cell? ⟨gb221, 3, none⟩ = some (.int .i64 ((rd_T45 l0 x17_1).f1.f2)) ∧ w'.cell? ⟨gb221, 4, none⟩ = some (.int .i64 ((rd_T45 l0 x17_1).f1.f3)) ∧ w'.cell? ⟨gb221, 5, none⟩ = some (.int .i64 ((rd_T45 l0 x17_1).f1.f4)) ∧ w'.cell? ⟨gb221, 6, none⟩ = some (.int .i64 ((rd_T45 l0 x17_1).f1.f5)) ∧ w'.cell? ⟨gb221, 7, none⟩ = some (.int .i64 ((rd_T45 l0 x17_1).f1.f6)) ∧ w'.cell? (ad220.add ((ji21).toNat * 8)) = some (.int .i64 ((rd_T45 l0 (ji21)).f0)) ∧ w'.cell? ⟨(ad220.add (((ji21)).toNat * 8)).block, (ad220.add (((ji21)).toNat * 8)).off + 1, none⟩ = some (.int .i64 ((rd_T45 l0 (ji21)).f1.f0)) ∧ w'.cell? ⟨(ad220.add (((ji21)).toNat * 8)).block, (ad220.add (((ji21)).toNat * 8)).off + 2, none⟩ = some (.int .i64 ((rd_T45 l0 (ji21)).f1.f1)) ∧ w'.cell? ⟨(ad220.add (((ji21)).toNat * 8)).block, (ad220.add (((ji21)).toNat * 8)).off + 3, none⟩ = some (.int .i64 ((rd_T45 l0 (ji21)).f1.f2)) ∧ w'.cell? ⟨(ad220.add (((ji21)).toNat * 8)).block, (ad220.add (((ji21)).toNat * 8)).off + 4, none⟩ = some (.int .i64 ((rd_T45 l0 (ji21)).f1.f3)) ∧ w'.cell? ⟨(ad220.add (((ji21)).toNat * 8)).block, (ad220.add (((ji21)).toNat * 8)).off + 5, none⟩ = some (.int .i64 ((rd_T45 l0 (ji21)).f1.f4)) ∧ w'.cell? ⟨(ad220.add (((ji21)).toNat * 8)).block, (ad220.add (((ji21)).toNat * 8)).off + 6, none⟩ = some (.int .i64 ((rd_T45 l0 (ji21)).f1.f5)) ∧ w'.cell? ⟨(ad220.add (((ji21)).toNat * 8)).block, (ad220.add (((ji21)).toNat * 8)).off + 7, none⟩ = some (.int .i64 ((rd_T45 l0 (ji21)).f1.f6))) (ds := []) #[false, false, false, false, false, false, false, false, false, false, false, false, false, false, false, false, false, false, false] (by kernel_rfl) rfl rfl ⟨(blk_cell BK221.out 0).trans rfl, (blk_cell BK221.out 1).trans rfl, (blk_cell BK221.out 2).trans rfl, (blk_cell BK221.out 3).trans rfl, (blk_cell BK221.out 4).trans rfl, (blk_cell BK221.out 5).trans rfl, (blk_cell BK221.out 6).trans rfl, (blk_cell BK221.out 7).trans rfl, ((HB.out.cell (World.block_lt_of_cell? w _ hw223_0)).trans hw223_0), ((HB.out.cell (World.block_lt_of_cell? w _ hw223_1)).trans hw223_1), ((HB.out.cell (World.block_lt_of_cell? w _ hw223_2)).trans hw223_2), ((HB.out.cell (World.block_lt_of_cell? w _ hw223_3)).trans hw223_3), ((HB.out.cell (World.block_lt_of_cell? w _ hw223_4)).trans hw223_4), ((HB.out.cell (World.block_lt_of_cell? w _ hw223_5)).trans hw223_5), ((HB.out.cell (World.block_lt_of_cell? w _ hw223_6)).trans hw223_6), ((HB.out.cell (World.block_lt_of_cell? w _ hw223_7)).trans hw223_7)⟩ (fun hHeld => ?_); refine with_tabW spec_LoopAt.tab8 spec_LoopAt.bits8 (fun HT_ HW_ => ?_)
            generalize w24.drew = w25 at BK218 BK219 BK221 HB hx223_0 hx223_1 hx223_2 hx223_3 hx223_4 hx223_5 hx223_6 hx223_7 hHeld ⊢
            refine pure_ (i := 0) (N := some 22) (v := ?_) (a' := ?_) #[true, false, false, false, false, false, false, false, false, false, false, false, false, false, false, false, false, false, false] rfl rfl (any_of HT_.out (by kernel_rfl)) (fun _ _ _ h => h) (Or.inl ⟨by rfl, ?_⟩) ?_ ?_
            rotate_left
            ·intro w'
             go_simp
             with_reducible rfl
            rotate_left
            ·simp only [Act.put, List.setIfInBounds_toArray, List.set_cons_zero, List.set_cons_succ, i64_w, i32_w]
             rfl
            refine take_ (i := 1) (N := some 23) (v := ?_) (a' := ?_) #[true, true, false, false, false, false, false, false, false, false, false, false, false, false, false, false, false, false, false] rfl rfl (take_ofW HT_.out HW_.out (by kernel_rfl)) (fun _ _ _ h => h) (Or.inl ⟨by rfl, ?_⟩) hHeld ?_ ?_
            rotate_left
            ·rintro w' ⟨s0, s1, s2, s3, s4, s5, s6, s7, s8, s9, s10, s11, s12, s13, s14, s15⟩
             go_simp
             with_reducible rfl
            rotate_left
            ·simp only [Act.put, List.setIfInBounds_toArray, List.set_cons_zero, List.set_cons_succ, i64_w, i32_w]
             rfl
            refine one_ (i := 2) (N := some 24) #[true, true, true, false, false, false, false, false, false, false, false, false, false, false, false, false, false, false, false] rfl rfl (one_of HT_.out (by kernel_rfl)) (by decide) (fun K hK => ?_)
            refine goes_ Try.func30 (by kernel_rfl) rfl #[.agg #[.int .i64 ((rd_T45 l0 x17_1).f1.f0), .int .i64 ((rd_T45 l0 x17_1).f1.f1), .int .i64 ((rd_T45 l0 x17_1).f1.f2), .int .i64 ((rd_T45 l0 x17_1).f1.f3), .int .i64 ((rd_T45 l0 x17_1).f1.f4), .int .i64 ((rd_T45 l0 x17_1).f1.f5), .int .i64 ((rd_T45 l0 x17_1).f1.f6)]] (by rfl) rfl rfl (by (try simp only [lA, lB, lC]); first | done | rfl | (simp only [lD, lE]; rfl)) ?_
            with_reducible refine (spec_GoodLoop.calls ((rd_T45 l0 x17_1).f1.f0) ((rd_T45 l0 x17_1).f1.f1) ((rd_T45 l0 x17_1).f1.f2) ((rd_T45 l0 x17_1).f1.f3) ((rd_T45 l0 x17_1).f1.f4) ((rd_T45 l0 x17_1).f1.f5) ((rd_T45 l0 x17_1).f1.f6) true _ A18.out).mono ?_
            rintro e w26 ⟨rfl, hb⟩
            refine ⟨_, rfl, ?_⟩
            replace BK218 := a_ (blk_below (pk BK218.out) hb)
            replace BK219 := a_ (blk_below (pk BK219.out) hb)
            replace BK221 := a_ (blk_below (pk BK221.out) hb)
            replace HB := a_ (below_step (by repeat first | (with_reducible first | exact HB.out | refine bz ?_ (by assumption) | apply bA | apply bN | apply bD) | exact HB.out) hb)
            (try clear hb)
            (try clear hb2)
            (try clear hk)
            (try clear hi)
            refine hK.out _ _ ⟨(blk_cell BK221.out 0).trans rfl, (blk_cell BK221.out 1).trans rfl, (blk_cell BK221.out 2).trans rfl, (blk_cell BK221.out 3).trans rfl, (blk_cell BK221.out 4).trans rfl, (blk_cell BK221.out 5).trans rfl, (blk_cell BK221.out 6).trans rfl, (blk_cell BK221.out 7).trans rfl, ((HB.out.cell (World.block_lt_of_cell? w _ hw223_0)).trans hw223_0), ((HB.out.cell (World.block_lt_of_cell? w _ hw223_1)).trans hw223_1), ((HB.out.cell (World.block_lt_of_cell? w _ hw223_2)).trans hw223_2), ((HB.out.cell (World.block_lt_of_cell? w _ hw223_3)).trans hw223_3), ((HB.out.cell (World.block_lt_of_cell? w _ hw223_4)).trans hw223_4), ((HB.out.cell (World.block_lt_of_cell? w _ hw223_5)).trans hw223_5), ((HB.out.cell (World.block_lt_of_cell? w _ hw223_6)).trans hw223_6), ((HB.out.cell (World.block_lt_of_cell? w _ hw223_7)).trans hw223_7)⟩ (fun hHeld => ?_)
            clear hK K
            refine norm_ (a' := ?_) ?_ ?_
            rotate_left
            ·show Act.put _ (some 24) _ = _
             simp only [Act.put, List.setIfInBounds_toArray, List.set_cons_zero, List.set_cons_succ, i64_w, i32_w]
             rfl
            refine pure_ (i := 3) (N := some 25) (v := ?_) (a' := ?_) #[true, true, true, true, false, false, false, false, false, false, false, false, false, false, false, false, false, false, false] rfl rfl (any_of HT_.out (by kernel_rfl)) (fun _ _ _ h => h) (Or.inl ⟨by rfl, ?_⟩) ?_ ?_
            rotate_left
            ·intro w'
             go_simp
             with_reducible rfl
            rotate_left
            ·simp only [Act.put, List.setIfInBounds_toArray, List.set_cons_zero, List.set_cons_succ, i64_w, i32_w]
             rfl
            refine pure_ (i := 4) (N := some 26) (v := ?_) (a' := ?_) #[true, true, true, true, true, false, false, false, false, false, false, false, false, false, false, false, false, false, false] rfl rfl (any_of HT_.out (by kernel_rfl)) (fun _ _ _ h => h) (Or.inl ⟨by rfl, ?_⟩) ?_ ?_
            rotate_left
            ·intro w'
             go_simp
             with_reducible rfl
            rotate_left
            ·simp only [Act.put, List.setIfInBounds_toArray, List.set_cons_zero, List.set_cons_succ, i64_w, i32_w]
             rfl
            refine pure_ (i := 5) (N := some 27) (v := ?_) (a' := ?_) #[true, true, true, true, true, true, false, false, false, false, false, false, false, false, false, false, false, false, false] rfl rfl (any_of HT_.out (by kernel_rfl)) (fun _ _ _ h => h) (Or.inl ⟨by rfl, ?_⟩) ?_ ?_
            rotate_left
            ·intro w'
             go_simp
             with_reducible rfl
            rotate_left
            ·simp only [Act.put, List.setIfInBounds_toArray, List.set_cons_zero, List.set_cons_succ, i64_w, i32_w]
             rfl
            refine pure_ (i := 6) (N := some 28) (v := ?_) (a' := ?_) #[true, true, true, true, true, true, true, false, false, false, false, false, false, false, false, false, false, false, false] rfl rfl (any_of HT_.out (by kernel_rfl)) (fun _ _ _ h => h) (Or.inl ⟨by rfl, ?_⟩) ?_ ?_
            rotate_left
            ·intro w'
             go_simp
             with_reducible rfl
            rotate_left
            ·simp only [Act.put, List.setIfInBounds_toArray, List.set_cons_zero, List.set_cons_succ, i64_w, i32_w]
             rfl
            refine pure_ (i := 7) (N := some 29) (v := ?_) (a' := ?_) #[true, true, true, true, true, true, true, true, false, false, false, false, false, false, false, false, false, false, false] rfl rfl (any_of HT_.out (by kernel_rfl)) (fun _ _ _ h => h) (Or.inl ⟨by rfl, ?_⟩) ?_ ?_
            rotate_left
            ·intro w'
             go_simp
             with_reducible rfl
            rotate_left
            ·simp only [Act.put, List.setIfInBounds_toArray, List.set_cons_zero, List.set_cons_succ, i64_w, i32_w]
             rfl
            refine pure_ (i := 8) (N := some 30) (v := ?_) (a' := ?_) #[true, true, true, true, true, true, true, true, true, false, false, false, false, false, false, false, false, false, false] rfl rfl (any_of HT_.out (by kernel_rfl)) (fun _ _ _ h => h) (Or.inl ⟨by rfl, ?_⟩) ?_ ?_
            rotate_left
            ·intro w'
             go_simp
             with_reducible rfl
            rotate_left
            ·simp only [Act.put, List.setIfInBounds_toArray, List.set_cons_zero, List.set_cons_succ, i64_w, i32_w]
             rfl
            refine pure_ (i := 9) (N := some 31) (v := ?_) (a' := ?_) #[true, true, true, true, true, true, true, true, true, true, false, false, false, false, false, false, false, false, false] rfl rfl (any_of HT_.out (by kernel_rfl)) (fun _ _ _ h => h) (Or.inl ⟨by rfl, ?_⟩) ?_ ?_
            rotate_left
            ·intro w'
             go_simp
             with_reducible rfl
            rotate_left
            ·simp only [Act.put, List.setIfInBounds_toArray, List.set_cons_zero, List.set_cons_succ, i64_w, i32_w]
             rfl
            refine pure_ (i := 10) (N := some 32) (v := ?_) (a' := ?_) #[true, true, true, true, true, true, true, true, true, true, true, false, false, false, false, false, false, false, false] rfl rfl (any_of HT_.out (by kernel_rfl)) (fun _ _ _ h => h) (Or.inl ⟨by rfl, ?_⟩) ?_ ?_
            rotate_left
            ·intro w'
             go_simp
             with_reducible rfl
            rotate_left
            ·simp only [Act.put, List.setIfInBounds_toArray, List.set_cons_zero, List.set_cons_succ, i64_w, i32_w]
             rfl
            refine pure_ (i := 11) (N := some 33) (v := ?_) (a' := ?_) #[true, true, true, true, true, true, true, true, true, true, true, true, false, false, false, false, false, false, false] rfl rfl (any_of HT_.out (by kernel_rfl)) (fun _ _ _ h => h) (Or.inl ⟨by rfl, ?_⟩) ?_ ?_
            rotate_left
            ·intro w'
             go_simp
             with_reducible rfl
            rotate_left
            ·simp only [Act.put, List.setIfInBounds_toArray, List.set_cons_zero, List.set_cons_succ, i64_w, i32_w]
             rfl
            refine pure_ (i := 12) (N := some 34) (v := ?_) (a' := ?_) #[true, true, true, true, true, true, true, true, true, true, true, true, true, false, false, false, false, false, false] rfl rfl (any_of HT_.out (by kernel_rfl)) (fun _ _ _ h => h) (Or.inl ⟨by rfl, ?_⟩) ?_ ?_
            rotate_left
            ·intro w'
             go_simp
             with_reducible rfl
            rotate_left
            ·simp only [Act.put, List.setIfInBounds_toArray, List.set_cons_zero, List.set_cons_succ, i64_w, i32_w]
             rfl
            refine pure_ (i := 14) (N := some 36) (v := ?_) (a' := ?_) #[true, true, true, true, true, true, true, true, true, true, true, true, true, false, true, false, false, false, false] rfl rfl (any_of HT_.out (by kernel_rfl)) (fun _ _ _ h => h) (Or.inl ⟨by rfl, ?_⟩) ?_ ?_
            rotate_left
            ·intro w'
             go_simp
             with_reducible rfl
            rotate_left
            ·simp only [Act.put, List.setIfInBounds_toArray, List.set_cons_zero, List.set_cons_succ, i64_w, i32_w]
             rfl
            refine take_ (i := 13) (N := some 35) (v := ?_) (a' := ?_) #[true, true, true, true, true, true, true, true, true, true, true, true, true, true, true, false, false, false, false] rfl rfl (take_ofW HT_.out HW_.out (by kernel_rfl)) (fun _ _ _ h => h) (Or.inl ⟨by rfl, ?_⟩) hHeld ?_ ?_
            rotate_left
            ·rintro w' ⟨s0, s1, s2, s3, s4, s5, s6, s7, s8, s9, s10, s11, s12, s13, s14, s15⟩
             go_simp
             with_reducible rfl
            rotate_left
            ·simp only [Act.put, List.setIfInBounds_toArray, List.set_cons_zero, List.set_cons_succ, i64_w, i32_w]
             rfl
            refine take_ (i := 15) (N := some 37) (v := ?_) (a' := ?_) #[true, true, true, true, true, true, true, true, true, true, true, true, true, true, true, true, false, false, false] rfl rfl (take_ofW HT_.out HW_.out (by kernel_rfl)) (fun _ _ _ h => h) (Or.inl ⟨by rfl, ?_⟩) hHeld ?_ ?_
            rotate_left
            ·rintro w' ⟨s0, s1, s2, s3, s4, s5, s6, s7, s8, s9, s10, s11, s12, s13, s14, s15⟩
             go_simp
             with_reducible rfl
            rotate_left
            ·simp only [Act.put, List.setIfInBounds_toArray, List.set_cons_zero, List.set_cons_succ, i64_w, i32_w]
             rfl
            refine pure_ (i := 16) (N := some 38) (v := ?_) (a' := ?_) #[true, true, true, true, true, true, true, true, true, true, true, true, true, true, true, true, true, false, false] rfl rfl (any_of HT_.out (by kernel_rfl)) (fun _ _ _ h => h) (Or.inl ⟨by rfl, ?_⟩) ?_ ?_
            rotate_left
            ·intro w'
             go_simp
             with_reducible rfl
            rotate_left
            ·simp only [Act.put, List.setIfInBounds_toArray, List.set_cons_zero, List.set_cons_succ, i64_w, i32_w]
             rfl
            refine pure_ (i := 17) (N := some 39) (v := ?_) (a' := ?_) #[true, true, true, true, true, true, true, true, true, true, true, true, true, true, true, true, true, true, false] rfl rfl (any_of HT_.out (by kernel_rfl)) (fun _ _ _ h => h) (Or.inl ⟨by rfl, ?_⟩) ?_ ?_
            rotate_left
            ·intro w'
             go_simp
             with_reducible rfl
            rotate_left
            ·simp only [Act.put, List.setIfInBounds_toArray, List.set_cons_zero, List.set_cons_succ, i64_w, i32_w]
             rfl
            refine pure_ (i := 18) (N := some 40) (v := ?_) (a' := ?_) #[true, true, true, true, true, true, true, true, true, true, true, true, true, true, true, true, true, true, true] rfl rfl (any_of HT_.out (by kernel_rfl)) (fun _ _ _ h => h) (Or.inl ⟨by rfl, ?_⟩) ?_ ?_
            rotate_left
            ·intro w'
             go_simp
             with_reducible rfl
            rotate_left
            ·simp only [Act.put, List.setIfInBounds_toArray, List.set_cons_zero, List.set_cons_succ, i64_w, i32_w]
             rfl
            refine done_ (done_of HT_.out (by kernel_rfl)) ?_
            try go_wp2
            go_meet
            case rel => exact ⟨_, (decide (((rd_T45 l0 (ji21)).f0) ≥ ((rd_T45 l0 x17_1).f0))), (by first | rfl | (simp; done) | (simp only [← hji21] <;> (first | rfl | simp)) | (simp [*]; done)), H', ⟨by have := HK1.out; first | omega | exact Nat.le_refl _⟩, ⟨pk BK218.out⟩, ⟨pk BK219.out⟩, ⟨pk BK221.out⟩, ⟨by repeat first | (with_reducible first | exact HB.out | refine bz ?_ (by assumption) | apply bA | apply bN | apply bD) | exact HB.out⟩⟩
           ·rw [if_neg c23] at H
            exact absurd H (by simp)
          ·rw [if_neg c22] at H
           exact absurd H (by simp)
         ·rw [if_neg c20] at H
          have c20b0 : decide (0 < x17_1) = false := decide_eq_false c20
          clear c20
          (first | rw [c20b0] | (simp only [i64_w, i32_w]; rw [c20b0]) | skip)
          have H' := Aside0.mk H
          clear H
          try go_wp2
          have n0_ : Aside0 (((((((((w14.setCell ⟨gb221, 0, none⟩ (.int .i64 ((rd_T45 l0 x17_1).f0))).setCell ⟨gb221, 1, none⟩ (.int .i64 ((rd_T45 l0 x17_1).f1.f0))).setCell ⟨gb221, 2, none⟩ (.int .i64 ((rd_T45 l0 x17_1).f1.f1))).setCell ⟨gb221, 3, none⟩ (.int .i64 ((rd_T45 l0 x17_1).f1.f2))).setCell ⟨gb221, 4, none⟩ (.int .i64 ((rd_T45 l0 x17_1).f1.f3))).setCell ⟨gb221, 5, none⟩ (.int .i64 ((rd_T45 l0 x17_1).f1.f4))).setCell ⟨gb221, 6, none⟩ (.int .i64 ((rd_T45 l0 x17_1).f1.f5))).setCell ⟨gb221, 7, none⟩ (.int .i64 ((rd_T45 l0 x17_1).f1.f6))).heap[gb218]? = some (.cells #[.int .i64 x219000_1, .int .i64 x219001_1, .int .i64 x219002_1, .int .i64 x219003_1, .int .i64 x219004_1, .int .i64 x219005_1, .int .i64 x219006_1] 30 (0, 0))) := ⟨by refine pk ?_; refine blk_far ?_ NB218_221.out _; refine pk ?_; refine blk_far ?_ NB218_221.out _; refine pk ?_; refine blk_far ?_ NB218_221.out _; refine pk ?_; refine blk_far ?_ NB218_221.out _; refine pk ?_; refine blk_far ?_ NB218_221.out _; refine pk ?_; refine blk_far ?_ NB218_221.out _; refine pk ?_; refine blk_far ?_ NB218_221.out _; refine pk ?_; refine blk_far ?_ NB218_221.out _; refine pk ?_; exact BK218.out⟩
          have n1_ : Aside0 (((((((((w14.setCell ⟨gb221, 0, none⟩ (.int .i64 ((rd_T45 l0 x17_1).f0))).setCell ⟨gb221, 1, none⟩ (.int .i64 ((rd_T45 l0 x17_1).f1.f0))).setCell ⟨gb221, 2, none⟩ (.int .i64 ((rd_T45 l0 x17_1).f1.f1))).setCell ⟨gb221, 3, none⟩ (.int .i64 ((rd_T45 l0 x17_1).f1.f2))).setCell ⟨gb221, 4, none⟩ (.int .i64 ((rd_T45 l0 x17_1).f1.f3))).setCell ⟨gb221, 5, none⟩ (.int .i64 ((rd_T45 l0 x17_1).f1.f4))).setCell ⟨gb221, 6, none⟩ (.int .i64 ((rd_T45 l0 x17_1).f1.f5))).setCell ⟨gb221, 7, none⟩ (.int .i64 ((rd_T45 l0 x17_1).f1.f6))).heap[gb219]? = some (.cells #[.int .i64 x220000_1, .int .i64 x220001_1, .int .i64 x220002_1, .int .i64 x220003_1, .int .i64 x220004_1, .int .i64 x220005_1, .int .i64 x220006_1] 30 (0, 0))) := ⟨by refine pk ?_; refine blk_far ?_ NB219_221.out _; refine pk ?_; refine blk_far ?_ NB219_221.out _; refine pk ?_; refine blk_far ?_ NB219_221.out _; refine pk ?_; refine blk_far ?_ NB219_221.out _; refine pk ?_; refine blk_far ?_ NB219_221.out _; refine pk ?_; refine blk_far ?_ NB219_221.out _; refine pk ?_; refine blk_far ?_ NB219_221.out _; refine pk ?_; refine blk_far ?_ NB219_221.out _; refine pk ?_; exact BK219.out⟩
          have n2_ : Aside0 (((((((((w14.setCell ⟨gb221, 0, none⟩ (.int .i64 ((rd_T45 l0 x17_1).f0))).setCell ⟨gb221, 1, none⟩ (.int .i64 ((rd_T45 l0 x17_1).f1.f0))).setCell ⟨gb221, 2, none⟩ (.int .i64 ((rd_T45 l0 x17_1).f1.f1))).setCell ⟨gb221, 3, none⟩ (.int .i64 ((rd_T45 l0 x17_1).f1.f2))).setCell ⟨gb221, 4, none⟩ (.int .i64 ((rd_T45 l0 x17_1).f1.f3))).setCell ⟨gb221, 5, none⟩ (.int .i64 ((rd_T45 l0 x17_1).f1.f4))).setCell ⟨gb221, 6, none⟩ (.int .i64 ((rd_T45 l0 x17_1).f1.f5))).setCell ⟨gb221, 7, none⟩ (.int .i64 ((rd_T45 l0 x17_1).f1.f6))).heap[gb221]? = some (.cells #[.int .i64 ((rd_T45 l0 x17_1).f0), .int .i64 ((rd_T45 l0 x17_1).f1.f0), .int .i64 ((rd_T45 l0 x17_1).f1.f1), .int .i64 ((rd_T45 l0 x17_1).f1.f2), .int .i64 ((rd_T45 l0 x17_1).f1.f3), .int .i64 ((rd_T45 l0 x17_1).f1.f4), .int .i64 ((rd_T45 l0 x17_1).f1.f5), .int .i64 ((rd_T45 l0 x17_1).f1.f6)] 45 (0, 0))) := ⟨by refine pk ?_; refine blk_put (cs := #[.int .i64 ((rd_T45 l0 x17_1).f0), .int .i64 ((rd_T45 l0 x17_1).f1.f0), .int .i64 ((rd_T45 l0 x17_1).f1.f1), .int .i64 ((rd_T45 l0 x17_1).f1.f2), .int .i64 ((rd_T45 l0 x17_1).f1.f3), .int .i64 ((rd_T45 l0 x17_1).f1.f4), .int .i64 ((rd_T45 l0 x17_1).f1.f5), .int .i64 0]) ?_ 7 _ rfl; refine pk ?_; refine blk_put (cs := #[.int .i64 ((rd_T45 l0 x17_1).f0), .int .i64 ((rd_T45 l0 x17_1).f1.f0), .int .i64 ((rd_T45 l0 x17_1).f1.f1), .int .i64 ((rd_T45 l0 x17_1).f1.f2), .int .i64 ((rd_T45 l0 x17_1).f1.f3), .int .i64 ((rd_T45 l0 x17_1).f1.f4), .int .i64 0, .int .i64 0]) ?_ 6 _ rfl; refine pk ?_; refine blk_put (cs := #[.int .i64 ((rd_T45 l0 x17_1).f0), .int .i64 ((rd_T45 l0 x17_1).f1.f0), .int .i64 ((rd_T45 l0 x17_1).f1.f1), .int .i64 ((rd_T45 l0 x17_1).f1.f2), .int .i64 ((rd_T45 l0 x17_1).f1.f3), .int .i64 0, .int .i64 0, .int .i64 0]) ?_ 5 _ rfl; refine pk ?_; refine blk_put (cs := #[.int .i64 ((rd_T45 l0 x17_1).f0), .int .i64 ((rd_T45 l0 x17_1).f1.f0), .int .i64 ((rd_T45 l0 x17_1).f1.f1), .int .i64 ((rd_T45 l0 x17_1).f1.f2), .int .i64 0, .int .i64 0, .int .i64 0, .int .i64 0]) ?_ 4 _ rfl; refine pk ?_; refine blk_put (cs := #[.int .i64 ((rd_T45 l0 x17_1).f0), .int .i64 ((rd_T45 l0 x17_1).f1.f0), .int .i64 ((rd_T45 l0 x17_1).f1.f1), .int .i64 0, .int .i64 0, .int .i64 0, .int .i64 0, .int .i64 0]) ?_ 3 _ rfl; refine pk ?_; refine blk_put (cs := #[.int .i64 ((rd_T45 l0 x17_1).f0), .int .i64 ((rd_T45 l0 x17_1).f1.f0), .int .i64 0, .int .i64 0, .int .i64 0, .int .i64 0, .int .i64 0, .int .i64 0]) ?_ 2 _ rfl; refine pk ?_; refine blk_put (cs := #[.int .i64 ((rd_T45 l0 x17_1).f0), .int .i64 0, .int .i64 0, .int .i64 0, .int .i64 0, .int .i64 0, .int .i64 0, .int .i64 0]) ?_ 1 _ rfl; refine pk ?_; refine blk_put (cs := #[.int .i64 0, .int .i64 0, .int .i64 0, .int .i64 0, .int .i64 0, .int .i64 0, .int .i64 0, .int .i64 0]) ?_ 0 _ rfl; refine pk ?_; exact BK221.out⟩
          have n3_ : Aside0 (Below w.heap.size w ((((((((w14.setCell ⟨gb221, 0, none⟩ (.int .i64 ((rd_T45 l0 x17_1).f0))).setCell ⟨gb221, 1, none⟩ (.int .i64 ((rd_T45 l0 x17_1).f1.f0))).setCell ⟨gb221, 2, none⟩ (.int .i64 ((rd_T45 l0 x17_1).f1.f1))).setCell ⟨gb221, 3, none⟩ (.int .i64 ((rd_T45 l0 x17_1).f1.f2))).setCell ⟨gb221, 4, none⟩ (.int .i64 ((rd_T45 l0 x17_1).f1.f3))).setCell ⟨gb221, 5, none⟩ (.int .i64 ((rd_T45 l0 x17_1).f1.f4))).setCell ⟨gb221, 6, none⟩ (.int .i64 ((rd_T45 l0 x17_1).f1.f5))).setCell ⟨gb221, 7, none⟩ (.int .i64 ((rd_T45 l0 x17_1).f1.f6)))) := ⟨by repeat first | (with_reducible first | exact HB.out | refine bz ?_ (by assumption) | apply bA | apply bN | apply bD) | exact HB.out⟩
          (try clear BK218)
          (try clear BK219)
          (try clear BK221)
          (try clear HB)
          generalize ((((((((w14.setCell ⟨gb221, 0, none⟩ (.int .i64 ((rd_T45 l0 x17_1).f0))).setCell ⟨gb221, 1, none⟩ (.int .i64 ((rd_T45 l0 x17_1).f1.f0))).setCell ⟨gb221, 2, none⟩ (.int .i64 ((rd_T45 l0 x17_1).f1.f1))).setCell ⟨gb221, 3, none⟩ (.int .i64 ((rd_T45 l0 x17_1).f1.f2))).setCell ⟨gb221, 4, none⟩ (.int .i64 ((rd_T45 l0 x17_1).f1.f3))).setCell ⟨gb221, 5, none⟩ (.int .i64 ((rd_T45 l0 x17_1).f1.f4))).setCell ⟨gb221, 6, none⟩ (.int .i64 ((rd_T45 l0 x17_1).f1.f5))).setCell ⟨gb221, 7, none⟩ (.int .i64 ((rd_T45 l0 x17_1).f1.f6))) = w27 at n0_ n1_ n2_ n3_ ⊢
          have BK218 := n0_
          have BK219 := n1_
          have BK221 := n2_
          have HB := n3_
          clear n0_ n1_ n2_ n3_
          replace BK218 := a_ (blk_drew BK218.out)
          replace BK219 := a_ (blk_drew BK219.out)
          replace BK221 := a_ (blk_drew BK221.out)
          replace HB := a_ (below_drew1 HB.out)
          refine start_ (n := 19) (S := fun w' => w'.cell? ⟨gb221, 0, none⟩ = some (.int .i64 ((rd_T45 l0 x17_1).f0)) ∧ w'.cell? ⟨gb221, 1, none⟩ = some (.int .i64 ((rd_T45 l0 x17_1).f1.f0)) ∧ w'.cell? ⟨gb221, 2, none⟩ = some (.int .i64 ((rd_T45 l0 x17_1).f1.f1)) ∧ w'.cell? ⟨gb221, 3, none⟩ = some (.int .i64 ((rd_T45 l0 x17_1).f1.f2)) ∧ w'.cell? ⟨gb221, 4, none⟩ = some (.int .i64 ((rd_T45 l0 x17_1).f1.f3)) ∧ w'.cell? ⟨gb221, 5, none⟩ = some (.int .i64 ((rd_T45 l0 x17_1).f1.f4)) ∧ w'.cell? ⟨gb221, 6, none⟩ = some (.int .i64 ((rd_T45 l0 x17_1).f1.f5)) ∧ w'.cell? ⟨gb221, 7, none⟩ = some (.int .i64 ((rd_T45 l0 x17_1).f1.f6))) (ds := []) #[false, false, false, false, false, false, false, false, false, false, false, false, false, false, false, false, false, false, false] (by kernel_rfl) rfl rfl ⟨(blk_cell BK221.out 0).trans rfl, (blk_cell BK221.out 1).trans rfl, (blk_cell BK221.out 2).trans rfl, (blk_cell BK221.out 3).trans rfl, (blk_cell BK221.out 4).trans rfl, (blk_cell BK221.out 5).trans rfl, (blk_cell BK221.out 6).trans rfl, (blk_cell BK221.out 7).trans rfl⟩ (fun hHeld => ?_); refine with_tabW spec_LoopAt.tab8 spec_LoopAt.bits8 (fun HT_ HW_ => ?_)
          generalize w27.drew = w28 at BK218 BK219 BK221 HB hHeld ⊢
          refine pure_ (i := 0) (N := some 22) (v := ?_) (a' := ?_) #[true, false, false, false, false, false, false, false, false, false, false, false, false, false, false, false, false, false, false] rfl rfl (any_of HT_.out (by kernel_rfl)) (fun _ _ _ h => h) (Or.inl ⟨by rfl, ?_⟩) ?_ ?_
          rotate_left
          ·intro w'
           go_simp
           with_reducible rfl
          rotate_left
          ·simp only [Act.put, List.setIfInBounds_toArray, List.set_cons_zero, List.set_cons_succ, i64_w, i32_w]
           rfl
          refine take_ (i := 1) (N := some 23) (v := ?_) (a' := ?_) #[true, true, false, false, false, false, false, false, false, false, false, false, false, false, false, false, false, false, false] rfl rfl (take_ofW HT_.out HW_.out (by kernel_rfl)) (fun _ _ _ h => h) (Or.inl ⟨by rfl, ?_⟩) hHeld ?_ ?_
          rotate_left
          ·rintro w' ⟨s0, s1, s2, s3, s4, s5, s6, s7⟩
           go_simp
           with_reducible rfl
          rotate_left
          ·simp only [Act.put, List.setIfInBounds_toArray, List.set_cons_zero, List.set_cons_succ, i64_w, i32_w]
           rfl
          refine one_ (i := 2) (N := some 24) #[true, true, true, false, false, false, false, false, false, false, false, false, false, false, false, false, false, false, false] rfl rfl (one_of HT_.out (by kernel_rfl)) (by decide) (fun K hK => ?_)
          refine goes_ Try.func30 (by kernel_rfl) rfl #[.agg #[.int .i64 ((rd_T45 l0 x17_1).f1.f0), .int .i64 ((rd_T45 l0 x17_1).f1.f1), .int .i64 ((rd_T45 l0 x17_1).f1.f2), .int .i64 ((rd_T45 l0 x17_1).f1.f3), .int .i64 ((rd_T45 l0 x17_1).f1.f4), .int .i64 ((rd_T45 l0 x17_1).f1.f5), .int .i64 ((rd_T45 l0 x17_1).f1.f6)]] (by rfl) rfl rfl (by (try simp only [lA, lB, lC]); first | done | rfl | (simp only [lD, lE]; rfl)) ?_
          with_reducible refine (spec_GoodLoop.calls ((rd_T45 l0 x17_1).f1.f0) ((rd_T45 l0 x17_1).f1.f1) ((rd_T45 l0 x17_1).f1.f2) ((rd_T45 l0 x17_1).f1.f3) ((rd_T45 l0 x17_1).f1.f4) ((rd_T45 l0 x17_1).f1.f5) ((rd_T45 l0 x17_1).f1.f6) true _ A18.out).mono ?_
          rintro e w29 ⟨rfl, hb⟩
          refine ⟨_, rfl, ?_⟩
          replace BK218 := a_ (blk_below (pk BK218.out) hb)
          replace BK219 := a_ (blk_below (pk BK219.out) hb)
          replace BK221 := a_ (blk_below (pk BK221.out) hb)
          replace HB := a_ (below_step (by repeat first | (with_reducible first | exact HB.out | refine bz ?_ (by assumption) | apply bA | apply bN | apply bD) | exact HB.out) hb)
          (try clear hb)
          (try clear hb2)
          (try clear hk)
          (try clear hi)
          refine hK.out _ _ ⟨(blk_cell BK221.out 0).trans rfl, (blk_cell BK221.out 1).trans rfl, (blk_cell BK221.out 2).trans rfl, (blk_cell BK221.out 3).trans rfl, (blk_cell BK221.out 4).trans rfl, (blk_cell BK221.out 5).trans rfl, (blk_cell BK221.out 6).trans rfl, (blk_cell BK221.out 7).trans rfl⟩ (fun hHeld => ?_)
          clear hK K
          refine norm_ (a' := ?_) ?_ ?_
          rotate_left
          ·show Act.put _ (some 24) _ = _
           simp only [Act.put, List.setIfInBounds_toArray, List.set_cons_zero, List.set_cons_succ, i64_w, i32_w]
           rfl
          refine pure_ (i := 3) (N := some 25) (v := ?_) (a' := ?_) #[true, true, true, true, false, false, false, false, false, false, false, false, false, false, false, false, false, false, false] rfl rfl (any_of HT_.out (by kernel_rfl)) (fun _ _ _ h => h) (Or.inl ⟨by rfl, ?_⟩) ?_ ?_
          rotate_left
          ·intro w'
           go_simp
           with_reducible rfl
          rotate_left
          ·simp only [Act.put, List.setIfInBounds_toArray, List.set_cons_zero, List.set_cons_succ, i64_w, i32_w]
           rfl
          refine pure_ (i := 4) (N := some 26) (v := ?_) (a' := ?_) #[true, true, true, true, true, false, false, false, false, false, false, false, false, false, false, false, false, false, false] rfl rfl (any_of HT_.out (by kernel_rfl)) (fun _ _ _ h => h) (Or.inl ⟨by rfl, ?_⟩) ?_ ?_
          rotate_left
          ·intro w'
           go_simp
           with_reducible rfl
          rotate_left
          ·simp only [Act.put, List.setIfInBounds_toArray, List.set_cons_zero, List.set_cons_succ, i64_w, i32_w]
           rfl
          refine pure_ (i := 5) (N := some 27) (v := ?_) (a' := ?_) #[true, true, true, true, true, true, false, false, false, false, false, false, false, false, false, false, false, false, false] rfl rfl (any_of HT_.out (by kernel_rfl)) (fun _ _ _ h => h) (Or.inl ⟨by rfl, ?_⟩) ?_ ?_
          rotate_left
          ·intro w'
           go_simp
           with_reducible rfl
          rotate_left
          ·simp only [Act.put, List.setIfInBounds_toArray, List.set_cons_zero, List.set_cons_succ, i64_w, i32_w]
           rfl
          refine pure_ (i := 6) (N := some 28) (v := ?_) (a' := ?_) #[true, true, true, true, true, true, true, false, false, false, false, false, false, false, false, false, false, false, false] rfl rfl (any_of HT_.out (by kernel_rfl)) (fun _ _ _ h => h) (Or.inl ⟨by rfl, ?_⟩) ?_ ?_
          rotate_left
          ·intro w'
           go_simp
           with_reducible rfl
          rotate_left
          ·simp only [Act.put, List.setIfInBounds_toArray, List.set_cons_zero, List.set_cons_succ, i64_w, i32_w]
           rfl
          refine pure_ (i := 7) (N := some 29) (v := ?_) (a' := ?_) #[true, true, true, true, true, true, true, true, false, false, false, false, false, false, false, false, false, false, false] rfl rfl (any_of HT_.out (by kernel_rfl)) (fun _ _ _ h => h) (Or.inl ⟨by rfl, ?_⟩) ?_ ?_
          rotate_left
          ·intro w'
           go_simp
           with_reducible rfl
          rotate_left
          ·simp only [Act.put, List.setIfInBounds_toArray, List.set_cons_zero, List.set_cons_succ, i64_w, i32_w]
           rfl
          refine pure_ (i := 8) (N := some 30) (v := undef) (a' := ?_) #[true, true, true, true, true, true, true, true, true, false, false, false, false, false, false, false, false, false, false] rfl rfl (any_of HT_.out (by kernel_rfl)) (fun _ _ _ h => h) (Or.inr ⟨by rfl, rfl⟩) ?_ ?_
          rotate_left
          ·simp only [Act.put, List.setIfInBounds_toArray, List.set_cons_zero, List.set_cons_succ, i64_w, i32_w]
           rfl
          refine pure_ (i := 9) (N := some 31) (v := undef) (a' := ?_) #[true, true, true, true, true, true, true, true, true, true, false, false, false, false, false, false, false, false, false] rfl rfl (any_of HT_.out (by kernel_rfl)) (fun _ _ _ h => h) (Or.inr ⟨by rfl, rfl⟩) ?_ ?_
          rotate_left
          ·simp only [Act.put, List.setIfInBounds_toArray, List.set_cons_zero, List.set_cons_succ, i64_w, i32_w]
           rfl
          refine pure_ (i := 10) (N := some 32) (v := undef) (a' := ?_) #[true, true, true, true, true, true, true, true, true, true, true, false, false, false, false, false, false, false, false] rfl rfl (any_of HT_.out (by kernel_rfl)) (fun _ _ _ h => h) (Or.inr ⟨by rfl, rfl⟩) ?_ ?_
          rotate_left
          ·simp only [Act.put, List.setIfInBounds_toArray, List.set_cons_zero, List.set_cons_succ, i64_w, i32_w]
           rfl
          refine pure_ (i := 11) (N := some 33) (v := undef) (a' := ?_) #[true, true, true, true, true, true, true, true, true, true, true, true, false, false, false, false, false, false, false] rfl rfl (any_of HT_.out (by kernel_rfl)) (fun _ _ _ h => h) (Or.inr ⟨by rfl, rfl⟩) ?_ ?_
          rotate_left
          ·simp only [Act.put, List.setIfInBounds_toArray, List.set_cons_zero, List.set_cons_succ, i64_w, i32_w]
           rfl
          refine pure_ (i := 12) (N := some 34) (v := undef) (a' := ?_) #[true, true, true, true, true, true, true, true, true, true, true, true, true, false, false, false, false, false, false] rfl rfl (any_of HT_.out (by kernel_rfl)) (fun _ _ _ h => h) (Or.inr ⟨by rfl, rfl⟩) ?_ ?_
          rotate_left
          ·simp only [Act.put, List.setIfInBounds_toArray, List.set_cons_zero, List.set_cons_succ, i64_w, i32_w]
           rfl
          refine pure_ (i := 13) (N := some 35) (v := undef) (a' := ?_) #[true, true, true, true, true, true, true, true, true, true, true, true, true, true, false, false, false, false, false] rfl rfl (any_of HT_.out (by kernel_rfl)) (fun _ _ _ h => h) (Or.inr ⟨by rfl, rfl⟩) ?_ ?_
          rotate_left
          ·simp only [Act.put, List.setIfInBounds_toArray, List.set_cons_zero, List.set_cons_succ, i64_w, i32_w]
           rfl
          refine pure_ (i := 14) (N := some 36) (v := undef) (a' := ?_) #[true, true, true, true, true, true, true, true, true, true, true, true, true, true, true, false, false, false, false] rfl rfl (any_of HT_.out (by kernel_rfl)) (fun _ _ _ h => h) (Or.inr ⟨by rfl, rfl⟩) ?_ ?_
          rotate_left
          ·simp only [Act.put, List.setIfInBounds_toArray, List.set_cons_zero, List.set_cons_succ, i64_w, i32_w]
           rfl
          refine pure_ (i := 15) (N := some 37) (v := undef) (a' := ?_) #[true, true, true, true, true, true, true, true, true, true, true, true, true, true, true, true, false, false, false] rfl rfl (any_of HT_.out (by kernel_rfl)) (fun _ _ _ h => h) (Or.inr ⟨by rfl, rfl⟩) ?_ ?_
          rotate_left
          ·simp only [Act.put, List.setIfInBounds_toArray, List.set_cons_zero, List.set_cons_succ, i64_w, i32_w]
           rfl
          refine pure_ (i := 16) (N := some 38) (v := undef) (a' := ?_) #[true, true, true, true, true, true, true, true, true, true, true, true, true, true, true, true, true, false, false] rfl rfl (any_of HT_.out (by kernel_rfl)) (fun _ _ _ h => h) (Or.inr ⟨by rfl, rfl⟩) ?_ ?_
          rotate_left
          ·simp only [Act.put, List.setIfInBounds_toArray, List.set_cons_zero, List.set_cons_succ, i64_w, i32_w]
           rfl
          refine pure_ (i := 17) (N := some 39) (v := ?_) (a' := ?_) #[true, true, true, true, true, true, true, true, true, true, true, true, true, true, true, true, true, true, false] rfl rfl (any_of HT_.out (by kernel_rfl)) (fun _ _ _ h => h) (Or.inl ⟨by rfl, ?_⟩) ?_ ?_
          rotate_left
          ·intro w'
           go_simp
           with_reducible rfl
          rotate_left
          ·simp only [Act.put, List.setIfInBounds_toArray, List.set_cons_zero, List.set_cons_succ, i64_w, i32_w]
           rfl
          refine pure_ (i := 18) (N := some 40) (v := ?_) (a' := ?_) #[true, true, true, true, true, true, true, true, true, true, true, true, true, true, true, true, true, true, true] rfl rfl (any_of HT_.out (by kernel_rfl)) (fun _ _ _ h => h) (Or.inl ⟨by rfl, ?_⟩) ?_ ?_
          rotate_left
          ·intro w'
           go_simp
           with_reducible rfl
          rotate_left
          ·simp only [Act.put, List.setIfInBounds_toArray, List.set_cons_zero, List.set_cons_succ, i64_w, i32_w]
           rfl
          refine done_ (done_of HT_.out (by kernel_rfl)) ?_
          try go_wp2
          go_meet
          case rel => exact ⟨_, (false), (by first | rfl | (simp; done) | (simp [*]; done)), H', ⟨by have := HK1.out; first | omega | exact Nat.le_refl _⟩, ⟨pk BK218.out⟩, ⟨pk BK219.out⟩, ⟨pk BK221.out⟩, ⟨by repeat first | (with_reducible first | exact HB.out | refine bz ?_ (by assumption) | apply bA | apply bN | apply bD) | exact HB.out⟩⟩
        ·replace c19 := Bool.eq_false_iff.mpr c19
         subst c19
         have H1 : (spec_LoopAt.j1 k1 l0 a1 x7_1 l0 (l0.length : Int) x17_1 true x220000_1 x220001_1 x220002_1 x220003_1 x220004_1 x220005_1 x220006_1 ((rd_T45 l0 x17_1).f0) ((rd_T45 l0 x17_1).f1.f0) ((rd_T45 l0 x17_1).f1.f1) ((rd_T45 l0 x17_1).f1.f2) ((rd_T45 l0 x17_1).f1.f3) ((rd_T45 l0 x17_1).f1.f4) ((rd_T45 l0 x17_1).f1.f5) ((rd_T45 l0 x17_1).f1.f6)) = some (r1, r2, r3, r4, r5, r6, r7, r8) := by rw [if_neg (show ¬ (false = true) by decide)] at H; exact H
         clear H
         have H := H1
         clear H1
         have H' := Aside0.mk H
         clear H
         try go_wp2
         have n0_ : Aside0 (((((((((w14.setCell ⟨gb221, 0, none⟩ (.int .i64 ((rd_T45 l0 x17_1).f0))).setCell ⟨gb221, 1, none⟩ (.int .i64 ((rd_T45 l0 x17_1).f1.f0))).setCell ⟨gb221, 2, none⟩ (.int .i64 ((rd_T45 l0 x17_1).f1.f1))).setCell ⟨gb221, 3, none⟩ (.int .i64 ((rd_T45 l0 x17_1).f1.f2))).setCell ⟨gb221, 4, none⟩ (.int .i64 ((rd_T45 l0 x17_1).f1.f3))).setCell ⟨gb221, 5, none⟩ (.int .i64 ((rd_T45 l0 x17_1).f1.f4))).setCell ⟨gb221, 6, none⟩ (.int .i64 ((rd_T45 l0 x17_1).f1.f5))).setCell ⟨gb221, 7, none⟩ (.int .i64 ((rd_T45 l0 x17_1).f1.f6))).heap[gb218]? = some (.cells #[.int .i64 x219000_1, .int .i64 x219001_1, .int .i64 x219002_1, .int .i64 x219003_1, .int .i64 x219004_1, .int .i64 x219005_1, .int .i64 x219006_1] 30 (0, 0))) := ⟨by refine pk ?_; refine blk_far ?_ NB218_221.out _; refine pk ?_; refine blk_far ?_ NB218_221.out _; refine pk ?_; refine blk_far ?_ NB218_221.out _; refine pk ?_; refine blk_far ?_ NB218_221.out _; refine pk ?_; refine blk_far ?_ NB218_221.out _; refine pk ?_; refine blk_far ?_ NB218_221.out _; refine pk ?_; refine blk_far ?_ NB218_221.out _; refine pk ?_; refine blk_far ?_ NB218_221.out _; refine pk ?_; exact BK218.out⟩
         have n1_ : Aside0 (((((((((w14.setCell ⟨gb221, 0, none⟩ (.int .i64 ((rd_T45 l0 x17_1).f0))).setCell ⟨gb221, 1, none⟩ (.int .i64 ((rd_T45 l0 x17_1).f1.f0))).setCell ⟨gb221, 2, none⟩ (.int .i64 ((rd_T45 l0 x17_1).f1.f1))).setCell ⟨gb221, 3, none⟩ (.int .i64 ((rd_T45 l0 x17_1).f1.f2))).setCell ⟨gb221, 4, none⟩ (.int .i64 ((rd_T45 l0 x17_1).f1.f3))).setCell ⟨gb221, 5, none⟩ (.int .i64 ((rd_T45 l0 x17_1).f1.f4))).setCell ⟨gb221, 6, none⟩ (.int .i64 ((rd_T45 l0 x17_1).f1.f5))).setCell ⟨gb221, 7, none⟩ (.int .i64 ((rd_T45 l0 x17_1).f1.f6))).heap[gb219]? = some (.cells #[.int .i64 x220000_1, .int .i64 x220001_1, .int .i64 x220002_1, .int .i64 x220003_1, .int .i64 x220004_1, .int .i64 x220005_1, .int .i64 x220006_1] 30 (0, 0))) := ⟨by refine pk ?_; refine blk_far ?_ NB219_221.out _; refine pk ?_; refine blk_far ?_ NB219_221.out _; refine pk ?_; refine blk_far ?_ NB219_221.out _; refine pk ?_; refine blk_far ?_ NB219_221.out _; refine pk ?_; refine blk_far ?_ NB219_221.out _; refine pk ?_; refine blk_far ?_ NB219_221.out _; refine pk ?_; refine blk_far ?_ NB219_221.out _; refine pk ?_; refine blk_far ?_ NB219_221.out _; refine pk ?_; exact BK219.out⟩
         have n2_ : Aside0 (((((((((w14.setCell ⟨gb221, 0, none⟩ (.int .i64 ((rd_T45 l0 x17_1).f0))).setCell ⟨gb221, 1, none⟩ (.int .i64 ((rd_T45 l0 x17_1).f1.f0))).setCell ⟨gb221, 2, none⟩ (.int .i64 ((rd_T45 l0 x17_1).f1.f1))).setCell ⟨gb221, 3, none⟩ (.int .i64 ((rd_T45 l0 x17_1).f1.f2))).setCell ⟨gb221, 4, none⟩ (.int .i64 ((rd_T45 l0 x17_1).f1.f3))).setCell ⟨gb221, 5, none⟩ (.int .i64 ((rd_T45 l0 x17_1).f1.f4))).setCell ⟨gb221, 6, none⟩ (.int .i64 ((rd_T45 l0 x17_1).f1.f5))).setCell ⟨gb221, 7, none⟩ (.int .i64 ((rd_T45 l0 x17_1).f1.f6))).heap[gb221]? = some (.cells #[.int .i64 ((rd_T45 l0 x17_1).f0), .int .i64 ((rd_T45 l0 x17_1).f1.f0), .int .i64 ((rd_T45 l0 x17_1).f1.f1), .int .i64 ((rd_T45 l0 x17_1).f1.f2), .int .i64 ((rd_T45 l0 x17_1).f1.f3), .int .i64 ((rd_T45 l0 x17_1).f1.f4), .int .i64 ((rd_T45 l0 x17_1).f1.f5), .int .i64 ((rd_T45 l0 x17_1).f1.f6)] 45 (0, 0))) := ⟨by refine pk ?_; refine blk_put (cs := #[.int .i64 ((rd_T45 l0 x17_1).f0), .int .i64 ((rd_T45 l0 x17_1).f1.f0), .int .i64 ((rd_T45 l0 x17_1).f1.f1), .int .i64 ((rd_T45 l0 x17_1).f1.f2), .int .i64 ((rd_T45 l0 x17_1).f1.f3), .int .i64 ((rd_T45 l0 x17_1).f1.f4), .int .i64 ((rd_T45 l0 x17_1).f1.f5), .int .i64 0]) ?_ 7 _ rfl; refine pk ?_; refine blk_put (cs := #[.int .i64 ((rd_T45 l0 x17_1).f0), .int .i64 ((rd_T45 l0 x17_1).f1.f0), .int .i64 ((rd_T45 l0 x17_1).f1.f1), .int .i64 ((rd_T45 l0 x17_1).f1.f2), .int .i64 ((rd_T45 l0 x17_1).f1.f3), .int .i64 ((rd_T45 l0 x17_1).f1.f4), .int .i64 0, .int .i64 0]) ?_ 6 _ rfl; refine pk ?_; refine blk_put (cs := #[.int .i64 ((rd_T45 l0 x17_1).f0), .int .i64 ((rd_T45 l0 x17_1).f1.f0), .int .i64 ((rd_T45 l0 x17_1).f1.f1), .int .i64 ((rd_T45 l0 x17_1).f1.f2), .int .i64 ((rd_T45 l0 x17_1).f1.f3), .int .i64 0, .int .i64 0, .int .i64 0]) ?_ 5 _ rfl; refine pk ?_; refine blk_put (cs := #[.int .i64 ((rd_T45 l0 x17_1).f0), .int .i64 ((rd_T45 l0 x17_1).f1.f0), .int .i64 ((rd_T45 l0 x17_1).f1.f1), .int .i64 ((rd_T45 l0 x17_1).f1.f2), .int .i64 0, .int .i64 0, .int .i64 0, .int .i64 0]) ?_ 4 _ rfl; refine pk ?_; refine blk_put (cs := #[.int .i64 ((rd_T45 l0 x17_1).f0), .int .i64 ((rd_T45 l0 x17_1).f1.f0), .int .i64 ((rd_T45 l0 x17_1).f1.f1), .int .i64 0, .int .i64 0, .int .i64 0, .int .i64 0, .int .i64 0]) ?_ 3 _ rfl; refine pk ?_; refine blk_put (cs := #[.int .i64 ((rd_T45 l0 x17_1).f0), .int .i64 ((rd_T45 l0 x17_1).f1.f0), .int .i64 0, .int .i64 0, .int .i64 0, .int .i64 0, .int .i64 0, .int .i64 0]) ?_ 2 _ rfl; refine pk ?_; refine blk_put (cs := #[.int .i64 ((rd_T45 l0 x17_1).f0), .int .i64 0, .int .i64 0, .int .i64 0, .int .i64 0, .int .i64 0, .int .i64 0, .int .i64 0]) ?_ 1 _ rfl; refine pk ?_; refine blk_put (cs := #[.int .i64 0, .int .i64 0, .int .i64 0, .int .i64 0, .int .i64 0, .int .i64 0, .int .i64 0, .int .i64 0]) ?_ 0 _ rfl; refine pk ?_; exact BK221.out⟩
         have n3_ : Aside0 (Below w.heap.size w ((((((((w14.setCell ⟨gb221, 0, none⟩ (.int .i64 ((rd_T45 l0 x17_1).f0))).setCell ⟨gb221, 1, none⟩ (.int .i64 ((rd_T45 l0 x17_1).f1.f0))).setCell ⟨gb221, 2, none⟩ (.int .i64 ((rd_T45 l0 x17_1).f1.f1))).setCell ⟨gb221, 3, none⟩ (.int .i64 ((rd_T45 l0 x17_1).f1.f2))).setCell ⟨gb221, 4, none⟩ (.int .i64 ((rd_T45 l0 x17_1).f1.f3))).setCell ⟨gb221, 5, none⟩ (.int .i64 ((rd_T45 l0 x17_1).f1.f4))).setCell ⟨gb221, 6, none⟩ (.int .i64 ((rd_T45 l0 x17_1).f1.f5))).setCell ⟨gb221, 7, none⟩ (.int .i64 ((rd_T45 l0 x17_1).f1.f6)))) := ⟨by repeat first | (with_reducible first | exact HB.out | refine bz ?_ (by assumption) | apply bA | apply bN | apply bD) | exact HB.out⟩
         (try clear BK218)
         (try clear BK219)
         (try clear BK221)
         (try clear HB)
         generalize ((((((((w14.setCell ⟨gb221, 0, none⟩ (.int .i64 ((rd_T45 l0 x17_1).f0))).setCell ⟨gb221, 1, none⟩ (.int .i64 ((rd_T45 l0 x17_1).f1.f0))).setCell ⟨gb221, 2, none⟩ (.int .i64 ((rd_T45 l0 x17_1).f1.f1))).setCell ⟨gb221, 3, none⟩ (.int .i64 ((rd_T45 l0 x17_1).f1.f2))).setCell ⟨gb221, 4, none⟩ (.int .i64 ((rd_T45 l0 x17_1).f1.f3))).setCell ⟨gb221, 5, none⟩ (.int .i64 ((rd_T45 l0 x17_1).f1.f4))).setCell ⟨gb221, 6, none⟩ (.int .i64 ((rd_T45 l0 x17_1).f1.f5))).setCell ⟨gb221, 7, none⟩ (.int .i64 ((rd_T45 l0 x17_1).f1.f6))) = w30 at n0_ n1_ n2_ n3_ ⊢
         have BK218 := n0_
         have BK219 := n1_
         have BK221 := n2_
         have HB := n3_
         clear n0_ n1_ n2_ n3_
         replace BK218 := a_ (blk_drew BK218.out)
         replace BK219 := a_ (blk_drew BK219.out)
         replace BK221 := a_ (blk_drew BK221.out)
         replace HB := a_ (below_drew1 HB.out)
         refine start_ (n := 19) (S := fun w' => w'.cell? ⟨gb221, 0, none⟩ = some (.int .i64 ((rd_T45 l0 x17_1).f0)) ∧ w'.cell? ⟨gb221, 1, none⟩ = some (.int .i64 ((rd_T45 l0 x17_1).f1.f0)) ∧ w'.cell? ⟨gb221, 2, none⟩ = some (.int .i64 ((rd_T45 l0 x17_1).f1.f1)) ∧ w'.cell? ⟨gb221, 3, none⟩ = some (.int .i64 ((rd_T45 l0 x17_1).f1.f2)) ∧ w'.cell? ⟨gb221, 4, none⟩ = some (.int .i64 ((rd_T45 l0 x17_1).f1.f3)) ∧ w'.cell? ⟨gb221, 5, none⟩ = some (.int .i64 ((rd_T45 l0 x17_1).f1.f4)) ∧ w'.cell? ⟨gb221, 6, none⟩ = some (.int .i64 ((rd_T45 l0 x17_1).f1.f5)) ∧ w'.cell? ⟨gb221, 7, none⟩ = some (.int .i64 ((rd_T45 l0 x17_1).f1.f6))) (ds := []) #[false, false, false, false, false, false, false, false, false, false, false, false, false, false, false, false, false, false, false] (by kernel_rfl) rfl rfl ⟨(blk_cell BK221.out 0).trans rfl, (blk_cell BK221.out 1).trans rfl, (blk_cell BK221.out 2).trans rfl, (blk_cell BK221.out 3).trans rfl, (blk_cell BK221.out 4).trans rfl, (blk_cell BK221.out 5).trans rfl, (blk_cell BK221.out 6).trans rfl, (blk_cell BK221.out 7).trans rfl⟩ (fun hHeld => ?_); refine with_tabW spec_LoopAt.tab8 spec_LoopAt.bits8 (fun HT_ HW_ => ?_)
         generalize w30.drew = w31 at BK218 BK219 BK221 HB hHeld ⊢
         refine pure_ (i := 0) (N := some 22) (v := ?_) (a' := ?_) #[true, false, false, false, false, false, false, false, false, false, false, false, false, false, false, false, false, false, false] rfl rfl (any_of HT_.out (by kernel_rfl)) (fun _ _ _ h => h) (Or.inl ⟨by rfl, ?_⟩) ?_ ?_
         rotate_left
         ·intro w'
          go_simp
          with_reducible rfl
         rotate_left
         ·simp only [Act.put, List.setIfInBounds_toArray, List.set_cons_zero, List.set_cons_succ, i64_w, i32_w]
          rfl
         refine take_ (i := 1) (N := some 23) (v := ?_) (a' := ?_) #[true, true, false, false, false, false, false, false, false, false, false, false, false, false, false, false, false, false, false] rfl rfl (take_ofW HT_.out HW_.out (by kernel_rfl)) (fun _ _ _ h => h) (Or.inl ⟨by rfl, ?_⟩) hHeld ?_ ?_
         rotate_left
         ·rintro w' ⟨s0, s1, s2, s3, s4, s5, s6, s7⟩
          go_simp
          with_reducible rfl
         rotate_left
         ·simp only [Act.put, List.setIfInBounds_toArray, List.set_cons_zero, List.set_cons_succ, i64_w, i32_w]
          rfl
         refine one_ (i := 2) (N := some 24) #[true, true, true, false, false, false, false, false, false, false, false, false, false, false, false, false, false, false, false] rfl rfl (one_of HT_.out (by kernel_rfl)) (by decide) (fun K hK => ?_)
         refine goes_ Try.func30 (by kernel_rfl) rfl #[.agg #[.int .i64 ((rd_T45 l0 x17_1).f1.f0), .int .i64 ((rd_T45 l0 x17_1).f1.f1), .int .i64 ((rd_T45 l0 x17_1).f1.f2), .int .i64 ((rd_T45 l0 x17_1).f1.f3), .int .i64 ((rd_T45 l0 x17_1).f1.f4), .int .i64 ((rd_T45 l0 x17_1).f1.f5), .int .i64 ((rd_T45 l0 x17_1).f1.f6)]] (by rfl) rfl rfl (by (try simp only [lA, lB, lC]); first | done | rfl | (simp only [lD, lE]; rfl)) ?_
         with_reducible refine (spec_GoodLoop.calls ((rd_T45 l0 x17_1).f1.f0) ((rd_T45 l0 x17_1).f1.f1) ((rd_T45 l0 x17_1).f1.f2) ((rd_T45 l0 x17_1).f1.f3) ((rd_T45 l0 x17_1).f1.f4) ((rd_T45 l0 x17_1).f1.f5) ((rd_T45 l0 x17_1).f1.f6) false _ A18.out).mono ?_
         rintro e w32 ⟨rfl, hb⟩
         refine ⟨_, rfl, ?_⟩
         replace BK218 := a_ (blk_below (pk BK218.out) hb)
         replace BK219 := a_ (blk_below (pk BK219.out) hb)
         replace BK221 := a_ (blk_below (pk BK221.out) hb)
         replace HB := a_ (below_step (by repeat first | (with_reducible first | exact HB.out | refine bz ?_ (by assumption) | apply bA | apply bN | apply bD) | exact HB.out) hb)
         (try clear hb)
         (try clear hb2)
         (try clear hk)
         (try clear hi)
         refine hK.out _ _ ⟨(blk_cell BK221.out 0).trans rfl, (blk_cell BK221.out 1).trans rfl, (blk_cell BK221.out 2).trans rfl, (blk_cell BK221.out 3).trans rfl, (blk_cell BK221.out 4).trans rfl, (blk_cell BK221.out 5).trans rfl, (blk_cell BK221.out 6).trans rfl, (blk_cell BK221.out 7).trans rfl⟩ (fun hHeld => ?_)
         clear hK K
         refine norm_ (a' := ?_) ?_ ?_
         rotate_left
         ·show Act.put _ (some 24) _ = _
          simp only [Act.put, List.setIfInBounds_toArray, List.set_cons_zero, List.set_cons_succ, i64_w, i32_w]
          rfl
         refine pure_ (i := 3) (N := some 25) (v := ?_) (a' := ?_) #[true, true, true, true, false, false, false, false, false, false, false, false, false, false, false, false, false, false, false] rfl rfl (any_of HT_.out (by kernel_rfl)) (fun _ _ _ h => h) (Or.inl ⟨by rfl, ?_⟩) ?_ ?_
         rotate_left
         ·intro w'
          go_simp
          with_reducible rfl
         rotate_left
         ·simp only [Act.put, List.setIfInBounds_toArray, List.set_cons_zero, List.set_cons_succ, i64_w, i32_w]
          rfl
         refine pure_ (i := 4) (N := some 26) (v := ?_) (a' := ?_) #[true, true, true, true, true, false, false, false, false, false, false, false, false, false, false, false, false, false, false] rfl rfl (any_of HT_.out (by kernel_rfl)) (fun _ _ _ h => h) (Or.inl ⟨by rfl, ?_⟩) ?_ ?_
         rotate_left
         ·intro w'
          go_simp
          with_reducible rfl
         rotate_left
         ·simp only [Act.put, List.setIfInBounds_toArray, List.set_cons_zero, List.set_cons_succ, i64_w, i32_w]
          rfl
         refine pure_ (i := 5) (N := some 27) (v := undef) (a' := ?_) #[true, true, true, true, true, true, false, false, false, false, false, false, false, false, false, false, false, false, false] rfl rfl (any_of HT_.out (by kernel_rfl)) (fun _ _ _ h => h) (Or.inr ⟨by rfl, rfl⟩) ?_ ?_
         rotate_left
         ·simp only [Act.put, List.setIfInBounds_toArray, List.set_cons_zero, List.set_cons_succ, i64_w, i32_w]
          rfl
         refine pure_ (i := 6) (N := some 28) (v := undef) (a' := ?_) #[true, true, true, true, true, true, true, false, false, false, false, false, false, false, false, false, false, false, false] rfl rfl (any_of HT_.out (by kernel_rfl)) (fun _ _ _ h => h) (Or.inr ⟨by rfl, rfl⟩) ?_ ?_
         rotate_left
         ·simp only [Act.put, List.setIfInBounds_toArray, List.set_cons_zero, List.set_cons_succ, i64_w, i32_w]
          rfl
         refine pure_ (i := 7) (N := some 29) (v := undef) (a' := ?_) #[true, true, true, true, true, true, true, true, false, false, false, false, false, false, false, false, false, false, false] rfl rfl (any_of HT_.out (by kernel_rfl)) (fun _ _ _ h => h) (Or.inr ⟨by rfl, rfl⟩) ?_ ?_
         rotate_left
         ·simp only [Act.put, List.setIfInBounds_toArray, List.set_cons_zero, List.set_cons_succ, i64_w, i32_w]
          rfl
         refine pure_ (i := 8) (N := some 30) (v := undef) (a' := ?_) #[true, true, true, true, true, true, true, true, true, false, false, false, false, false, false, false, false, false, false] rfl rfl (any_of HT_.out (by kernel_rfl)) (fun _ _ _ h => h) (Or.inr ⟨by rfl, rfl⟩) ?_ ?_
         rotate_left
         ·simp only [Act.put, List.setIfInBounds_toArray, List.set_cons_zero, List.set_cons_succ, i64_w, i32_w]
          rfl
         refine pure_ (i := 9) (N := some 31) (v := undef) (a' := ?_) #[true, true, true, true, true, true, true, true, true, true, false, false, false, false, false, false, false, false, false] rfl rfl (any_of HT_.out (by kernel_rfl)) (fun _ _ _ h => h) (Or.inr ⟨by rfl, rfl⟩) ?_ ?_
         rotate_left
         ·simp only [Act.put, List.setIfInBounds_toArray, List.set_cons_zero, List.set_cons_succ, i64_w, i32_w]
          rfl
         refine pure_ (i := 10) (N := some 32) (v := undef) (a' := ?_) #[true, true, true, true, true, true, true, true, true, true, true, false, false, false, false, false, false, false, false] rfl rfl (any_of HT_.out (by kernel_rfl)) (fun _ _ _ h => h) (Or.inr ⟨by rfl, rfl⟩) ?_ ?_
         rotate_left
         ·simp only [Act.put, List.setIfInBounds_toArray, List.set_cons_zero, List.set_cons_succ, i64_w, i32_w]
          rfl
         refine pure_ (i := 11) (N := some 33) (v := undef) (a' := ?_) #[true, true, true, true, true, true, true, true, true, true, true, true, false, false, false, false, false, false, false] rfl rfl (any_of HT_.out (by kernel_rfl)) (fun _ _ _ h => h) (Or.inr ⟨by rfl, rfl⟩) ?_ ?_
         rotate_left
         ·simp only [Act.put, List.setIfInBounds_toArray, List.set_cons_zero, List.set_cons_succ, i64_w, i32_w]
          rfl
         refine pure_ (i := 12) (N := some 34) (v := undef) (a' := ?_) #[true, true, true, true, true, true, true, true, true, true, true, true, true, false, false, false, false, false, false] rfl rfl (any_of HT_.out (by kernel_rfl)) (fun _ _ _ h => h) (Or.inr ⟨by rfl, rfl⟩) ?_ ?_
         rotate_left
         ·simp only [Act.put, List.setIfInBounds_toArray, List.set_cons_zero, List.set_cons_succ, i64_w, i32_w]
          rfl
         refine pure_ (i := 13) (N := some 35) (v := undef) (a' := ?_) #[true, true, true, true, true, true, true, true, true, true, true, true, true, true, false, false, false, false, false] rfl rfl (any_of HT_.out (by kernel_rfl)) (fun _ _ _ h => h) (Or.inr ⟨by rfl, rfl⟩) ?_ ?_
         rotate_left
         ·simp only [Act.put, List.setIfInBounds_toArray, List.set_cons_zero, List.set_cons_succ, i64_w, i32_w]
          rfl
         refine pure_ (i := 14) (N := some 36) (v := undef) (a' := ?_) #[true, true, true, true, true, true, true, true, true, true, true, true, true, true, true, false, false, false, false] rfl rfl (any_of HT_.out (by kernel_rfl)) (fun _ _ _ h => h) (Or.inr ⟨by rfl, rfl⟩) ?_ ?_
         rotate_left
         ·simp only [Act.put, List.setIfInBounds_toArray, List.set_cons_zero, List.set_cons_succ, i64_w, i32_w]
          rfl
         refine pure_ (i := 15) (N := some 37) (v := undef) (a' := ?_) #[true, true, true, true, true, true, true, true, true, true, true, true, true, true, true, true, false, false, false] rfl rfl (any_of HT_.out (by kernel_rfl)) (fun _ _ _ h => h) (Or.inr ⟨by rfl, rfl⟩) ?_ ?_
         rotate_left
         ·simp only [Act.put, List.setIfInBounds_toArray, List.set_cons_zero, List.set_cons_succ, i64_w, i32_w]
          rfl
         refine pure_ (i := 16) (N := some 38) (v := undef) (a' := ?_) #[true, true, true, true, true, true, true, true, true, true, true, true, true, true, true, true, true, false, false] rfl rfl (any_of HT_.out (by kernel_rfl)) (fun _ _ _ h => h) (Or.inr ⟨by rfl, rfl⟩) ?_ ?_
         rotate_left
         ·simp only [Act.put, List.setIfInBounds_toArray, List.set_cons_zero, List.set_cons_succ, i64_w, i32_w]
          rfl
         refine pure_ (i := 17) (N := some 39) (v := undef) (a' := ?_) #[true, true, true, true, true, true, true, true, true, true, true, true, true, true, true, true, true, true, false] rfl rfl (any_of HT_.out (by kernel_rfl)) (fun _ _ _ h => h) (Or.inr ⟨by rfl, rfl⟩) ?_ ?_
         rotate_left
         ·simp only [Act.put, List.setIfInBounds_toArray, List.set_cons_zero, List.set_cons_succ, i64_w, i32_w]
          rfl
         refine pure_ (i := 18) (N := some 40) (v := ?_) (a' := ?_) #[true, true, true, true, true, true, true, true, true, true, true, true, true, true, true, true, true, true, true] rfl rfl (any_of HT_.out (by kernel_rfl)) (fun _ _ _ h => h) (Or.inl ⟨by rfl, ?_⟩) ?_ ?_
         rotate_left
         ·intro w'
          go_simp
          with_reducible rfl
         rotate_left
         ·simp only [Act.put, List.setIfInBounds_toArray, List.set_cons_zero, List.set_cons_succ, i64_w, i32_w]
          rfl
         refine done_ (done_of HT_.out (by kernel_rfl)) ?_
         try go_wp2
         go_meet
         case rel => exact ⟨_, (true), (by first | rfl | (simp; done) | (simp [*]; done)), H', ⟨by have := HK1.out; first | omega | exact Nat.le_refl _⟩, ⟨pk BK218.out⟩, ⟨pk BK219.out⟩, ⟨pk BK221.out⟩, ⟨by repeat first | (with_reducible first | exact HB.out | refine bz ?_ (by assumption) | apply bA | apply bN | apply bD) | exact HB.out⟩⟩
       case rest =>
        clear HC13
        try clear c1
        try clear c2
        try clear p2
        try clear q2
        try clear hx2
        try clear c3
        try clear p6
        try clear c19
        try clear c20
        try clear c20b0
        try clear c22
        try clear c22b0
        try clear p22
        try clear q22
        try clear hx22
        try clear c23
        try clear c23b0
        try clear c30
        try clear hx223_0
        try clear hx223_1
        try clear hx223_2
        try clear hx223_3
        try clear hx223_4
        try clear hx223_5
        try clear hx223_6
        try clear hx223_7
        try clear p223
        try clear q223
        obtain ⟨kq, x40_12, rfl, HA, HJ12, BK218, BK219, BK221, HB⟩ := hcut
        cases kq with
        | zero => exact absurd HA.out (by simp [spec_LoopAt.j1])
        | succ kj12 =>
         have H := HA.out
         clear HA
         simp only [spec_LoopAt.j1] at H
         by_cases c33 : x40_12 = true
         ·subst c33
          have H1 : (some (0, 0, 0, 0, 0, 0, 0, false)) = some (r1, r2, r3, r4, r5, r6, r7, r8) := by rw [if_pos rfl] at H; exact H
          clear H
          have H := H1
          clear H1
          simp only [Option.some.injEq, Prod.mk.injEq] at H
          obtain ⟨rfl, rfl, rfl, rfl, rfl, rfl, rfl, rfl⟩ := H
          have hnb34 := NB218_219.out
          have hnc34 := NB219_218.out
          have hnb35 := NB218_221.out
          have hnc35 := NB221_218.out
          have hcz36_0 : wc.cell? ⟨gb218, 0, none⟩ = some (.int .i64 x219000_1) := (blk_cell BK218.out 0).trans rfl
          have hcz36_1 : wc.cell? ⟨gb218, 1, none⟩ = some (.int .i64 x219001_1) := (blk_cell BK218.out 1).trans rfl
          have hcz36_2 : wc.cell? ⟨gb218, 2, none⟩ = some (.int .i64 x219002_1) := (blk_cell BK218.out 2).trans rfl
          have hcz36_3 : wc.cell? ⟨gb218, 3, none⟩ = some (.int .i64 x219003_1) := (blk_cell BK218.out 3).trans rfl
          have hcz36_4 : wc.cell? ⟨gb218, 4, none⟩ = some (.int .i64 x219004_1) := (blk_cell BK218.out 4).trans rfl
          have hcz36_5 : wc.cell? ⟨gb218, 5, none⟩ = some (.int .i64 x219005_1) := (blk_cell BK218.out 5).trans rfl
          have hcz36_6 : wc.cell? ⟨gb218, 6, none⟩ = some (.int .i64 x219006_1) := (blk_cell BK218.out 6).trans rfl
          have hfz36_0 := blk_frozen BK218.out 0
          have hfz36_1 := blk_frozen BK218.out 1
          have hfz36_2 := blk_frozen BK218.out 2
          have hfz36_3 := blk_frozen BK218.out 3
          have hfz36_4 := blk_frozen BK218.out 4
          have hfz36_5 := blk_frozen BK218.out 5
          have hfz36_6 := blk_frozen BK218.out 6
          go_wp2
          refine bodyPost_ret (results_ct rfl _ _ gb218 30 #[.int .i64 0, .int .i64 0, .int .i64 0, .int .i64 0, .int .i64 0, .int .i64 0, .int .i64 0] (0, 0) _ rfl (by refine pk ?_; refine blk_put (cs := #[.int .i64 0, .int .i64 0, .int .i64 0, .int .i64 0, .int .i64 0, .int .i64 0, .int .i64 x219006_1]) ?_ 6 _ rfl; refine pk ?_; refine blk_put (cs := #[.int .i64 0, .int .i64 0, .int .i64 0, .int .i64 0, .int .i64 0, .int .i64 x219005_1, .int .i64 x219006_1]) ?_ 5 _ rfl; refine pk ?_; refine blk_put (cs := #[.int .i64 0, .int .i64 0, .int .i64 0, .int .i64 0, .int .i64 x219004_1, .int .i64 x219005_1, .int .i64 x219006_1]) ?_ 4 _ rfl; refine pk ?_; refine blk_put (cs := #[.int .i64 0, .int .i64 0, .int .i64 0, .int .i64 x219003_1, .int .i64 x219004_1, .int .i64 x219005_1, .int .i64 x219006_1]) ?_ 3 _ rfl; refine pk ?_; refine blk_put (cs := #[.int .i64 0, .int .i64 0, .int .i64 x219002_1, .int .i64 x219003_1, .int .i64 x219004_1, .int .i64 x219005_1, .int .i64 x219006_1]) ?_ 2 _ rfl; refine pk ?_; refine blk_put (cs := #[.int .i64 0, .int .i64 x219001_1, .int .i64 x219002_1, .int .i64 x219003_1, .int .i64 x219004_1, .int .i64 x219005_1, .int .i64 x219006_1]) ?_ 1 _ rfl; refine pk ?_; refine blk_put (cs := #[.int .i64 x219000_1, .int .i64 x219001_1, .int .i64 x219002_1, .int .i64 x219003_1, .int .i64 x219004_1, .int .i64 x219005_1, .int .i64 x219006_1]) ?_ 0 _ rfl; refine pk ?_; exact BK218.out) Try.underlying30 rfl (by kernel_rfl)) rfl ?_
          exact ⟨by first | rfl | (simp [errW_none, errW_some] <;> rfl) | (simp [*, errW_none, errW_some] <;> rfl), by repeat first | (with_reducible first | exact HB.out | refine bz ?_ (by assumption) | apply bA | apply bN | apply bD) | exact HB.out⟩
         ·replace c33 := Bool.eq_false_iff.mpr c33
          subst c33
          have H1 : (if ((rd_T45 l0 x17_1).f0) ≤ a1 then (spec_LoopAt.l0 kj12 l0 a1 true l0 (l0.length : Int) (wrap64 (x17_1 + 1)) ((rd_T45 l0 x17_1).f1.f0) ((rd_T45 l0 x17_1).f1.f1) ((rd_T45 l0 x17_1).f1.f2) ((rd_T45 l0 x17_1).f1.f3) ((rd_T45 l0 x17_1).f1.f4) ((rd_T45 l0 x17_1).f1.f5) ((rd_T45 l0 x17_1).f1.f6)) else (spec_LoopAt.l0 kj12 l0 a1 x7_1 l0 (l0.length : Int) (wrap64 (x17_1 + 1)) x220000_1 x220001_1 x220002_1 x220003_1 x220004_1 x220005_1 x220006_1)) = some (r1, r2, r3, r4, r5, r6, r7, r8) := by rw [if_neg (show ¬ (false = true) by decide)] at H; exact H
          clear H
          have H := H1
          clear H1
          by_cases c37 : ((rd_T45 l0 x17_1).f0) ≤ a1
          ·rw [if_pos c37] at H
           have c37b0 : decide (((rd_T45 l0 x17_1).f0) ≤ a1) = true := decide_eq_true c37
           clear c37
           have H' := Aside0.mk H
           clear H
           have hnb38 := NB221_218.out
           have hnc38 := NB218_221.out
           have hnb39 := NB221_219.out
           have hnc39 := NB219_221.out
           have hcz40_0 : wc.cell? ⟨gb221, 0, none⟩ = some (.int .i64 ((rd_T45 l0 x17_1).f0)) := (blk_cell BK221.out 0).trans rfl
           have hcz40_1 : wc.cell? ⟨gb221, 1, none⟩ = some (.int .i64 ((rd_T45 l0 x17_1).f1.f0)) := (blk_cell BK221.out 1).trans rfl
           have hcz40_2 : wc.cell? ⟨gb221, 2, none⟩ = some (.int .i64 ((rd_T45 l0 x17_1).f1.f1)) := (blk_cell BK221.out 2).trans rfl
           have hcz40_3 : wc.cell? ⟨gb221, 3, none⟩ = some (.int .i64 ((rd_T45 l0 x17_1).f1.f2)) := (blk_cell BK221.out 3).trans rfl
           have hcz40_4 : wc.cell? ⟨gb221, 4, none⟩ = some (.int .i64 ((rd_T45 l0 x17_1).f1.f3)) := (blk_cell BK221.out 4).trans rfl
           have hcz40_5 : wc.cell? ⟨gb221, 5, none⟩ = some (.int .i64 ((rd_T45 l0 x17_1).f1.f4)) := (blk_cell BK221.out 5).trans rfl
           have hcz40_6 : wc.cell? ⟨gb221, 6, none⟩ = some (.int .i64 ((rd_T45 l0 x17_1).f1.f5)) := (blk_cell BK221.out 6).trans rfl
           have hcz40_7 : wc.cell? ⟨gb221, 7, none⟩ = some (.int .i64 ((rd_T45 l0 x17_1).f1.f6)) := (blk_cell BK221.out 7).trans rfl
           have hfz40_0 := blk_frozen BK221.out 0
           have hfz40_1 := blk_frozen BK221.out 1
           have hfz40_2 := blk_frozen BK221.out 2
           have hfz40_3 := blk_frozen BK221.out 3
           have hfz40_4 := blk_frozen BK221.out 4
           have hfz40_5 := blk_frozen BK221.out 5
           have hfz40_6 := blk_frozen BK221.out 6
           have hfz40_7 := blk_frozen BK221.out 7
           have hnb41 := NB219_218.out
           have hnc41 := NB218_219.out
           have hcz42_0 : wc.cell? ⟨gb219, 0, none⟩ = some (.int .i64 x220000_1) := (blk_cell BK219.out 0).trans rfl
           have hcz42_1 : wc.cell? ⟨gb219, 1, none⟩ = some (.int .i64 x220001_1) := (blk_cell BK219.out 1).trans rfl
           have hcz42_2 : wc.cell? ⟨gb219, 2, none⟩ = some (.int .i64 x220002_1) := (blk_cell BK219.out 2).trans rfl
           have hcz42_3 : wc.cell? ⟨gb219, 3, none⟩ = some (.int .i64 x220003_1) := (blk_cell BK219.out 3).trans rfl
           have hcz42_4 : wc.cell? ⟨gb219, 4, none⟩ = some (.int .i64 x220004_1) := (blk_cell BK219.out 4).trans rfl
           have hcz42_5 : wc.cell? ⟨gb219, 5, none⟩ = some (.int .i64 x220005_1) := (blk_cell BK219.out 5).trans rfl
           have hcz42_6 : wc.cell? ⟨gb219, 6, none⟩ = some (.int .i64 x220006_1) := (blk_cell BK219.out 6).trans rfl
           have hfz42_0 := blk_frozen BK219.out 0
           have hfz42_1 := blk_frozen BK219.out 1
           have hfz42_2 := blk_frozen BK219.out 2
           have hfz42_3 := blk_frozen BK219.out 3
           have hfz42_4 := blk_frozen BK219.out 4
           have hfz42_5 := blk_frozen BK219.out 5
           have hfz42_6 := blk_frozen BK219.out 6
           go_wp2
           go_roundg kj12
           case measure => have := HK1.out; have := HJ12.out; omega
           case rel => exact ⟨(true), (wrap64 (x17_1 + 1)), (x219000_1), (x219001_1), (x219002_1), (x219003_1), (x219004_1), (x219005_1), (x219006_1), (((rd_T45 l0 x17_1).f1.f0)), (((rd_T45 l0 x17_1).f1.f1)), (((rd_T45 l0 x17_1).f1.f2)), (((rd_T45 l0 x17_1).f1.f3)), (((rd_T45 l0 x17_1).f1.f4)), (((rd_T45 l0 x17_1).f1.f5)), (((rd_T45 l0 x17_1).f1.f6)), (by first | rfl | (simp; done) | (simp [*]; done)), (by first | rfl | (simp; done) | (simp [*]; done)), H', ⟨by have := HK1.out; have := HJ12.out; omega⟩, ⟨by refine pk ?_; refine blk_far ?_ NB218_219.out _; refine pk ?_; refine blk_far ?_ NB218_219.out _; refine pk ?_; refine blk_far ?_ NB218_219.out _; refine pk ?_; refine blk_far ?_ NB218_219.out _; refine pk ?_; refine blk_far ?_ NB218_219.out _; refine pk ?_; refine blk_far ?_ NB218_219.out _; refine pk ?_; refine blk_far ?_ NB218_219.out _; refine pk ?_; exact BK218.out⟩, ⟨by refine pk ?_; refine blk_put (cs := #[.int .i64 ((rd_T45 l0 x17_1).f1.f0), .int .i64 ((rd_T45 l0 x17_1).f1.f1), .int .i64 ((rd_T45 l0 x17_1).f1.f2), .int .i64 ((rd_T45 l0 x17_1).f1.f3), .int .i64 ((rd_T45 l0 x17_1).f1.f4), .int .i64 ((rd_T45 l0 x17_1).f1.f5), .int .i64 x220006_1]) ?_ 6 _ rfl; refine pk ?_; refine blk_put (cs := #[.int .i64 ((rd_T45 l0 x17_1).f1.f0), .int .i64 ((rd_T45 l0 x17_1).f1.f1), .int .i64 ((rd_T45 l0 x17_1).f1.f2), .int .i64 ((rd_T45 l0 x17_1).f1.f3), .int .i64 ((rd_T45 l0 x17_1).f1.f4), .int .i64 x220005_1, .int .i64 x220006_1]) ?_ 5 _ rfl; refine pk ?_; refine blk_put (cs := #[.int .i64 ((rd_T45 l0 x17_1).f1.f0), .int .i64 ((rd_T45 l0 x17_1).f1.f1), .int .i64 ((rd_T45 l0 x17_1).f1.f2), .int .i64 ((rd_T45 l0 x17_1).f1.f3), .int .i64 x220004_1, .int .i64 x220005_1, .int .i64 x220006_1]) ?_ 4 _ rfl; refine pk ?_; refine blk_put (cs := #[.int .i64 ((rd_T45 l0 x17_1).f1.f0), .int .i64 ((rd_T45 l0 x17_1).f1.f1), .int .i64 ((rd_T45 l0 x17_1).f1.f2), .int .i64 x220003_1, .int .i64 x220004_1, .int .i64 x220005_1, .int .i64 x220006_1]) ?_ 3 _ rfl; refine pk ?_; refine blk_put (cs := #[.int .i64 ((rd_T45 l0 x17_1).f1.f0), .int .i64 ((rd_T45 l0 x17_1).f1.f1), .int .i64 x220002_1, .int .i64 x220003_1, .int .i64 x220004_1, .int .i64 x220005_1, .int .i64 x220006_1]) ?_ 2 _ rfl; refine pk ?_; refine blk_put (cs := #[.int .i64 ((rd_T45 l0 x17_1).f1.f0), .int .i64 x220001_1, .int .i64 x220002_1, .int .i64 x220003_1, .int .i64 x220004_1, .int .i64 x220005_1, .int .i64 x220006_1]) ?_ 1 _ rfl; refine pk ?_; refine blk_put (cs := #[.int .i64 x220000_1, .int .i64 x220001_1, .int .i64 x220002_1, .int .i64 x220003_1, .int .i64 x220004_1, .int .i64 x220005_1, .int .i64 x220006_1]) ?_ 0 _ rfl; refine pk ?_; exact BK219.out⟩, ⟨by repeat first | (with_reducible first | exact HB.out | refine bz ?_ (by assumption) | apply bA | apply bN | apply bD) | exact HB.out⟩⟩
          ·rw [if_neg c37] at H
           have c37b0 : decide (((rd_T45 l0 x17_1).f0) ≤ a1) = false := decide_eq_false c37
           clear c37
           have H' := Aside0.mk H
           clear H
           have hnb43 := NB221_218.out
           have hnc43 := NB218_221.out
           have hnb44 := NB221_219.out
           have hnc44 := NB219_221.out
           have hcz45_0 : wc.cell? ⟨gb221, 0, none⟩ = some (.int .i64 ((rd_T45 l0 x17_1).f0)) := (blk_cell BK221.out 0).trans rfl
           have hcz45_1 : wc.cell? ⟨gb221, 1, none⟩ = some (.int .i64 ((rd_T45 l0 x17_1).f1.f0)) := (blk_cell BK221.out 1).trans rfl
           have hcz45_2 : wc.cell? ⟨gb221, 2, none⟩ = some (.int .i64 ((rd_T45 l0 x17_1).f1.f1)) := (blk_cell BK221.out 2).trans rfl
           have hcz45_3 : wc.cell? ⟨gb221, 3, none⟩ = some (.int .i64 ((rd_T45 l0 x17_1).f1.f2)) := (blk_cell BK221.out 3).trans rfl
           have hcz45_4 : wc.cell? ⟨gb221, 4, none⟩ = some (.int .i64 ((rd_T45 l0 x17_1).f1.f3)) := (blk_cell BK221.out 4).trans rfl
           have hcz45_5 : wc.cell? ⟨gb221, 5, none⟩ = some (.int .i64 ((rd_T45 l0 x17_1).f1.f4)) := (blk_cell BK221.out 5).trans rfl
           have hcz45_6 : wc.cell? ⟨gb221, 6, none⟩ = some (.int .i64 ((rd_T45 l0 x17_1).f1.f5)) := (blk_cell BK221.out 6).trans rfl
           have hcz45_7 : wc.cell? ⟨gb221, 7, none⟩ = some (.int .i64 ((rd_T45 l0 x17_1).f1.f6)) := (blk_cell BK221.out 7).trans rfl
           have hfz45_0 := blk_frozen BK221.out 0
           have hfz45_1 := blk_frozen BK221.out 1
           have hfz45_2 := blk_frozen BK221.out 2
           have hfz45_3 := blk_frozen BK221.out 3
           have hfz45_4 := blk_frozen BK221.out 4
           have hfz45_5 := blk_frozen BK221.out 5
           have hfz45_6 := blk_frozen BK221.out 6
           have hfz45_7 := blk_frozen BK221.out 7
           go_wp2
           go_roundg kj12
           case measure => have := HK1.out; have := HJ12.out; omega
           case rel => exact ⟨(x7_1), (wrap64 (x17_1 + 1)), (x219000_1), (x219001_1), (x219002_1), (x219003_1), (x219004_1), (x219005_1), (x219006_1), (x220000_1), (x220001_1), (x220002_1), (x220003_1), (x220004_1), (x220005_1), (x220006_1), (by first | rfl | (simp; done) | (simp [*]; done)), (by first | rfl | (simp; done) | (simp [*]; done)), H', ⟨by have := HK1.out; have := HJ12.out; omega⟩, ⟨pk BK218.out⟩, ⟨pk BK219.out⟩, ⟨by repeat first | (with_reducible first | exact HB.out | refine bz ?_ (by assumption) | apply bA | apply bN | apply bD) | exact HB.out⟩⟩
      ·rw [if_neg c12] at H
       exact absurd H (by simp)
     ·rw [if_neg c11] at H
      exact absurd H (by simp)
    ·rw [if_neg c10] at H
     have c10b0 : decide (x17_1 < (l0.length : Int)) = false := decide_eq_false c10
     clear c10
     simp only [Option.some.injEq, Prod.mk.injEq] at H
     obtain ⟨rfl, rfl, rfl, rfl, rfl, rfl, rfl, rfl⟩ := H
     have hnb46 := NB219_218.out
     have hnc46 := NB218_219.out
     have hcz47_0 : wr.cell? ⟨gb219, 0, none⟩ = some (.int .i64 x220000_1) := (blk_cell BK219.out 0).trans rfl
     have hcz47_1 : wr.cell? ⟨gb219, 1, none⟩ = some (.int .i64 x220001_1) := (blk_cell BK219.out 1).trans rfl
     have hcz47_2 : wr.cell? ⟨gb219, 2, none⟩ = some (.int .i64 x220002_1) := (blk_cell BK219.out 2).trans rfl
     have hcz47_3 : wr.cell? ⟨gb219, 3, none⟩ = some (.int .i64 x220003_1) := (blk_cell BK219.out 3).trans rfl
     have hcz47_4 : wr.cell? ⟨gb219, 4, none⟩ = some (.int .i64 x220004_1) := (blk_cell BK219.out 4).trans rfl
     have hcz47_5 : wr.cell? ⟨gb219, 5, none⟩ = some (.int .i64 x220005_1) := (blk_cell BK219.out 5).trans rfl
     have hcz47_6 : wr.cell? ⟨gb219, 6, none⟩ = some (.int .i64 x220006_1) := (blk_cell BK219.out 6).trans rfl
     have hfz47_0 := blk_frozen BK219.out 0
     have hfz47_1 := blk_frozen BK219.out 1
     have hfz47_2 := blk_frozen BK219.out 2
     have hfz47_3 := blk_frozen BK219.out 3
     have hfz47_4 := blk_frozen BK219.out 4
     have hfz47_5 := blk_frozen BK219.out 5
     have hfz47_6 := blk_frozen BK219.out 6
     have hcz48_0 : wr.cell? ⟨gb218, 0, none⟩ = some (.int .i64 x219000_1) := (blk_cell BK218.out 0).trans rfl
     have hcz48_1 : wr.cell? ⟨gb218, 1, none⟩ = some (.int .i64 x219001_1) := (blk_cell BK218.out 1).trans rfl
     have hcz48_2 : wr.cell? ⟨gb218, 2, none⟩ = some (.int .i64 x219002_1) := (blk_cell BK218.out 2).trans rfl
     have hcz48_3 : wr.cell? ⟨gb218, 3, none⟩ = some (.int .i64 x219003_1) := (blk_cell BK218.out 3).trans rfl
     have hcz48_4 : wr.cell? ⟨gb218, 4, none⟩ = some (.int .i64 x219004_1) := (blk_cell BK218.out 4).trans rfl
     have hcz48_5 : wr.cell? ⟨gb218, 5, none⟩ = some (.int .i64 x219005_1) := (blk_cell BK218.out 5).trans rfl
     have hcz48_6 : wr.cell? ⟨gb218, 6, none⟩ = some (.int .i64 x219006_1) := (blk_cell BK218.out 6).trans rfl
     have hfz48_0 := blk_frozen BK218.out 0
     have hfz48_1 := blk_frozen BK218.out 1
     have hfz48_2 := blk_frozen BK218.out 2
     have hfz48_3 := blk_frozen BK218.out 3
     have hfz48_4 := blk_frozen BK218.out 4
     have hfz48_5 := blk_frozen BK218.out 5
     have hfz48_6 := blk_frozen BK218.out 6
     go_wp2
     refine bodyPost_ret (results_ct rfl _ _ gb218 30 #[.int .i64 x220000_1, .int .i64 x220001_1, .int .i64 x220002_1, .int .i64 x220003_1, .int .i64 x220004_1, .int .i64 x220005_1, .int .i64 x220006_1] (0, 0) _ rfl (by refine pk ?_; refine blk_put (cs := #[.int .i64 x220000_1, .int .i64 x220001_1, .int .i64 x220002_1, .int .i64 x220003_1, .int .i64 x220004_1, .int .i64 x220005_1, .int .i64 x219006_1]) ?_ 6 _ rfl; refine pk ?_; refine blk_put (cs := #[.int .i64 x220000_1, .int .i64 x220001_1, .int .i64 x220002_1, .int .i64 x220003_1, .int .i64 x220004_1, .int .i64 x219005_1, .int .i64 x219006_1]) ?_ 5 _ rfl; refine pk ?_; refine blk_put (cs := #[.int .i64 x220000_1, .int .i64 x220001_1, .int .i64 x220002_1, .int .i64 x220003_1, .int .i64 x219004_1, .int .i64 x219005_1, .int .i64 x219006_1]) ?_ 4 _ rfl; refine pk ?_; refine blk_put (cs := #[.int .i64 x220000_1, .int .i64 x220001_1, .int .i64 x220002_1, .int .i64 x219003_1, .int .i64 x219004_1, .int .i64 x219005_1, .int .i64 x219006_1]) ?_ 3 _ rfl; refine pk ?_; refine blk_put (cs := #[.int .i64 x220000_1, .int .i64 x220001_1, .int .i64 x219002_1, .int .i64 x219003_1, .int .i64 x219004_1, .int .i64 x219005_1, .int .i64 x219006_1]) ?_ 2 _ rfl; refine pk ?_; refine blk_put (cs := #[.int .i64 x220000_1, .int .i64 x219001_1, .int .i64 x219002_1, .int .i64 x219003_1, .int .i64 x219004_1, .int .i64 x219005_1, .int .i64 x219006_1]) ?_ 1 _ rfl; refine pk ?_; refine blk_put (cs := #[.int .i64 x219000_1, .int .i64 x219001_1, .int .i64 x219002_1, .int .i64 x219003_1, .int .i64 x219004_1, .int .i64 x219005_1, .int .i64 x219006_1]) ?_ 0 _ rfl; refine pk ?_; exact BK218.out) Try.underlying30 rfl (by kernel_rfl)) rfl ?_
     exact ⟨by first | rfl | (simp [errW_none, errW_some] <;> rfl) | (simp [*, errW_none, errW_some] <;> rfl), by repeat first | (with_reducible first | exact HB.out | refine bz ?_ (by assumption) | apply bA | apply bN | apply bD) | exact HB.out⟩

end Go.Proofs.Ytineniimpdjpnaa.PFnGains
