-- Written by a program of this session out of the loaded functions' print; helper lemmas as print.sh lays them.
import Derived.Test.YtineniimpdjpnaaUp
import Derived.Test.YtineniimpdjpnaaRFnGainsx0
import Derived.Test.YtineniimpdjpnaaRFnGainsx4
namespace Go.Proofs.Ytineniimpdjpnaa.PFnGains
open Go.RowKit Go.Proofs.YtineniimpdjpnaaW.PrintWords Go.Proofs.YtineniimpdjpnaaW.PrintLast Go.Proofs.YtineniimpdjpnaaW.PrintMore
attribute [local go_sem] max2_int min2_int max_two min_two max_three min_three max_four min_four  -- for this text's walks alone
set_option linter.unusedVariables false
set_option linter.unusedSimpArgs false

/-! ### impl_LoopAt: function 16 -/
mutual
def impl_LoopAt.l0 : Nat → List (S45) → Int → Bool → List (S45) → Int → Int → Int → Int → Int → Int → Int → Int → Int → Option (Int × Int × Int × Int × Int × Int × Int × Bool)
 | 0, _, _, _, _, _, _, _, _, _, _, _, _, _ => none
 | k + 1, x0, x1, x7, x14, x15, x16, x213000, x213001, x213002, x213003, x213004, x213005, x213006 => if x16 < x15 then (if 0 ≤ x16 then (if x16 < (x14.length : Int) then ((impl_GoodLoop.f ((rd_T45 x14 x16).f1.f0) ((rd_T45 x14 x16).f1.f1) ((rd_T45 x14 x16).f1.f2) ((rd_T45 x14 x16).f1.f3) ((rd_T45 x14 x16).f1.f4) ((rd_T45 x14 x16).f1.f5) ((rd_T45 x14 x16).f1.f6)).bind fun t215 => (if t215 = true then (if x16 > 0 then (if 0 ≤ (wrap64 (x16 - 1)) then (if (wrap64 (x16 - 1)) < (x0.length : Int) then (impl_LoopAt.j1 k x0 x1 x7 x14 x15 x16 (decide (((rd_T45 x14 x16).f0) ≤ ((rd_T45 x0 (wrap64 (x16 - 1))).f0))) x213000 x213001 x213002 x213003 x213004 x213005 x213006 ((rd_T45 x14 x16).f0) ((rd_T45 x14 x16).f1.f0) ((rd_T45 x14 x16).f1.f1) ((rd_T45 x14 x16).f1.f2) ((rd_T45 x14 x16).f1.f3) ((rd_T45 x14 x16).f1.f4) ((rd_T45 x14 x16).f1.f5) ((rd_T45 x14 x16).f1.f6)) else (none)) else (none)) else (impl_LoopAt.j1 k x0 x1 x7 x14 x15 x16 false x213000 x213001 x213002 x213003 x213004 x213005 x213006 ((rd_T45 x14 x16).f0) ((rd_T45 x14 x16).f1.f0) ((rd_T45 x14 x16).f1.f1) ((rd_T45 x14 x16).f1.f2) ((rd_T45 x14 x16).f1.f3) ((rd_T45 x14 x16).f1.f4) ((rd_T45 x14 x16).f1.f5) ((rd_T45 x14 x16).f1.f6))) else (impl_LoopAt.j1 k x0 x1 x7 x14 x15 x16 true x213000 x213001 x213002 x213003 x213004 x213005 x213006 ((rd_T45 x14 x16).f0) ((rd_T45 x14 x16).f1.f0) ((rd_T45 x14 x16).f1.f1) ((rd_T45 x14 x16).f1.f2) ((rd_T45 x14 x16).f1.f3) ((rd_T45 x14 x16).f1.f4) ((rd_T45 x14 x16).f1.f5) ((rd_T45 x14 x16).f1.f6)))) else (none)) else (none)) else (some (x213000, x213001, x213002, x213003, x213004, x213005, x213006, x7))
def impl_LoopAt.j1 : Nat → List (S45) → Int → Bool → List (S45) → Int → Int → Bool → Int → Int → Int → Int → Int → Int → Int → Int → Int → Int → Int → Int → Int → Int → Int → Option (Int × Int × Int × Int × Int × Int × Int × Bool)
 | 0, _, _, _, _, _, _, _, _, _, _, _, _, _, _, _, _, _, _, _, _, _, _ => none
 | k + 1, x0, x1, x7, x14, x15, x16, x39, x213000, x213001, x213002, x213003, x213004, x213005, x213006, x215000, x215001, x215002, x215003, x215004, x215005, x215006, x215007 => if x39 = true then (some (0, 0, 0, 0, 0, 0, 0, false)) else (if x215000 ≤ x1 then (impl_LoopAt.l0 k x0 x1 true x14 x15 (wrap64 (x16 + 1)) x215001 x215002 x215003 x215004 x215005 x215006 x215007) else (impl_LoopAt.l0 k x0 x1 x7 x14 x15 (wrap64 (x16 + 1)) x213000 x213001 x213002 x213003 x213004 x213005 x213006))
end
def impl_LoopAt.f (k : Nat) (l0 : List (S45)) (a1 : Int) : Option (Int × Int × Int × Int × Int × Int × Int × Bool) := if (l0.length : Int) > 60 then (some (0, 0, 0, 0, 0, 0, 0, false)) else (impl_LoopAt.l0 k l0 a1 false l0 (l0.length : Int) 0 0 0 0 0 0 0 0)
theorem impl_LoopAt.mono_l : ∀ k, (∀ y0 y1 y2 y3 y4 y5 y6 y7 y8 y9 y10 y11 y12, LeO (impl_LoopAt.l0 k y0 y1 y2 y3 y4 y5 y6 y7 y8 y9 y10 y11 y12) (impl_LoopAt.l0 (k + 1) y0 y1 y2 y3 y4 y5 y6 y7 y8 y9 y10 y11 y12)) ∧ (∀ y0 y1 y2 y3 y4 y5 y6 y7 y8 y9 y10 y11 y12 y13 y14 y15 y16 y17 y18 y19 y20 y21, LeO (impl_LoopAt.j1 k y0 y1 y2 y3 y4 y5 y6 y7 y8 y9 y10 y11 y12 y13 y14 y15 y16 y17 y18 y19 y20 y21) (impl_LoopAt.j1 (k + 1) y0 y1 y2 y3 y4 y5 y6 y7 y8 y9 y10 y11 y12 y13 y14 y15 y16 y17 y18 y19 y20 y21))
 | 0 => ⟨fun _ _ _ _ _ _ _ _ _ _ _ _ _ r h => by simp [impl_LoopAt.l0] at h, fun _ _ _ _ _ _ _ _ _ _ _ _ _ _ _ _ _ _ _ _ _ _ r h => by simp [impl_LoopAt.j1] at h⟩
 | k + 1 => by
  obtain ⟨ih0, ih1⟩ := impl_LoopAt.mono_l k
  refine ⟨?_, ?_⟩
  ·intro y0 y1 y2 y3 y4 y5 y6 y7 y8 y9 y10 y11 y12
   unfold impl_LoopAt.l0
   repeat' first
   | (with_reducible exact ih0 _ _ _ _ _ _ _ _ _ _ _ _ _)
   | (with_reducible exact ih1 _ _ _ _ _ _ _ _ _ _ _ _ _ _ _ _ _ _ _ _ _ _)
   | (with_reducible exact LeO.refl _)
   | (with_reducible exact LeO.none _)
   | (with_reducible refine LeO.ite ?_ ?_)
   | (with_reducible refine LeO.bind ?_ (fun _ => ?_))
   | exact ih0 _ _ _ _ _ _ _ _ _ _ _ _ _
   | exact ih1 _ _ _ _ _ _ _ _ _ _ _ _ _ _ _ _ _ _ _ _ _ _
   | exact LeO.none _
   | refine LeO.ite ?_ ?_
   | refine LeO.bind ?_ (fun _ => ?_)
  ·intro y0 y1 y2 y3 y4 y5 y6 y7 y8 y9 y10 y11 y12 y13 y14 y15 y16 y17 y18 y19 y20 y21
   unfold impl_LoopAt.j1
   repeat' first
   | (with_reducible exact ih0 _ _ _ _ _ _ _ _ _ _ _ _ _)
   | (with_reducible exact ih1 _ _ _ _ _ _ _ _ _ _ _ _ _ _ _ _ _ _ _ _ _ _)
   | (with_reducible exact LeO.refl _)
   | (with_reducible exact LeO.none _)
   | (with_reducible refine LeO.ite ?_ ?_)
   | (with_reducible refine LeO.bind ?_ (fun _ => ?_))
   | exact ih0 _ _ _ _ _ _ _ _ _ _ _ _ _
   | exact ih1 _ _ _ _ _ _ _ _ _ _ _ _ _ _ _ _ _ _ _ _ _ _
   | exact LeO.none _
   | refine LeO.ite ?_ ?_
   | refine LeO.bind ?_ (fun _ => ?_)
theorem impl_LoopAt.mono : ∀ a0 a1 k, LeO (impl_LoopAt.f k a0 a1) (impl_LoopAt.f (k + 1) a0 a1) := by
 intro a0 a1 k
 obtain ⟨ih0, ih1⟩ := impl_LoopAt.mono_l k
 unfold impl_LoopAt.f
 repeat' first
   | (with_reducible exact ih0 _ _ _ _ _ _ _ _ _ _ _ _ _)
   | (with_reducible exact ih1 _ _ _ _ _ _ _ _ _ _ _ _ _ _ _ _ _ _ _ _ _ _)
   | (with_reducible exact LeO.refl _)
   | (with_reducible exact LeO.none _)
   | (with_reducible refine LeO.ite ?_ ?_)
   | (with_reducible refine LeO.bind ?_ (fun _ => ?_))
   | exact ih0 _ _ _ _ _ _ _ _ _ _ _ _ _
   | exact ih1 _ _ _ _ _ _ _ _ _ _ _ _ _ _ _ _ _ _ _ _ _ _
   | exact LeO.none _
   | refine LeO.ite ?_ ?_
   | refine LeO.bind ?_ (fun _ => ?_)
def impl_LoopAt.T8 : Bool × List (List Nat × List Nat) := (true, [([], []), ([0], [0]), ([1], [1]), ([2], [2]), ([3, 2], [3]), ([4], [4]), ([5, 4], [4, 5]), ([6, 4, 4], [4, 6]), ([7], [7]), ([8, 7], [7, 8]), ([7], [7]), ([7], [7]), ([11, 7], [7, 11]), ([10, 12, 7], [7, 10, 12]), ([13, 7], [7, 13]), ([14, 7], [7, 14]), ([9, 15, 7], [7, 9, 15]), ([7, 16, 4], [4, 7, 16]), ([4, 17], [4, 17])])
def impl_LoopAt.B8 : List Nat := [0, 1, 3, 7, 15, 31, 63, 127, 255, 511, 255, 255, 2303, 7423, 15615, 31999, 65535, 131071, 262143]
theorem impl_LoopAt.tab8 : rtab .any (opsOf Try.f16 8) = impl_LoopAt.T8 := by kernel_rfl
theorem impl_LoopAt.bits8 : waitsOk impl_LoopAt.T8.2 impl_LoopAt.B8 = true := by kernel_rfl
set_option maxHeartbeats 8000000 in
set_option maxRecDepth 100000 in
theorem impl_LoopAt.calls (k : Nat) (A0 : Option Addr) (c0 : Nat) (l0 : List (S45)) (a1 : Int) (r1 : Int) (r2 : Int) (r3 : Int) (r4 : Int) (r5 : Int) (r6 : Int) (r7 : Int) (r8 : Bool) (w : World) (hr0 : Kd.C k45 w A0 l0.length l0) (hc0 : l0.length ≤ c0) (h : impl_LoopAt.f k l0 a1 = some (r1, r2, r3, r4, r5, r6, r7, r8)) :
  Calls Try.prog 16 #[.slice A0 l0.length c0, .int .i64 a1] w fun e w' => e = .returned (.tuple #[.agg #[.int .i64 r1, .int .i64 r2, .int .i64 r3, .int .i64 r4, .int .i64 r5, .int .i64 r6, .int .i64 r7], .bool r8]) ∧ Below w.heap.size w w' := by
 have hu30 := Try.underlying30
 have hu45 := Try.underlying45
 have HR0 := Aside0.mk hr0
 have HC0 := Aside0.mk hc0
 clear hr0 hc0
 have HB := a_ (Below.refl w.heap.size w)
 have H : (if (l0.length : Int) > 60 then (some (0, 0, 0, 0, 0, 0, 0, false)) else (impl_LoopAt.l0 k l0 a1 false l0 (l0.length : Int) 0 0 0 0 0 0 0 0)) = some (r1, r2, r3, r4, r5, r6, r7, r8) := h
 clear h
 by_cases c3 : (l0.length : Int) > 60
 ·rw [if_pos c3] at H
  have c3b0 : decide (60 < (l0.length : Int)) = true := decide_eq_true c3
  have c3b1 : decide (60 < l0.length) = true := decide_eq_true (by omega)
  clear c3
  simp only [Option.some.injEq, Prod.mk.injEq] at H
  obtain ⟨rfl, rfl, rfl, rfl, rfl, rfl, rfl, rfl⟩ := H
  go_enter Try.func16, Try.ntmps16
  go_wp2_with (first | ((with_reducible refine gate_dst (N := 4) rfl ?_); refine box_event ?hg (N := 4) ?hd (cs := #[.int .i64 0, .int .i64 0, .int .i64 0, .int .i64 0, .int .i64 0, .int .i64 0, .int .i64 0]) (t := 30) ?hr ?_; (case hd => rfl); (case hg => rfl); (case hr => first | (go_simp; done) | (go_simp; rfl)); intro gb211 hg w4 hbox hb; have BK211 := a_ (hbox); have GW211 := a_ (bsg hg HB.out); have GE211 := a_ (bsg hg HB.out); replace HB := a_ (below_step (un HB.out) hb); clear hb hbox hg; have hcz5_0 : _ = some (Value.int .i64 0) := (blk_cell BK211.out 0).trans rfl; have hcz5_1 : _ = some (Value.int .i64 0) := (blk_cell BK211.out 1).trans rfl; have hcz5_2 : _ = some (Value.int .i64 0) := (blk_cell BK211.out 2).trans rfl; have hcz5_3 : _ = some (Value.int .i64 0) := (blk_cell BK211.out 3).trans rfl; have hcz5_4 : _ = some (Value.int .i64 0) := (blk_cell BK211.out 4).trans rfl; have hcz5_5 : _ = some (Value.int .i64 0) := (blk_cell BK211.out 5).trans rfl; have hcz5_6 : _ = some (Value.int .i64 0) := (blk_cell BK211.out 6).trans rfl; have hfz5_0 := blk_frozen BK211.out 0; have hfz5_1 := blk_frozen BK211.out 1; have hfz5_2 := blk_frozen BK211.out 2; have hfz5_3 := blk_frozen BK211.out 3; have hfz5_4 := blk_frozen BK211.out 4; have hfz5_5 := blk_frozen BK211.out 5; have hfz5_6 := blk_frozen BK211.out 6))
  refine bodyPost_ret (results_ct rfl _ _ gb211 30 #[.int .i64 0, .int .i64 0, .int .i64 0, .int .i64 0, .int .i64 0, .int .i64 0, .int .i64 0] (0, 0) _ rfl (by refine pk ?_; refine blk_put (cs := #[.int .i64 0, .int .i64 0, .int .i64 0, .int .i64 0, .int .i64 0, .int .i64 0, .int .i64 0]) ?_ 6 _ rfl; refine pk ?_; refine blk_put (cs := #[.int .i64 0, .int .i64 0, .int .i64 0, .int .i64 0, .int .i64 0, .int .i64 0, .int .i64 0]) ?_ 5 _ rfl; refine pk ?_; refine blk_put (cs := #[.int .i64 0, .int .i64 0, .int .i64 0, .int .i64 0, .int .i64 0, .int .i64 0, .int .i64 0]) ?_ 4 _ rfl; refine pk ?_; refine blk_put (cs := #[.int .i64 0, .int .i64 0, .int .i64 0, .int .i64 0, .int .i64 0, .int .i64 0, .int .i64 0]) ?_ 3 _ rfl; refine pk ?_; refine blk_put (cs := #[.int .i64 0, .int .i64 0, .int .i64 0, .int .i64 0, .int .i64 0, .int .i64 0, .int .i64 0]) ?_ 2 _ rfl; refine pk ?_; refine blk_put (cs := #[.int .i64 0, .int .i64 0, .int .i64 0, .int .i64 0, .int .i64 0, .int .i64 0, .int .i64 0]) ?_ 1 _ rfl; refine pk ?_; refine blk_put (cs := #[.int .i64 0, .int .i64 0, .int .i64 0, .int .i64 0, .int .i64 0, .int .i64 0, .int .i64 0]) ?_ 0 _ rfl; refine pk ?_; exact BK211.out) Try.underlying30 rfl (by kernel_rfl)) rfl ?_
  exact ⟨by first | rfl | (simp [errW_none, errW_some] <;> rfl) | (simp [*, errW_none, errW_some] <;> rfl), by repeat first | (with_reducible first | exact HB.out | refine bz ?_ (by assumption) | apply bA | apply bN | apply bD) | exact HB.out⟩
 ·rw [if_neg c3] at H
  have c3b0 : decide (60 < (l0.length : Int)) = false := decide_eq_false c3
  have c3b1 : decide (60 < l0.length) = false := decide_eq_false (by omega)
  clear c3
  have H' := Aside0.mk H
  clear H
  go_enter Try.func16, Try.ntmps16
  go_wp2_with (first | ((with_reducible refine gate_dst (N := 4) rfl ?_); refine box_event ?hg (N := 4) ?hd (cs := #[.int .i64 0, .int .i64 0, .int .i64 0, .int .i64 0, .int .i64 0, .int .i64 0, .int .i64 0]) (t := 30) ?hr ?_; (case hd => rfl); (case hg => rfl); (case hr => first | (go_simp; done) | (go_simp; rfl)); intro gb211 hg w6 hbox hb; have BK211 := a_ (hbox); have GW211 := a_ (bsg hg HB.out); have GE211 := a_ (bsg hg HB.out); replace HB := a_ (below_step (un HB.out) hb); clear hb hbox hg) | ((with_reducible refine gate_dst (N := 6) rfl ?_); refine box_event ?hg (N := 6) ?hd (cs := #[.int .i64 0, .int .i64 0, .int .i64 0, .int .i64 0, .int .i64 0, .int .i64 0, .int .i64 0]) (t := 30) ?hr ?_; (case hd => rfl); (case hg => rfl); (case hr => first | (go_simp; done) | (go_simp; rfl)); intro gb212 hg w7 hbox hb; have BK212 := a_ (hbox); have GW212 := a_ (bsg hg HB.out); have GE212 := a_ (bsg hg HB.out); replace HB := a_ (below_step (by repeat first | (with_reducible first | exact HB.out | refine bz ?_ (by assumption) | apply bA | apply bN | apply bD) | exact HB.out) hb); have NB211_212 := a_ (nel hg BK211.out); have NB212_211 := a_ (nle hg BK211.out); replace BK211 := a_ (blk_below (pk BK211.out) hb); clear hb hbox hg))
  go_loopg [7, 16] k (fun kq v7 v16 w' => ∃ (x7_1 : Bool) (x16_1 : Int) (x212000_1 : Int) (x212001_1 : Int) (x212002_1 : Int) (x212003_1 : Int) (x212004_1 : Int) (x212005_1 : Int) (x212006_1 : Int) (x213000_1 : Int) (x213001_1 : Int) (x213002_1 : Int) (x213003_1 : Int) (x213004_1 : Int) (x213005_1 : Int) (x213006_1 : Int), v7 = .bool x7_1 ∧ v16 = .int .i64 x16_1 ∧ Aside0 (impl_LoopAt.l0 kq l0 a1 x7_1 l0 (l0.length : Int) x16_1 x213000_1 x213001_1 x213002_1 x213003_1 x213004_1 x213005_1 x213006_1 = some (r1, r2, r3, r4, r5, r6, r7, r8)) ∧ Aside0 (kq ≤ k) ∧ Aside0 (w'.heap[gb211]? = some (.cells #[.int .i64 x212000_1, .int .i64 x212001_1, .int .i64 x212002_1, .int .i64 x212003_1, .int .i64 x212004_1, .int .i64 x212005_1, .int .i64 x212006_1] 30 (0, 0))) ∧ Aside0 (w'.heap[gb212]? = some (.cells #[.int .i64 x213000_1, .int .i64 x213001_1, .int .i64 x213002_1, .int .i64 x213003_1, .int .i64 x213004_1, .int .i64 x213005_1, .int .i64 x213006_1] 30 (0, 0))) ∧ Aside0 (Below w.heap.size w w'))
  case atStart => exact ⟨(false), (0), (0), (0), (0), (0), (0), (0), (0), (0), (0), (0), (0), (0), (0), (0), (by first | rfl | (simp; done) | (simp [*]; done)), (by first | rfl | (simp; done) | (simp [*]; done)), H', ⟨Nat.le_refl _⟩, ⟨pk BK211.out⟩, ⟨pk BK212.out⟩, ⟨by repeat first | (with_reducible first | exact HB.out | refine bz ?_ (by assumption) | apply bA | apply bN | apply bD) | exact HB.out⟩⟩
  case round =>
   clear H'
   try clear c1
   try clear p2
   try clear c3
   try clear c3b0
   try clear c3b1
   try clear hcz5_0
   try clear hcz5_1
   try clear hcz5_2
   try clear hcz5_3
   try clear hcz5_4
   try clear hcz5_5
   try clear hcz5_6
   try clear hfz5_0
   try clear hfz5_1
   try clear hfz5_2
   try clear hfz5_3
   try clear hfz5_4
   try clear hfz5_5
   try clear hfz5_6
   obtain ⟨x7_1, x16_1, x212000_1, x212001_1, x212002_1, x212003_1, x212004_1, x212005_1, x212006_1, x213000_1, x213001_1, x213002_1, x213003_1, x213004_1, x213005_1, x213006_1, rfl, rfl, HA, HK1, BK211, BK212, HB⟩ := hrel
   cases gk with
   | zero => exact absurd HA.out (by simp [impl_LoopAt.l0])
   | succ k1 =>
    have H := HA.out
    clear HA
    simp only [impl_LoopAt.l0] at H
    by_cases c8 : x16_1 < (l0.length : Int)
    ·rw [if_pos c8] at H
     have c8b0 : decide (x16_1 < (l0.length : Int)) = true := decide_eq_true c8
     clear c8
     by_cases c9 : 0 ≤ x16_1
     ·rw [if_pos c9] at H
      have c9b0 : decide (0 ≤ x16_1) = true := decide_eq_true c9
      clear c9
      by_cases c10 : x16_1 < (l0.length : Int)
      ·rw [if_pos c10] at H
       have c10b0 : decide (x16_1 < (l0.length : Int)) = true := decide_eq_true c10
       clear c10
       have HC11 := Aside0.mk H
       clear H
       have p213 : 0 ≤ (x16_1 : Int) := of_decide_eq_true (by first | (with_reducible assumption) | assumption)
       have q213 : x16_1 < (l0.length : Int) := of_decide_eq_true (by first | (with_reducible assumption) | assumption)
       obtain ⟨ad213, e213, hx213_0, hx213_1, hx213_2, hx213_3, hx213_4, hx213_5, hx213_6, hx213_7⟩ := at_T45 HR0.out x16_1 p213 q213
       cases e213
       replace hx213_0 := (HB.out.cell (World.block_lt_of_cell? w _ hx213_0)).trans hx213_0
       replace hx213_1 := (HB.out.cell (World.block_lt_of_cell? w _ hx213_1)).trans hx213_1
       replace hx213_2 := (HB.out.cell (World.block_lt_of_cell? w _ hx213_2)).trans hx213_2
       replace hx213_3 := (HB.out.cell (World.block_lt_of_cell? w _ hx213_3)).trans hx213_3
       replace hx213_4 := (HB.out.cell (World.block_lt_of_cell? w _ hx213_4)).trans hx213_4
       replace hx213_5 := (HB.out.cell (World.block_lt_of_cell? w _ hx213_5)).trans hx213_5
       replace hx213_6 := (HB.out.cell (World.block_lt_of_cell? w _ hx213_6)).trans hx213_6
       replace hx213_7 := (HB.out.cell (World.block_lt_of_cell? w _ hx213_7)).trans hx213_7
       replace p213 := eq_true p213
       replace q213 := eq_true q213
       go_upto_region 8 with (first | ((with_reducible refine gate_dst (N := 9) rfl ?_); refine box_event ?hg (N := 9) ?hd (cs := #[.int .i64 0, .int .i64 0, .int .i64 0, .int .i64 0, .int .i64 0, .int .i64 0, .int .i64 0, .int .i64 0]) (t := 45) ?hr ?_; (case hd => rfl); (case hg => rfl); (case hr => first | (go_simp; done) | (go_simp; rfl)); intro gb214 hg w12 hbox hb; have BK214 := a_ (hbox); have GW214 := a_ (bsg hg HB.out); have GE214 := a_ (bsg hg HB.out); replace HB := a_ (below_step (by repeat first | (with_reducible first | exact HB.out | refine bz ?_ (by assumption) | apply bA | apply bN | apply bD) | exact HB.out) hb); have NB211_214 := a_ (nel hg BK211.out); have NB214_211 := a_ (nle hg BK211.out); replace BK211 := a_ (blk_below (pk BK211.out) hb); have NB212_214 := a_ (nel hg BK212.out); have NB214_212 := a_ (nle hg BK212.out); replace BK212 := a_ (blk_below (pk BK212.out) hb); clear hb hbox hg; have hnb13 := NB214_211.out; have hnc13 := NB211_214.out; have hnb14 := NB214_212.out; have hnc14 := NB212_214.out; have hcz15_0 : _ = some (Value.int .i64 0) := (blk_cell BK214.out 0).trans rfl; have hcz15_1 : _ = some (Value.int .i64 0) := (blk_cell BK214.out 1).trans rfl; have hcz15_2 : _ = some (Value.int .i64 0) := (blk_cell BK214.out 2).trans rfl; have hcz15_3 : _ = some (Value.int .i64 0) := (blk_cell BK214.out 3).trans rfl; have hcz15_4 : _ = some (Value.int .i64 0) := (blk_cell BK214.out 4).trans rfl; have hcz15_5 : _ = some (Value.int .i64 0) := (blk_cell BK214.out 5).trans rfl; have hcz15_6 : _ = some (Value.int .i64 0) := (blk_cell BK214.out 6).trans rfl; have hcz15_7 : _ = some (Value.int .i64 0) := (blk_cell BK214.out 7).trans rfl; have hfz15_0 := blk_frozen BK214.out 0; have hfz15_1 := blk_frozen BK214.out 1; have hfz15_2 := blk_frozen BK214.out 2; have hfz15_3 := blk_frozen BK214.out 3; have hfz15_4 := blk_frozen BK214.out 4; have hfz15_5 := blk_frozen BK214.out 5; have hfz15_6 := blk_frozen BK214.out 6; have hfz15_7 := blk_frozen BK214.out 7))
       (try simp only [Act.put, List.setIfInBounds_toArray, List.set_cons_zero, List.set_cons_succ])
       go_cut [39] (fun v39 wc => ∃ (kq : Nat) (x39_10 : Bool), v39 = .bool x39_10 ∧ Aside0 (impl_LoopAt.j1 kq l0 a1 x7_1 l0 (l0.length : Int) x16_1 x39_10 x213000_1 x213001_1 x213002_1 x213003_1 x213004_1 x213005_1 x213006_1 ((rd_T45 l0 x16_1).f0) ((rd_T45 l0 x16_1).f1.f0) ((rd_T45 l0 x16_1).f1.f1) ((rd_T45 l0 x16_1).f1.f2) ((rd_T45 l0 x16_1).f1.f3) ((rd_T45 l0 x16_1).f1.f4) ((rd_T45 l0 x16_1).f1.f5) ((rd_T45 l0 x16_1).f1.f6) = some (r1, r2, r3, r4, r5, r6, r7, r8)) ∧ Aside0 (kq ≤ k1) ∧ Aside0 (wc.heap[gb211]? = some (.cells #[.int .i64 x212000_1, .int .i64 x212001_1, .int .i64 x212002_1, .int .i64 x212003_1, .int .i64 x212004_1, .int .i64 x212005_1, .int .i64 x212006_1] 30 (0, 0))) ∧ Aside0 (wc.heap[gb212]? = some (.cells #[.int .i64 x213000_1, .int .i64 x213001_1, .int .i64 x213002_1, .int .i64 x213003_1, .int .i64 x213004_1, .int .i64 x213005_1, .int .i64 x213006_1] 30 (0, 0))) ∧ Aside0 (wc.heap[gb214]? = some (.cells #[.int .i64 ((rd_T45 l0 x16_1).f0), .int .i64 ((rd_T45 l0 x16_1).f1.f0), .int .i64 ((rd_T45 l0 x16_1).f1.f1), .int .i64 ((rd_T45 l0 x16_1).f1.f2), .int .i64 ((rd_T45 l0 x16_1).f1.f3), .int .i64 ((rd_T45 l0 x16_1).f1.f4), .int .i64 ((rd_T45 l0 x16_1).f1.f5), .int .i64 ((rd_T45 l0 x16_1).f1.f6)] 45 (0, 0))) ∧ Aside0 (Below w.heap.size w wc))
       case first =>
        have H := HC11.out
        clear HC11
        replace H := Option.bind_eq_some_iff.mp H
        obtain ⟨t215, A160, H⟩ := H
        replace H : (if t215 = true then (if x16_1 > 0 then (if 0 ≤ (wrap64 (x16_1 - 1)) then (if (wrap64 (x16_1 - 1)) < (l0.length : Int) then (impl_LoopAt.j1 k1 l0 a1 x7_1 l0 (l0.length : Int) x16_1 (decide (((rd_T45 l0 x16_1).f0) ≤ ((rd_T45 l0 (wrap64 (x16_1 - 1))).f0))) x213000_1 x213001_1 x213002_1 x213003_1 x213004_1 x213005_1 x213006_1 ((rd_T45 l0 x16_1).f0) ((rd_T45 l0 x16_1).f1.f0) ((rd_T45 l0 x16_1).f1.f1) ((rd_T45 l0 x16_1).f1.f2) ((rd_T45 l0 x16_1).f1.f3) ((rd_T45 l0 x16_1).f1.f4) ((rd_T45 l0 x16_1).f1.f5) ((rd_T45 l0 x16_1).f1.f6)) else (none)) else (none)) else (impl_LoopAt.j1 k1 l0 a1 x7_1 l0 (l0.length : Int) x16_1 false x213000_1 x213001_1 x213002_1 x213003_1 x213004_1 x213005_1 x213006_1 ((rd_T45 l0 x16_1).f0) ((rd_T45 l0 x16_1).f1.f0) ((rd_T45 l0 x16_1).f1.f1) ((rd_T45 l0 x16_1).f1.f2) ((rd_T45 l0 x16_1).f1.f3) ((rd_T45 l0 x16_1).f1.f4) ((rd_T45 l0 x16_1).f1.f5) ((rd_T45 l0 x16_1).f1.f6))) else (impl_LoopAt.j1 k1 l0 a1 x7_1 l0 (l0.length : Int) x16_1 true x213000_1 x213001_1 x213002_1 x213003_1 x213004_1 x213005_1 x213006_1 ((rd_T45 l0 x16_1).f0) ((rd_T45 l0 x16_1).f1.f0) ((rd_T45 l0 x16_1).f1.f1) ((rd_T45 l0 x16_1).f1.f2) ((rd_T45 l0 x16_1).f1.f3) ((rd_T45 l0 x16_1).f1.f4) ((rd_T45 l0 x16_1).f1.f5) ((rd_T45 l0 x16_1).f1.f6))) = some (r1, r2, r3, r4, r5, r6, r7, r8) := H
        have A16 := Aside0.mk A160
        clear A160
        by_cases c17 : t215 = true
        ·subst c17
         have H1 : (if x16_1 > 0 then (if 0 ≤ (wrap64 (x16_1 - 1)) then (if (wrap64 (x16_1 - 1)) < (l0.length : Int) then (impl_LoopAt.j1 k1 l0 a1 x7_1 l0 (l0.length : Int) x16_1 (decide (((rd_T45 l0 x16_1).f0) ≤ ((rd_T45 l0 (wrap64 (x16_1 - 1))).f0))) x213000_1 x213001_1 x213002_1 x213003_1 x213004_1 x213005_1 x213006_1 ((rd_T45 l0 x16_1).f0) ((rd_T45 l0 x16_1).f1.f0) ((rd_T45 l0 x16_1).f1.f1) ((rd_T45 l0 x16_1).f1.f2) ((rd_T45 l0 x16_1).f1.f3) ((rd_T45 l0 x16_1).f1.f4) ((rd_T45 l0 x16_1).f1.f5) ((rd_T45 l0 x16_1).f1.f6)) else (none)) else (none)) else (impl_LoopAt.j1 k1 l0 a1 x7_1 l0 (l0.length : Int) x16_1 false x213000_1 x213001_1 x213002_1 x213003_1 x213004_1 x213005_1 x213006_1 ((rd_T45 l0 x16_1).f0) ((rd_T45 l0 x16_1).f1.f0) ((rd_T45 l0 x16_1).f1.f1) ((rd_T45 l0 x16_1).f1.f2) ((rd_T45 l0 x16_1).f1.f3) ((rd_T45 l0 x16_1).f1.f4) ((rd_T45 l0 x16_1).f1.f5) ((rd_T45 l0 x16_1).f1.f6))) = some (r1, r2, r3, r4, r5, r6, r7, r8) := by rw [if_pos rfl] at H; exact H
         clear H
         have H := H1
         clear H1
         by_cases c18 : x16_1 > 0
         ·rw [if_pos c18] at H
          have c18b0 : decide (0 < x16_1) = true := decide_eq_true c18
          clear c18
          (first | rw [c18b0] | (simp only [i64_w, i32_w]; rw [c18b0]) | skip)
          obtain ⟨ji19, hji19⟩ : ∃ j_ : Int, (wrap64 (x16_1 - 1)) = j_ := ⟨_, rfl⟩
          replace H : (if 0 ≤ (ji19) then (if (ji19) < (l0.length : Int) then (impl_LoopAt.j1 k1 l0 a1 x7_1 l0 (l0.length : Int) x16_1 (decide (((rd_T45 l0 x16_1).f0) ≤ ((rd_T45 l0 (ji19)).f0))) x213000_1 x213001_1 x213002_1 x213003_1 x213004_1 x213005_1 x213006_1 ((rd_T45 l0 x16_1).f0) ((rd_T45 l0 x16_1).f1.f0) ((rd_T45 l0 x16_1).f1.f1) ((rd_T45 l0 x16_1).f1.f2) ((rd_T45 l0 x16_1).f1.f3) ((rd_T45 l0 x16_1).f1.f4) ((rd_T45 l0 x16_1).f1.f5) ((rd_T45 l0 x16_1).f1.f6)) else (none)) else (none)) = some (r1, r2, r3, r4, r5, r6, r7, r8) := by first | (rw [hji19] at H; exact H) | (simp only [hji19] at H ⊢; exact H)
          (try rw [hji19] at A16)
          have hji19w : (IntKind.i64.wrap (x16_1 - 1)) = ji19 := (i64_w _).trans hji19
          by_cases c20 : 0 ≤ (ji19)
          ·rw [if_pos c20] at H
           have c20b0 : decide (0 ≤ (ji19)) = true := decide_eq_true c20
           clear c20
           by_cases c21 : (ji19) < (l0.length : Int)
           ·rw [if_pos c21] at H
            have c21b0 : decide ((ji19) < (l0.length : Int)) = true := decide_eq_true c21
            clear c21
            have H' := Aside0.mk H
            clear H
            try go_wp2
            have n0_ : Aside0 (((((((((w12.setCell ⟨gb214, 0, none⟩ (.int .i64 ((rd_T45 l0 x16_1).f0))).setCell ⟨gb214, 1, none⟩ (.int .i64 ((rd_T45 l0 x16_1).f1.f0))).setCell ⟨gb214, 2, none⟩ (.int .i64 ((rd_T45 l0 x16_1).f1.f1))).setCell ⟨gb214, 3, none⟩ (.int .i64 ((rd_T45 l0 x16_1).f1.f2))).setCell ⟨gb214, 4, none⟩ (.int .i64 ((rd_T45 l0 x16_1).f1.f3))).setCell ⟨gb214, 5, none⟩ (.int .i64 ((rd_T45 l0 x16_1).f1.f4))).setCell ⟨gb214, 6, none⟩ (.int .i64 ((rd_T45 l0 x16_1).f1.f5))).setCell ⟨gb214, 7, none⟩ (.int .i64 ((rd_T45 l0 x16_1).f1.f6))).heap[gb211]? = some (.cells #[.int .i64 x212000_1, .int .i64 x212001_1, .int .i64 x212002_1, .int .i64 x212003_1, .int .i64 x212004_1, .int .i64 x212005_1, .int .i64 x212006_1] 30 (0, 0))) := ⟨by refine pk ?_; refine blk_far ?_ NB211_214.out _; refine pk ?_; refine blk_far ?_ NB211_214.out _; refine pk ?_; refine blk_far ?_ NB211_214.out _; refine pk ?_; refine blk_far ?_ NB211_214.out _; refine pk ?_; refine blk_far ?_ NB211_214.out _; refine pk ?_; refine blk_far ?_ NB211_214.out _; refine pk ?_; refine blk_far ?_ NB211_214.out _; refine pk ?_; refine blk_far ?_ NB211_214.out _; refine pk ?_; exact BK211.out⟩
            have n1_ : Aside0 (((((((((w12.setCell ⟨gb214, 0, none⟩ (.int .i64 ((rd_T45 l0 x16_1).f0))).setCell ⟨gb214, 1, none⟩ (.int .i64 ((rd_T45 l0 x16_1).f1.f0))).setCell ⟨gb214, 2, none⟩ (.int .i64 ((rd_T45 l0 x16_1).f1.f1))).setCell ⟨gb214, 3, none⟩ (.int .i64 ((rd_T45 l0 x16_1).f1.f2))).setCell ⟨gb214, 4, none⟩ (.int .i64 ((rd_T45 l0 x16_1).f1.f3))).setCell ⟨gb214, 5, none⟩ (.int .i64 ((rd_T45 l0 x16_1).f1.f4))).setCell ⟨gb214, 6, none⟩ (.int .i64 ((rd_T45 l0 x16_1).f1.f5))).setCell ⟨gb214, 7, none⟩ (.int .i64 ((rd_T45 l0 x16_1).f1.f6))).heap[gb212]? = some (.cells #[.int .i64 x213000_1, .int .i64 x213001_1, .int .i64 x213002_1, .int .i64 x213003_1, .int .i64 x213004_1, .int .i64 x213005_1, .int .i64 x213006_1] 30 (0, 0))) := ⟨by refine pk ?_; refine blk_far ?_ NB212_214.out _; refine pk ?_; refine blk_far ?_ NB212_214.out _; refine pk ?_; refine blk_far ?_ NB212_214.out _; refine pk ?_; refine blk_far ?_ NB212_214.out _; refine pk ?_; refine blk_far ?_ NB212_214.out _; refine pk ?_; refine blk_far ?_ NB212_214.out _; refine pk ?_; refine blk_far ?_ NB212_214.out _; refine pk ?_; refine blk_far ?_ NB212_214.out _; refine pk ?_; exact BK212.out⟩
            have n2_ : Aside0 (((((((((w12.setCell ⟨gb214, 0, none⟩ (.int .i64 ((rd_T45 l0 x16_1).f0))).setCell ⟨gb214, 1, none⟩ (.int .i64 ((rd_T45 l0 x16_1).f1.f0))).setCell ⟨gb214, 2, none⟩ (.int .i64 ((rd_T45 l0 x16_1).f1.f1))).setCell ⟨gb214, 3, none⟩ (.int .i64 ((rd_T45 l0 x16_1).f1.f2))).setCell ⟨gb214, 4, none⟩ (.int .i64 ((rd_T45 l0 x16_1).f1.f3))).setCell ⟨gb214, 5, none⟩ (.int .i64 ((rd_T45 l0 x16_1).f1.f4))).setCell ⟨gb214, 6, none⟩ (.int .i64 ((rd_T45 l0 x16_1).f1.f5))).setCell ⟨gb214, 7, none⟩ (.int .i64 ((rd_T45 l0 x16_1).f1.f6))).heap[gb214]? = some (.cells #[.int .i64 ((rd_T45 l0 x16_1).f0), .int .i64 ((rd_T45 l0 x16_1).f1.f0), .int .i64 ((rd_T45 l0 x16_1).f1.f1), .int .i64 ((rd_T45 l0 x16_1).f1.f2), .int .i64 ((rd_T45 l0 x16_1).f1.f3), .int .i64 ((rd_T45 l0 x16_1).f1.f4), .int .i64 ((rd_T45 l0 x16_1).f1.f5), .int .i64 ((rd_T45 l0 x16_1).f1.f6)] 45 (0, 0))) := ⟨by refine pk ?_; refine blk_put (cs := #[.int .i64 ((rd_T45 l0 x16_1).f0), .int .i64 ((rd_T45 l0 x16_1).f1.f0), .int .i64 ((rd_T45 l0 x16_1).f1.f1), .int .i64 ((rd_T45 l0 x16_1).f1.f2), .int .i64 ((rd_T45 l0 x16_1).f1.f3), .int .i64 ((rd_T45 l0 x16_1).f1.f4), .int .i64 ((rd_T45 l0 x16_1).f1.f5), .int .i64 0]) ?_ 7 _ rfl; refine pk ?_; refine blk_put (cs := #[.int .i64 ((rd_T45 l0 x16_1).f0), .int .i64 ((rd_T45 l0 x16_1).f1.f0), .int .i64 ((rd_T45 l0 x16_1).f1.f1), .int .i64 ((rd_T45 l0 x16_1).f1.f2), .int .i64 ((rd_T45 l0 x16_1).f1.f3), .int .i64 ((rd_T45 l0 x16_1).f1.f4), .int .i64 0, .int .i64 0]) ?_ 6 _ rfl; refine pk ?_; refine blk_put (cs := #[.int .i64 ((rd_T45 l0 x16_1).f0), .int .i64 ((rd_T45 l0 x16_1).f1.f0), .int .i64 ((rd_T45 l0 x16_1).f1.f1), .int .i64 ((rd_T45 l0 x16_1).f1.f2), .int .i64 ((rd_T45 l0 x16_1).f1.f3), .int .i64 0, .int .i64 0, .int .i64 0]) ?_ 5 _ rfl; refine pk ?_; refine blk_put (cs := #[.int .i64 ((rd_T45 l0 x16_1).f0), .int .i64 ((rd_T45 l0 x16_1).f1.f0), .int .i64 ((rd_T45 l0 x16_1).f1.f1), .int .i64 ((rd_T45 l0 x16_1).f1.f2), .int .i64 0, .int .i64 0, .int .i64 0, .int .i64 0]) ?_ 4 _ rfl; refine pk ?_; refine blk_put (cs := #[.int .i64 ((rd_T45 l0 x16_1).f0), .int .i64 ((rd_T45 l0 x16_1).f1.f0), .int .i64 ((rd_T45 l0 x16_1).f1.f1), .int .i64 0, .int .i64 0, .int .i64 0, .int .i64 0, .int .i64 0]) ?_ 3 _ rfl; refine pk ?_; refine blk_put (cs := #[.int .i64 ((rd_T45 l0 x16_1).f0), .int .i64 ((rd_T45 l0 x16_1).f1.f0), .int .i64 0, .int .i64 0, .int .i64 0, .int .i64 0, .int .i64 0, .int .i64 0]) ?_ 2 _ rfl; refine pk ?_; refine blk_put (cs := #[.int .i64 ((rd_T45 l0 x16_1).f0), .int .i64 0, .int .i64 0, .int .i64 0, .int .i64 0, .int .i64 0, .int .i64 0, .int .i64 0]) ?_ 1 _ rfl; refine pk ?_; refine blk_put (cs := #[.int .i64 0, .int .i64 0, .int .i64 0, .int .i64 0, .int .i64 0, .int .i64 0, .int .i64 0, .int .i64 0]) ?_ 0 _ rfl; refine pk ?_; exact BK214.out⟩
            have n3_ : Aside0 (Below w.heap.size w ((((((((w12.setCell ⟨gb214, 0, none⟩ (.int .i64 ((rd_T45 l0 x16_1).f0))).setCell ⟨gb214, 1, none⟩ (.int .i64 ((rd_T45 l0 x16_1).f1.f0))).setCell ⟨gb214, 2, none⟩ (.int .i64 ((rd_T45 l0 x16_1).f1.f1))).setCell ⟨gb214, 3, none⟩ (.int .i64 ((rd_T45 l0 x16_1).f1.f2))).setCell ⟨gb214, 4, none⟩ (.int .i64 ((rd_T45 l0 x16_1).f1.f3))).setCell ⟨gb214, 5, none⟩ (.int .i64 ((rd_T45 l0 x16_1).f1.f4))).setCell ⟨gb214, 6, none⟩ (.int .i64 ((rd_T45 l0 x16_1).f1.f5))).setCell ⟨gb214, 7, none⟩ (.int .i64 ((rd_T45 l0 x16_1).f1.f6)))) := ⟨by repeat first | (with_reducible first | exact HB.out | refine bz ?_ (by assumption) | apply bA | apply bN | apply bD) | exact HB.out⟩
            (try clear BK211)
            (try clear BK212)
            (try clear BK214)
            (try clear HB)
            generalize ((((((((w12.setCell ⟨gb214, 0, none⟩ (.int .i64 ((rd_T45 l0 x16_1).f0))).setCell ⟨gb214, 1, none⟩ (.int .i64 ((rd_T45 l0 x16_1).f1.f0))).setCell ⟨gb214, 2, none⟩ (.int .i64 ((rd_T45 l0 x16_1).f1.f1))).setCell ⟨gb214, 3, none⟩ (.int .i64 ((rd_T45 l0 x16_1).f1.f2))).setCell ⟨gb214, 4, none⟩ (.int .i64 ((rd_T45 l0 x16_1).f1.f3))).setCell ⟨gb214, 5, none⟩ (.int .i64 ((rd_T45 l0 x16_1).f1.f4))).setCell ⟨gb214, 6, none⟩ (.int .i64 ((rd_T45 l0 x16_1).f1.f5))).setCell ⟨gb214, 7, none⟩ (.int .i64 ((rd_T45 l0 x16_1).f1.f6))) = w22 at n0_ n1_ n2_ n3_ ⊢
            have BK211 := n0_
            have BK212 := n1_
            have BK214 := n2_
            have HB := n3_
            clear n0_ n1_ n2_ n3_
            replace BK211 := a_ (blk_drew BK211.out)
            replace BK212 := a_ (blk_drew BK212.out)
            replace BK214 := a_ (blk_drew BK214.out)
            replace HB := a_ (below_drew1 HB.out)
            have p216 : 0 ≤ ((ji19) : Int) := of_decide_eq_true (by first | (with_reducible assumption) | assumption)
            have q216 : (ji19) < (l0.length : Int) := of_decide_eq_true (by first | (with_reducible assumption) | assumption)
            obtain ⟨ad216, e216, hx216_0, hx216_1, hx216_2, hx216_3, hx216_4, hx216_5, hx216_6, hx216_7⟩ := at_T45 HR0.out (ji19) p216 q216
            have hw216_7 := hx216_7
            have hw216_6 := hx216_6
            have hw216_5 := hx216_5
            have hw216_4 := hx216_4
            have hw216_3 := hx216_3
            have hw216_2 := hx216_2
            have hw216_1 := hx216_1
            have hw216_0 := hx216_0
            obtain rfl : ad213 = ad216 := (by injection e216)
            replace hx216_0 := (HB.out.cell (World.block_lt_of_cell? w _ hx216_0)).trans hx216_0
            replace hx216_1 := (HB.out.cell (World.block_lt_of_cell? w _ hx216_1)).trans hx216_1
            replace hx216_2 := (HB.out.cell (World.block_lt_of_cell? w _ hx216_2)).trans hx216_2
            replace hx216_3 := (HB.out.cell (World.block_lt_of_cell? w _ hx216_3)).trans hx216_3
            replace hx216_4 := (HB.out.cell (World.block_lt_of_cell? w _ hx216_4)).trans hx216_4
            replace hx216_5 := (HB.out.cell (World.block_lt_of_cell? w _ hx216_5)).trans hx216_5
            replace hx216_6 := (HB.out.cell (World.block_lt_of_cell? w _ hx216_6)).trans hx216_6
            replace hx216_7 := (HB.out.cell (World.block_lt_of_cell? w _ hx216_7)).trans hx216_7
            replace p216 := eq_true p216
            replace q216 := eq_true q216
            refine start_ (n := 19) (S := fun w' => w'.cell? ⟨gb214, 0, none⟩ = some (.int .i64 ((rd_T45 l0 x16_1).f0)) ∧ w'.cell? ⟨gb214, 1, none⟩ = some (.int .i64 ((rd_T45 l0 x16_1).f1.f0)) ∧ w'.cell? ⟨gb214, 2, none⟩ = some (.int .i64 ((rd_T45 l0 x16_1).f1.f1)) ∧ w'.cell? ⟨gb214, 3, none⟩ = some (.int .i64 ((rd_T45 l0 x16_1).f1.f2)) ∧ w'.cell? ⟨gb214, 4, none⟩ = some (.int .i64 ((rd_T45 l0 x16_1).f1.f3)) ∧ w'.cell? ⟨gb214, 5, none⟩ = some (.int .i64 ((rd_T45 l0 x16_1).f1.f4)) ∧ w'.cell? ⟨gb214, 6, none⟩ = some (.int .i64 ((rd_T45 l0 x16_1).f1.f5)) ∧ w'.cell? ⟨gb214, 7, none⟩ = some (.int .i64 ((rd_T45 l0 x16_1).f1.f6)) ∧ w'.cell? (ad213.add ((ji19).toNat * 8)) = some (.int .i64 ((rd_T45 l0 (ji19)).f0)) ∧ w'.cell? ⟨(ad213.add (((ji19)).toNat * 8)).block, (ad213.add (((ji19)).toNat * 8)).off + 1, none⟩ = some (.int .i64 ((rd_T45 l0 (ji19)).f1.f0)) ∧ w'.cell? ⟨(ad213.add (((ji19)).toNat * 8)).block, (ad213.add (((ji19)).toNat * 8)).off + 2, none⟩ = some (.int .i64 ((rd_T45 l0 (ji19)).f1.f1)) ∧ w'.cell? ⟨(ad213.add (((ji19)).toNat * 8)).block, (ad213.add (((ji19)).toNat * 8)).off + 3, none⟩ = some (.int .i64 ((rd_T45 l0 (ji19)).f1.f2)) ∧ w'.cell? ⟨(ad213.add (((ji19)).toNat * 8)).block, (ad213.add (((ji19)).toNat * 8)).off + 4, none⟩ = some (.int .i64 ((rd_T45 l0 (ji19)).f1.f3)) ∧ w'.cell? ⟨(ad213.add (((ji19)).toNat * 8)).block, (ad213.add (((ji19)).toNat * 8)).off + 5, none⟩ = some (.int .i64 ((rd_T45 l0 (ji19)).f1.f4)) ∧ w'.cell? ⟨(ad213.add (((ji19)).toNat * 8)).block, (ad213.add (((ji19)).toNat * 8)).off + 6, none⟩ = some (.int .i64 ((rd_T45 l0 (ji19)).f1.f5)) ∧ w'.cell? ⟨(ad213.add (((ji19)).toNat * 8)).block, (ad213.add (((ji19)).toNat * 8)).off + 7, none⟩ = some (.int .i64 ((rd_T45 l0 (ji19)).f1.f6))) (ds := []) #[false, false, false, false, false, false, false, false, false, false, false, false, false, false, false, false, false, false, false] (by kernel_rfl) rfl rfl ⟨(blk_cell BK214.out 0).trans rfl, (blk_cell BK214.out 1).trans rfl, (blk_cell BK214.out 2).trans rfl, (blk_cell BK214.out 3).trans rfl, (blk_cell BK214.out 4).trans rfl, (blk_cell BK214.out 5).trans rfl, (blk_cell BK214.out 6).trans rfl, (blk_cell BK214.out 7).trans rfl, ((HB.out.cell (World.block_lt_of_cell? w _ hw216_0)).trans hw216_0), ((HB.out.cell (World.block_lt_of_cell? w _ hw216_1)).trans hw216_1), ((HB.out.cell (World.block_lt_of_cell? w _ hw216_2)).trans hw216_2), ((HB.out.cell (World.block_lt_of_cell? w _ hw216_3)).trans hw216_3), ((HB.out.cell (World.block_lt_of_cell? w _ hw216_4)).trans hw216_4), ((HB.out.cell (World.block_lt_of_cell? w _ hw216_5)).trans hw216_5), ((HB.out.cell (World.block_lt_of_cell? w _ hw216_6)).trans hw216_6), ((HB.out.cell (World.block_lt_of_cell? w _ hw216_7)).trans hw216_7)⟩ (fun hHeld => ?_); refine with_tabW impl_LoopAt.tab8 impl_LoopAt.bits8 (fun HT_ HW_ => ?_)
            generalize w22.drew = w23 at BK211 BK212 BK214 HB hx216_0 hx216_1 hx216_2 hx216_3 hx216_4 hx216_5 hx216_6 hx216_7 hHeld ⊢
            refine pure_ (i := 0) (N := some 21) (v := ?_) (a' := ?_) #[true, false, false, false, false, false, false, false, false, false, false, false, false, false, false, false, false, false, false] rfl rfl (any_of HT_.out (by kernel_rfl)) (fun _ _ _ h => h) (Or.inl ⟨by rfl, ?_⟩) ?_ ?_
            rotate_left
            ·intro w'
             go_simp
             with_reducible rfl
            rotate_left
            ·simp only [Act.put, List.setIfInBounds_toArray, List.set_cons_zero, List.set_cons_succ, i64_w, i32_w]
             rfl
            refine take_ (i := 1) (N := some 22) (v := ?_) (a' := ?_) #[true, true, false, false, false, false, false, false, false, false, false, false, false, false, false, false, false, false, false] rfl rfl (take_ofW HT_.out HW_.out (by kernel_rfl)) (fun _ _ _ h => h) (Or.inl ⟨by rfl, ?_⟩) hHeld ?_ ?_
            rotate_left
            ·rintro w' ⟨s0, s1, s2, s3, s4, s5, s6, s7, s8, s9, s10, s11, s12, s13, s14, s15⟩
             go_simp
             with_reducible rfl
            rotate_left
            ·simp only [Act.put, List.setIfInBounds_toArray, List.set_cons_zero, List.set_cons_succ, i64_w, i32_w]
             rfl
            refine one_ (i := 2) (N := some 23) #[true, true, true, false, false, false, false, false, false, false, false, false, false, false, false, false, false, false, false] rfl rfl (one_of HT_.out (by kernel_rfl)) (by decide) (fun K hK => ?_)
            refine goes_ Try.func29 (by kernel_rfl) rfl #[.agg #[.int .i64 ((rd_T45 l0 x16_1).f1.f0), .int .i64 ((rd_T45 l0 x16_1).f1.f1), .int .i64 ((rd_T45 l0 x16_1).f1.f2), .int .i64 ((rd_T45 l0 x16_1).f1.f3), .int .i64 ((rd_T45 l0 x16_1).f1.f4), .int .i64 ((rd_T45 l0 x16_1).f1.f5), .int .i64 ((rd_T45 l0 x16_1).f1.f6)]] (by rfl) rfl rfl (by (try simp only [lA, lB, lC]); first | done | rfl | (simp only [lD, lE]; rfl)) ?_
            with_reducible refine (impl_GoodLoop.calls ((rd_T45 l0 x16_1).f1.f0) ((rd_T45 l0 x16_1).f1.f1) ((rd_T45 l0 x16_1).f1.f2) ((rd_T45 l0 x16_1).f1.f3) ((rd_T45 l0 x16_1).f1.f4) ((rd_T45 l0 x16_1).f1.f5) ((rd_T45 l0 x16_1).f1.f6) true _ A16.out).mono ?_
            rintro e w24 ⟨rfl, hb⟩
            refine ⟨_, rfl, ?_⟩
            replace BK211 := a_ (blk_below (pk BK211.out) hb)
            replace BK212 := a_ (blk_below (pk BK212.out) hb)
            replace BK214 := a_ (blk_below (pk BK214.out) hb)
            replace HB := a_ (below_step (by repeat first | (with_reducible first | exact HB.out | refine bz ?_ (by assumption) | apply bA | apply bN | apply bD) | exact HB.out) hb)
            (try clear hb)
            (try clear hb2)
            (try clear hk)
            (try clear hi)
            refine hK.out _ _ ⟨(blk_cell BK214.out 0).trans rfl, (blk_cell BK214.out 1).trans rfl, (blk_cell BK214.out 2).trans rfl, (blk_cell BK214.out 3).trans rfl, (blk_cell BK214.out 4).trans rfl, (blk_cell BK214.out 5).trans rfl, (blk_cell BK214.out 6).trans rfl, (blk_cell BK214.out 7).trans rfl, ((HB.out.cell (World.block_lt_of_cell? w _ hw216_0)).trans hw216_0), ((HB.out.cell (World.block_lt_of_cell? w _ hw216_1)).trans hw216_1), ((HB.out.cell (World.block_lt_of_cell? w _ hw216_2)).trans hw216_2), ((HB.out.cell (World.block_lt_of_cell? w _ hw216_3)).trans hw216_3), ((HB.out.cell (World.block_lt_of_cell? w _ hw216_4)).trans hw216_4), ((HB.out.cell (World.block_lt_of_cell? w _ hw216_5)).trans hw216_5), ((HB.out.cell (World.block_lt_of_cell? w _ hw216_6)).trans hw216_6), ((HB.out.cell (World.block_lt_of_cell? w _ hw216_7)).trans hw216_7)⟩ (fun hHeld => ?_)
            clear hK K
            refine norm_ (a' := ?_) ?_ ?_
            rotate_left
            ·show Act.put _ (some 23) _ = _
             simp only [Act.put, List.setIfInBounds_toArray, List.set_cons_zero, List.set_cons_succ, i64_w, i32_w]
             rfl
            refine pure_ (i := 3) (N := some 24) (v := ?_) (a' := ?_) #[true, true, true, true, false, false, false, false, false, false, false, false, false, false, false, false, false, false, false] rfl rfl (any_of HT_.out (by kernel_rfl)) (fun _ _ _ h => h) (Or.inl ⟨by rfl, ?_⟩) ?_ ?_
            rotate_left
            ·intro w'
             go_simp
             with_reducible rfl
            rotate_left
            ·simp only [Act.put, List.setIfInBounds_toArray, List.set_cons_zero, List.set_cons_succ, i64_w, i32_w]
             rfl
            refine pure_ (i := 4) (N := some 25) (v := ?_) (a' := ?_) #[true, true, true, true, true, false, false, false, false, false, false, false, false, false, false, false, false, false, false] rfl rfl (any_of HT_.out (by kernel_rfl)) (fun _ _ _ h => h) (Or.inl ⟨by rfl, ?_⟩) ?_ ?_
            rotate_left
            ·intro w'
             go_simp
             with_reducible rfl
            rotate_left
            ·simp only [Act.put, List.setIfInBounds_toArray, List.set_cons_zero, List.set_cons_succ, i64_w, i32_w]
             rfl
            refine pure_ (i := 5) (N := some 26) (v := ?_) (a' := ?_) #[true, true, true, true, true, true, false, false, false, false, false, false, false, false, false, false, false, false, false] rfl rfl (any_of HT_.out (by kernel_rfl)) (fun _ _ _ h => h) (Or.inl ⟨by rfl, ?_⟩) ?_ ?_
            rotate_left
            ·intro w'
             go_simp
             with_reducible rfl
            rotate_left
            ·simp only [Act.put, List.setIfInBounds_toArray, List.set_cons_zero, List.set_cons_succ, i64_w, i32_w]
             rfl
            refine pure_ (i := 6) (N := some 27) (v := ?_) (a' := ?_) #[true, true, true, true, true, true, true, false, false, false, false, false, false, false, false, false, false, false, false] rfl rfl (any_of HT_.out (by kernel_rfl)) (fun _ _ _ h => h) (Or.inl ⟨by rfl, ?_⟩) ?_ ?_
            rotate_left
            ·intro w'
             go_simp
             with_reducible rfl
            rotate_left
            ·simp only [Act.put, List.setIfInBounds_toArray, List.set_cons_zero, List.set_cons_succ, i64_w, i32_w]
             rfl
            refine pure_ (i := 7) (N := some 28) (v := ?_) (a' := ?_) #[true, true, true, true, true, true, true, true, false, false, false, false, false, false, false, false, false, false, false] rfl rfl (any_of HT_.out (by kernel_rfl)) (fun _ _ _ h => h) (Or.inl ⟨by rfl, ?_⟩) ?_ ?_
            rotate_left
            ·intro w'
             go_simp
             with_reducible rfl
            rotate_left
            ·simp only [Act.put, List.setIfInBounds_toArray, List.set_cons_zero, List.set_cons_succ, i64_w, i32_w]
             rfl
            refine pure_ (i := 8) (N := some 29) (v := ?_) (a' := ?_) #[true, true, true, true, true, true, true, true, true, false, false, false, false, false, false, false, false, false, false] rfl rfl (any_of HT_.out (by kernel_rfl)) (fun _ _ _ h => h) (Or.inl ⟨by rfl, ?_⟩) ?_ ?_
            rotate_left
            ·intro w'
             go_simp
             with_reducible rfl
            rotate_left
            ·simp only [Act.put, List.setIfInBounds_toArray, List.set_cons_zero, List.set_cons_succ, i64_w, i32_w]
             rfl
            refine pure_ (i := 10) (N := some 31) (v := ?_) (a' := ?_) #[true, true, true, true, true, true, true, true, true, false, true, false, false, false, false, false, false, false, false] rfl rfl (any_of HT_.out (by kernel_rfl)) (fun _ _ _ h => h) (Or.inl ⟨by rfl, ?_⟩) ?_ ?_
            rotate_left
            ·intro w'
             go_simp
             with_reducible rfl
            rotate_left
            ·simp only [Act.put, List.setIfInBounds_toArray, List.set_cons_zero, List.set_cons_succ, i64_w, i32_w]
             rfl
            refine pure_ (i := 11) (N := some 32) (v := ?_) (a' := ?_) #[true, true, true, true, true, true, true, true, true, false, true, true, false, false, false, false, false, false, false] rfl rfl (any_of HT_.out (by kernel_rfl)) (fun _ _ _ h => h) (Or.inl ⟨by rfl, ?_⟩) ?_ ?_
            rotate_left
            ·intro w'
             go_simp
             with_reducible rfl
            rotate_left
            ·simp only [Act.put, List.setIfInBounds_toArray, List.set_cons_zero, List.set_cons_succ, i64_w, i32_w]
             rfl
            refine pure_ (i := 12) (N := some 33) (v := ?_) (a' := ?_) #[true, true, true, true, true, true, true, true, true, false, true, true, true, false, false, false, false, false, false] rfl rfl (any_of HT_.out (by kernel_rfl)) (fun _ _ _ h => h) (Or.inl ⟨by rfl, ?_⟩) ?_ ?_
            rotate_left
            ·intro w'
             go_simp
             with_reducible rfl
            rotate_left
            ·simp only [Act.put, List.setIfInBounds_toArray, List.set_cons_zero, List.set_cons_succ, i64_w, i32_w]
             rfl
            refine pure_ (i := 13) (N := some 34) (v := ?_) (a' := ?_) #[true, true, true, true, true, true, true, true, true, false, true, true, true, true, false, false, false, false, false] rfl rfl (any_of HT_.out (by kernel_rfl)) (fun _ _ _ h => h) (Or.inl ⟨by rfl, ?_⟩) ?_ ?_
            rotate_left
            ·intro w'
             go_simp
             with_reducible rfl
            rotate_left
            ·simp only [Act.put, List.setIfInBounds_toArray, List.set_cons_zero, List.set_cons_succ, i64_w, i32_w]
             rfl
            refine pure_ (i := 14) (N := some 35) (v := ?_) (a' := ?_) #[true, true, true, true, true, true, true, true, true, false, true, true, true, true, true, false, false, false, false] rfl rfl (any_of HT_.out (by kernel_rfl)) (fun _ _ _ h => h) (Or.inl ⟨by rfl, ?_⟩) ?_ ?_
            rotate_left
            ·intro w'
             go_simp
             with_reducible rfl
            rotate_left
            ·simp only [Act.put, List.setIfInBounds_toArray, List.set_cons_zero, List.set_cons_succ, i64_w, i32_w]
             rfl
            refine take_ (i := 9) (N := some 30) (v := ?_) (a' := ?_) #[true, true, true, true, true, true, true, true, true, true, true, true, true, true, true, false, false, false, false] rfl rfl (take_ofW HT_.out HW_.out (by kernel_rfl)) (fun _ _ _ h => h) (Or.inl ⟨by rfl, ?_⟩) hHeld ?_ ?_
            rotate_left
            ·rintro w' ⟨s0, s1, s2, s3, s4, s5, s6, s7, s8, s9, s10, s11, s12, s13, s14, s15⟩
             go_simp
             with_reducible rfl
            rotate_left
            ·simp only [Act.put, List.setIfInBounds_toArray, List.set_cons_zero, List.set_cons_succ, i64_w, i32_w]
             rfl
            refine take_ (i := 15) (N := some 36) (v := ?_) (a' := ?_) #[true, true, true, true, true, true, true, true, true, true, true, true, true, true, true, true, false, false, false] rfl rfl (take_ofW HT_.out HW_.out (by kernel_rfl)) (fun _ _ _ h => h) (Or.inl ⟨by rfl, ?_⟩) hHeld ?_ ?_
            rotate_left
            ·rintro w' ⟨s0, s1, s2, s3, s4, s5, s6, s7, s8, s9, s10, s11, s12, s13, s14, s15⟩
             go_simp
             with_reducible rfl
            rotate_left
            ·simp only [Act.put, List.setIfInBounds_toArray, List.set_cons_zero, List.set_cons_succ, i64_w, i32_w]
             rfl
            refine pure_ (i := 16) (N := some 37) (v := ?_) (a' := ?_) #[true, true, true, true, true, true, true, true, true, true, true, true, true, true, true, true, true, false, false] rfl rfl (any_of HT_.out (by kernel_rfl)) (fun _ _ _ h => h) (Or.inl ⟨by rfl, ?_⟩) ?_ ?_
            rotate_left
            ·intro w'
             go_simp
             with_reducible rfl
            rotate_left
            ·simp only [Act.put, List.setIfInBounds_toArray, List.set_cons_zero, List.set_cons_succ, i64_w, i32_w]
             rfl
            refine pure_ (i := 17) (N := some 38) (v := ?_) (a' := ?_) #[true, true, true, true, true, true, true, true, true, true, true, true, true, true, true, true, true, true, false] rfl rfl (any_of HT_.out (by kernel_rfl)) (fun _ _ _ h => h) (Or.inl ⟨by rfl, ?_⟩) ?_ ?_
            rotate_left
            ·intro w'
             go_simp
             with_reducible rfl
            rotate_left
            ·simp only [Act.put, List.setIfInBounds_toArray, List.set_cons_zero, List.set_cons_succ, i64_w, i32_w]
             rfl
            refine pure_ (i := 18) (N := some 39) (v := ?_) (a' := ?_) #[true, true, true, true, true, true, true, true, true, true, true, true, true, true, true, true, true, true, true] rfl rfl (any_of HT_.out (by kernel_rfl)) (fun _ _ _ h => h) (Or.inl ⟨by rfl, ?_⟩) ?_ ?_
            rotate_left
            ·intro w'
             go_simp
             with_reducible rfl
            rotate_left
            ·simp only [Act.put, List.setIfInBounds_toArray, List.set_cons_zero, List.set_cons_succ, i64_w, i32_w]
             rfl
            refine done_ (done_of HT_.out (by kernel_rfl)) ?_
            try go_wp2
            go_meet
            case rel => exact ⟨_, (decide (((rd_T45 l0 x16_1).f0) ≤ ((rd_T45 l0 (ji19)).f0))), (by first | rfl | (simp; done) | (simp only [← hji19] <;> (first | rfl | simp)) | (simp [*]; done)), H', ⟨by have := HK1.out; first | omega | exact Nat.le_refl _⟩, ⟨pk BK211.out⟩, ⟨pk BK212.out⟩, ⟨pk BK214.out⟩, ⟨by repeat first | (with_reducible first | exact HB.out | refine bz ?_ (by assumption) | apply bA | apply bN | apply bD) | exact HB.out⟩⟩
           ·rw [if_neg c21] at H
            exact absurd H (by simp)
          ·rw [if_neg c20] at H
           exact absurd H (by simp)
         ·rw [if_neg c18] at H
          have c18b0 : decide (0 < x16_1) = false := decide_eq_false c18
          clear c18
          (first | rw [c18b0] | (simp only [i64_w, i32_w]; rw [c18b0]) | skip)
          have H' := Aside0.mk H
          clear H
          try go_wp2
          have n0_ : Aside0 (((((((((w12.setCell ⟨gb214, 0, none⟩ (.int .i64 ((rd_T45 l0 x16_1).f0))).setCell ⟨gb214, 1, none⟩ (.int .i64 ((rd_T45 l0 x16_1).f1.f0))).setCell ⟨gb214, 2, none⟩ (.int .i64 ((rd_T45 l0 x16_1).f1.f1))).setCell ⟨gb214, 3, none⟩ (.int .i64 ((rd_T45 l0 x16_1).f1.f2))).setCell ⟨gb214, 4, none⟩ (.int .i64 ((rd_T45 l0 x16_1).f1.f3))).setCell ⟨gb214, 5, none⟩ (.int .i64 ((rd_T45 l0 x16_1).f1.f4))).setCell ⟨gb214, 6, none⟩ (.int .i64 ((rd_T45 l0 x16_1).f1.f5))).setCell ⟨gb214, 7, none⟩ (.int .i64 ((rd_T45 l0 x16_1).f1.f6))).heap[gb211]? = some (.cells #[.int .i64 x212000_1, .int .i64 x212001_1, .int .i64 x212002_1, .int .i64 x212003_1, .int .i64 x212004_1, .int .i64 x212005_1, .int .i64 x212006_1] 30 (0, 0))) := ⟨by refine pk ?_; refine blk_far ?_ NB211_214.out _; refine pk ?_; refine blk_far ?_ NB211_214.out _; refine pk ?_; refine blk_far ?_ NB211_214.out _; refine pk ?_; refine blk_far ?_ NB211_214.out _; refine pk ?_; refine blk_far ?_ NB211_214.out _; refine pk ?_; refine blk_far ?_ NB211_214.out _; refine pk ?_; refine blk_far ?_ NB211_214.out _; refine pk ?_; refine blk_far ?_ NB211_214.out _; refine pk ?_; exact BK211.out⟩
          have n1_ : Aside0 (((((((((w12.setCell ⟨gb214, 0, none⟩ (.int .i64 ((rd_T45 l0 x16_1).f0))).setCell ⟨gb214, 1, none⟩ (.int .i64 ((rd_T45 l0 x16_1).f1.f0))).setCell ⟨gb214, 2, none⟩ (.int .i64 ((rd_T45 l0 x16_1).f1.f1))).setCell ⟨gb214, 3, none⟩ (.int .i64 ((rd_T45 l0 x16_1).f1.f2))).setCell ⟨gb214, 4, none⟩ (.int .i64 ((rd_T45 l0 x16_1).f1.f3))).setCell ⟨gb214, 5, none⟩ (.int .i64 ((rd_T45 l0 x16_1).f1.f4))).setCell ⟨gb214, 6, none⟩ (.int .i64 ((rd_T45 l0 x16_1).f1.f5))).setCell ⟨gb214, 7, none⟩ (.int .i64 ((rd_T45 l0 x16_1).f1.f6))).heap[gb212]? = some (.cells #[.int .i64 x213000_1, .int .i64 x213001_1, .int .i64 x213002_1, .int .i64 x213003_1, .int .i64 x213004_1, .int .i64 x213005_1, .int .i64 x213006_1] 30 (0, 0))) := ⟨by refine pk ?_; refine blk_far ?_ NB212_214.out _; refine pk ?_; refine blk_far ?_ NB212_214.out _; refine pk ?_; refine blk_far ?_ NB212_214.out _; refine pk ?_; refine blk_far ?_ NB212_214.out _; refine pk ?_; refine blk_far ?_ NB212_214.out _; refine pk ?_; refine blk_far ?_ NB212_214.out _; refine pk ?_; refine blk_far ?_ NB212_214.out _; refine pk ?_; refine blk_far ?_ NB212_214.out _; refine pk ?_; exact BK212.out⟩
          have n2_ : Aside0 (((((((((w12.setCell ⟨gb214, 0, none⟩ (.int .i64 ((rd_T45 l0 x16_1).f0))).setCell ⟨gb214, 1, none⟩ (.int .i64 ((rd_T45 l0 x16_1).f1.f0))).setCell ⟨gb214, 2, none⟩ (.int .i64 ((rd_T45 l0 x16_1).f1.f1))).setCell ⟨gb214, 3, none⟩ (.int .i64 ((rd_T45 l0 x16_1).f1.f2))).setCell ⟨gb214, 4, none⟩ (.int .i64 ((rd_T45 l0 x16_1).f1.f3))).setCell ⟨gb214, 5, none⟩ (.int .i64 ((rd_T45 l0 x16_1).f1.f4))).setCell ⟨gb214, 6, none⟩ (.int .i64 ((rd_T45 l0 x16_1).f1.f5))).setCell ⟨gb214, 7, none⟩ (.int .i64 ((rd_T45 l0 x16_1).f1.f6))).heap[gb214]? = some (.cells #[.int .i64 ((rd_T45 l0 x16_1).f0), .int .i64 ((rd_T45 l0 x16_1).f1.f0), .int .i64 ((rd_T45 l0 x16_1).f1.f1), .int .i64 ((rd_T45 l0 x16_1).f1.f2), .int .i64 ((rd_T45 l0 x16_1).f1.f3), .int .i64 ((rd_T45 l0 x16_1).f1.f4), .int .i64 ((rd_T45 l0 x16_1).f1.f5), .int .i64 ((rd_T45 l0 x16_1).f1.f6)] 45 (0, 0))) := ⟨by refine pk ?_; refine blk_put (cs := #[.int .i64 ((rd_T45 l0 x16_1).f0), .int .i64 ((rd_T45 l0 x16_1).f1.f0), .int .i64 ((rd_T45 l0 x16_1).f1.f1), .int .i64 ((rd_T45 l0 x16_1).f1.f2), .int .i64 ((rd_T45 l0 x16_1).f1.f3), .int .i64 ((rd_T45 l0 x16_1).f1.f4), .int .i64 ((rd_T45 l0 x16_1).f1.f5), .int .i64 0]) ?_ 7 _ rfl; refine pk ?_; refine blk_put (cs := #[.int .i64 ((rd_T45 l0 x16_1).f0), .int .i64 ((rd_T45 l0 x16_1).f1.f0), .int .i64 ((rd_T45 l0 x16_1).f1.f1), .int .i64 ((rd_T45 l0 x16_1).f1.f2), .int .i64 ((rd_T45 l0 x16_1).f1.f3), .int .i64 ((rd_T45 l0 x16_1).f1.f4), .int .i64 0, .int .i64 0]) ?_ 6 _ rfl; refine pk ?_; refine blk_put (cs := #[.int .i64 ((rd_T45 l0 x16_1).f0), .int .i64 ((rd_T45 l0 x16_1).f1.f0), .int .i64 ((rd_T45 l0 x16_1).f1.f1), .int .i64 ((rd_T45 l0 x16_1).f1.f2), .int .i64 ((rd_T45 l0 x16_1).f1.f3), .int .i64 0, .int .i64 0, .int .i64 0]) ?_ 5 _ rfl; refine pk ?_; refine blk_put (cs := #[.int .i64 ((rd_T45 l0 x16_1).f0), .int .i64 ((rd_T45 l0 x16_1).f1.f0), .int .i64 ((rd_T45 l0 x16_1).f1.f1), .int .i64 ((rd_T45 l0 x16_1).f1.f2), .int .i64 0, .int .i64 0, .int .i64 0, .int .i64 0]) ?_ 4 _ rfl; refine pk ?_; refine blk_put (cs := #[.int .i64 ((rd_T45 l0 x16_1).f0), .int .i64 ((rd_T45 l0 x16_1).f1.f0), .int .i64 ((rd_T45 l0 x16_1).f1.f1), .int .i64 0, .int .i64 0, .int .i64 0, .int .i64 0, .int .i64 0]) ?_ 3 _ rfl; refine pk ?_; refine blk_put (cs := #[.int .i64 ((rd_T45 l0 x16_1).f0), .int .i64 ((rd_T45 l0 x16_1).f1.f0), .int .i64 0, .int .i64 0, .int .i64 0, .int .i64 0, .int .i64 0, .int .i64 0]) ?_ 2 _ rfl; refine pk ?_; refine blk_put (cs := #[.int .i64 ((rd_T45 l0 x16_1).f0), .int .i64 0, .int .i64 0, .int .i64 0, .int .i64 0, .int .i64 0, .int .i64 0, .int .i64 0]) ?_ 1 _ rfl; refine pk ?_; refine blk_put (cs := #[.int .i64 0, .int .i64 0, .int .i64 0, .int .i64 0, .int .i64 0, .int .i64 0, .int .i64 0, .int .i64 0]) ?_ 0 _ rfl; refine pk ?_; exact BK214.out⟩
          have n3_ : Aside0 (Below w.heap.size w ((((((((w12.setCell ⟨gb214, 0, none⟩ (.int .i64 ((rd_T45 l0 x16_1).f0))).setCell ⟨gb214, 1, none⟩ (.int .i64 ((rd_T45 l0 x16_1).f1.f0))).setCell ⟨gb214, 2, none⟩ (.int .i64 ((rd_T45 l0 x16_1).f1.f1))).setCell ⟨gb214, 3, none⟩ (.int .i64 ((rd_T45 l0 x16_1).f1.f2))).setCell ⟨gb214, 4, none⟩ (.int .i64 ((rd_T45 l0 x16_1).f1.f3))).setCell ⟨gb214, 5, none⟩ (.int .i64 ((rd_T45 l0 x16_1).f1.f4))).setCell ⟨gb214, 6, none⟩ (.int .i64 ((rd_T45 l0 x16_1).f1.f5))).setCell ⟨gb214, 7, none⟩ (.int .i64 ((rd_T45 l0 x16_1).f1.f6)))) := ⟨by repeat first | (with_reducible first | exact HB.out | refine bz ?_ (by assumption) | apply bA | apply bN | apply bD) | exact HB.out⟩
          (try clear BK211)
          (try clear BK212)
          (try clear BK214)
          (try clear HB)
          generalize ((((((((w12.setCell ⟨gb214, 0, none⟩ (.int .i64 ((rd_T45 l0 x16_1).f0))).setCell ⟨gb214, 1, none⟩ (.int .i64 ((rd_T45 l0 x16_1).f1.f0))).setCell ⟨gb214, 2, none⟩ (.int .i64 ((rd_T45 l0 x16_1).f1.f1))).setCell ⟨gb214, 3, none⟩ (.int .i64 ((rd_T45 l0 x16_1).f1.f2))).setCell ⟨gb214, 4, none⟩ (.int .i64 ((rd_T45 l0 x16_1).f1.f3))).setCell ⟨gb214, 5, none⟩ (.int .i64 ((rd_T45 l0 x16_1).f1.f4))).setCell ⟨gb214, 6, none⟩ (.int .i64 ((rd_T45 l0 x16_1).f1.f5))).setCell ⟨gb214, 7, none⟩ (.int .i64 ((rd_T45 l0 x16_1).f1.f6))) = w25 at n0_ n1_ n2_ n3_ ⊢
          have BK211 := n0_
          have BK212 := n1_
          have BK214 := n2_
          have HB := n3_
          clear n0_ n1_ n2_ n3_
          replace BK211 := a_ (blk_drew BK211.out)
          replace BK212 := a_ (blk_drew BK212.out)
          replace BK214 := a_ (blk_drew BK214.out)
          replace HB := a_ (below_drew1 HB.out)
          refine start_ (n := 19) (S := fun w' => w'.cell? ⟨gb214, 0, none⟩ = some (.int .i64 ((rd_T45 l0 x16_1).f0)) ∧ w'.cell? ⟨gb214, 1, none⟩ = some (.int .i64 ((rd_T45 l0 x16_1).f1.f0)) ∧ w'.cell? ⟨gb214, 2, none⟩ = some (.int .i64 ((rd_T45 l0 x16_1).f1.f1)) ∧ w'.cell? ⟨gb214, 3, none⟩ = some (.int .i64 ((rd_T45 l0 x16_1).f1.f2)) ∧ w'.cell? ⟨gb214, 4, none⟩ = some (.int .i64 ((rd_T45 l0 x16_1).f1.f3)) ∧ w'.cell? ⟨gb214, 5, none⟩ = some (.int .i64 ((rd_T45 l0 x16_1).f1.f4)) ∧ w'.cell? ⟨gb214, 6, none⟩ = some (.int .i64 ((rd_T45 l0 x16_1).f1.f5)) ∧ w'.cell? ⟨gb214, 7, none⟩ = some (.int .i64 ((rd_T45 l0 x16_1).f1.f6))) (ds := []) #[false, false, false, false, false, false, false, false, false, false, false, false, false, false, false, false, false, false, false] (by kernel_rfl) rfl rfl ⟨(blk_cell BK214.out 0).trans rfl, (blk_cell BK214.out 1).trans rfl, (blk_cell BK214.out 2).trans rfl, (blk_cell BK214.out 3).trans rfl, (blk_cell BK214.out 4).trans rfl, (blk_cell BK214.out 5).trans rfl, (blk_cell BK214.out 6).trans rfl, (blk_cell BK214.out 7).trans rfl⟩ (fun hHeld => ?_); refine with_tabW impl_LoopAt.tab8 impl_LoopAt.bits8 (fun HT_ HW_ => ?_)
          generalize w25.drew = w26 at BK211 BK212 BK214 HB hHeld ⊢
          refine pure_ (i := 0) (N := some 21) (v := ?_) (a' := ?_) #[true, false, false, false, false, false, false, false, false, false, false, false, false, false, false, false, false, false, false] rfl rfl (any_of HT_.out (by kernel_rfl)) (fun _ _ _ h => h) (Or.inl ⟨by rfl, ?_⟩) ?_ ?_
          rotate_left
          ·intro w'
           go_simp
           with_reducible rfl
          rotate_left
          ·simp only [Act.put, List.setIfInBounds_toArray, List.set_cons_zero, List.set_cons_succ, i64_w, i32_w]
           rfl
          refine take_ (i := 1) (N := some 22) (v := ?_) (a' := ?_) #[true, true, false, false, false, false, false, false, false, false, false, false, false, false, false, false, false, false, false] rfl rfl (take_ofW HT_.out HW_.out (by kernel_rfl)) (fun _ _ _ h => h) (Or.inl ⟨by rfl, ?_⟩) hHeld ?_ ?_
          rotate_left
          ·rintro w' ⟨s0, s1, s2, s3, s4, s5, s6, s7⟩
           go_simp
           with_reducible rfl
          rotate_left
          ·simp only [Act.put, List.setIfInBounds_toArray, List.set_cons_zero, List.set_cons_succ, i64_w, i32_w]
           rfl
          refine one_ (i := 2) (N := some 23) #[true, true, true, false, false, false, false, false, false, false, false, false, false, false, false, false, false, false, false] rfl rfl (one_of HT_.out (by kernel_rfl)) (by decide) (fun K hK => ?_)
          refine goes_ Try.func29 (by kernel_rfl) rfl #[.agg #[.int .i64 ((rd_T45 l0 x16_1).f1.f0), .int .i64 ((rd_T45 l0 x16_1).f1.f1), .int .i64 ((rd_T45 l0 x16_1).f1.f2), .int .i64 ((rd_T45 l0 x16_1).f1.f3), .int .i64 ((rd_T45 l0 x16_1).f1.f4), .int .i64 ((rd_T45 l0 x16_1).f1.f5), .int .i64 ((rd_T45 l0 x16_1).f1.f6)]] (by rfl) rfl rfl (by (try simp only [lA, lB, lC]); first | done | rfl | (simp only [lD, lE]; rfl)) ?_
          with_reducible refine (impl_GoodLoop.calls ((rd_T45 l0 x16_1).f1.f0) ((rd_T45 l0 x16_1).f1.f1) ((rd_T45 l0 x16_1).f1.f2) ((rd_T45 l0 x16_1).f1.f3) ((rd_T45 l0 x16_1).f1.f4) ((rd_T45 l0 x16_1).f1.f5) ((rd_T45 l0 x16_1).f1.f6) true _ A16.out).mono ?_
          rintro e w27 ⟨rfl, hb⟩
          refine ⟨_, rfl, ?_⟩
          replace BK211 := a_ (blk_below (pk BK211.out) hb)
          replace BK212 := a_ (blk_below (pk BK212.out) hb)
          replace BK214 := a_ (blk_below (pk BK214.out) hb)
          replace HB := a_ (below_step (by repeat first | (with_reducible first | exact HB.out | refine bz ?_ (by assumption) | apply bA | apply bN | apply bD) | exact HB.out) hb)
          (try clear hb)
          (try clear hb2)
          (try clear hk)
          (try clear hi)
          refine hK.out _ _ ⟨(blk_cell BK214.out 0).trans rfl, (blk_cell BK214.out 1).trans rfl, (blk_cell BK214.out 2).trans rfl, (blk_cell BK214.out 3).trans rfl, (blk_cell BK214.out 4).trans rfl, (blk_cell BK214.out 5).trans rfl, (blk_cell BK214.out 6).trans rfl, (blk_cell BK214.out 7).trans rfl⟩ (fun hHeld => ?_)
          clear hK K
          refine norm_ (a' := ?_) ?_ ?_
          rotate_left
          ·show Act.put _ (some 23) _ = _
           simp only [Act.put, List.setIfInBounds_toArray, List.set_cons_zero, List.set_cons_succ, i64_w, i32_w]
           rfl
          refine pure_ (i := 3) (N := some 24) (v := ?_) (a' := ?_) #[true, true, true, true, false, false, false, false, false, false, false, false, false, false, false, false, false, false, false] rfl rfl (any_of HT_.out (by kernel_rfl)) (fun _ _ _ h => h) (Or.inl ⟨by rfl, ?_⟩) ?_ ?_
          rotate_left
          ·intro w'
           go_simp
           with_reducible rfl
          rotate_left
          ·simp only [Act.put, List.setIfInBounds_toArray, List.set_cons_zero, List.set_cons_succ, i64_w, i32_w]
           rfl
          refine pure_ (i := 4) (N := some 25) (v := ?_) (a' := ?_) #[true, true, true, true, true, false, false, false, false, false, false, false, false, false, false, false, false, false, false] rfl rfl (any_of HT_.out (by kernel_rfl)) (fun _ _ _ h => h) (Or.inl ⟨by rfl, ?_⟩) ?_ ?_
          rotate_left
          ·intro w'
           go_simp
           with_reducible rfl
          rotate_left
          ·simp only [Act.put, List.setIfInBounds_toArray, List.set_cons_zero, List.set_cons_succ, i64_w, i32_w]
           rfl
          refine pure_ (i := 5) (N := some 26) (v := ?_) (a' := ?_) #[true, true, true, true, true, true, false, false, false, false, false, false, false, false, false, false, false, false, false] rfl rfl (any_of HT_.out (by kernel_rfl)) (fun _ _ _ h => h) (Or.inl ⟨by rfl, ?_⟩) ?_ ?_
          rotate_left
          ·intro w'
           go_simp
           with_reducible rfl
          rotate_left
          ·simp only [Act.put, List.setIfInBounds_toArray, List.set_cons_zero, List.set_cons_succ, i64_w, i32_w]
           rfl
          refine pure_ (i := 6) (N := some 27) (v := ?_) (a' := ?_) #[true, true, true, true, true, true, true, false, false, false, false, false, false, false, false, false, false, false, false] rfl rfl (any_of HT_.out (by kernel_rfl)) (fun _ _ _ h => h) (Or.inl ⟨by rfl, ?_⟩) ?_ ?_
          rotate_left
          ·intro w'
           go_simp
           with_reducible rfl
          rotate_left
          ·simp only [Act.put, List.setIfInBounds_toArray, List.set_cons_zero, List.set_cons_succ, i64_w, i32_w]
           rfl
          refine pure_ (i := 7) (N := some 28) (v := ?_) (a' := ?_) #[true, true, true, true, true, true, true, true, false, false, false, false, false, false, false, false, false, false, false] rfl rfl (any_of HT_.out (by kernel_rfl)) (fun _ _ _ h => h) (Or.inl ⟨by rfl, ?_⟩) ?_ ?_
          rotate_left
          ·intro w'
           go_simp
           with_reducible rfl
          rotate_left
          ·simp only [Act.put, List.setIfInBounds_toArray, List.set_cons_zero, List.set_cons_succ, i64_w, i32_w]
           rfl
          refine pure_ (i := 8) (N := some 29) (v := undef) (a' := ?_) #[true, true, true, true, true, true, true, true, true, false, false, false, false, false, false, false, false, false, false] rfl rfl (any_of HT_.out (by kernel_rfl)) (fun _ _ _ h => h) (Or.inr ⟨by rfl, rfl⟩) ?_ ?_
          rotate_left
          ·simp only [Act.put, List.setIfInBounds_toArray, List.set_cons_zero, List.set_cons_succ, i64_w, i32_w]
           rfl
          refine pure_ (i := 9) (N := some 30) (v := undef) (a' := ?_) #[true, true, true, true, true, true, true, true, true, true, false, false, false, false, false, false, false, false, false] rfl rfl (any_of HT_.out (by kernel_rfl)) (fun _ _ _ h => h) (Or.inr ⟨by rfl, rfl⟩) ?_ ?_
          rotate_left
          ·simp only [Act.put, List.setIfInBounds_toArray, List.set_cons_zero, List.set_cons_succ, i64_w, i32_w]
           rfl
          refine pure_ (i := 10) (N := some 31) (v := undef) (a' := ?_) #[true, true, true, true, true, true, true, true, true, true, true, false, false, false, false, false, false, false, false] rfl rfl (any_of HT_.out (by kernel_rfl)) (fun _ _ _ h => h) (Or.inr ⟨by rfl, rfl⟩) ?_ ?_
          rotate_left
          ·simp only [Act.put, List.setIfInBounds_toArray, List.set_cons_zero, List.set_cons_succ, i64_w, i32_w]
           rfl
          refine pure_ (i := 11) (N := some 32) (v := undef) (a' := ?_) #[true, true, true, true, true, true, true, true, true, true, true, true, false, false, false, false, false, false, false] rfl rfl (any_of HT_.out (by kernel_rfl)) (fun _ _ _ h => h) (Or.inr ⟨by rfl, rfl⟩) ?_ ?_
          rotate_left
          ·simp only [Act.put, List.setIfInBounds_toArray, List.set_cons_zero, List.set_cons_succ, i64_w, i32_w]
           rfl
          refine pure_ (i := 12) (N := some 33) (v := undef) (a' := ?_) #[true, true, true, true, true, true, true, true, true, true, true, true, true, false, false, false, false, false, false] rfl rfl (any_of HT_.out (by kernel_rfl)) (fun _ _ _ h => h) (Or.inr ⟨by rfl, rfl⟩) ?_ ?_
          rotate_left
          ·simp only [Act.put, List.setIfInBounds_toArray, List.set_cons_zero, List.set_cons_succ, i64_w, i32_w]
           rfl
          refine pure_ (i := 13) (N := some 34) (v := undef) (a' := ?_) #[true, true, true, true, true, true, true, true, true, true, true, true, true, true, false, false, false, false, false] rfl rfl (any_of HT_.out (by kernel_rfl)) (fun _ _ _ h => h) (Or.inr ⟨by rfl, rfl⟩) ?_ ?_
          rotate_left
          ·simp only [Act.put, List.setIfInBounds_toArray, List.set_cons_zero, List.set_cons_succ, i64_w, i32_w]
           rfl
          refine pure_ (i := 14) (N := some 35) (v := undef) (a' := ?_) #[true, true, true, true, true, true, true, true, true, true, true, true, true, true, true, false, false, false, false] rfl rfl (any_of HT_.out (by kernel_rfl)) (fun _ _ _ h => h) (Or.inr ⟨by rfl, rfl⟩) ?_ ?_
          rotate_left
          ·simp only [Act.put, List.setIfInBounds_toArray, List.set_cons_zero, List.set_cons_succ, i64_w, i32_w]
           rfl
          refine pure_ (i := 15) (N := some 36) (v := undef) (a' := ?_) #[true, true, true, true, true, true, true, true, true, true, true, true, true, true, true, true, false, false, false] rfl rfl (any_of HT_.out (by kernel_rfl)) (fun _ _ _ h => h) (Or.inr ⟨by rfl, rfl⟩) ?_ ?_
          rotate_left
          ·simp only [Act.put, List.setIfInBounds_toArray, List.set_cons_zero, List.set_cons_succ, i64_w, i32_w]
           rfl
          refine pure_ (i := 16) (N := some 37) (v := undef) (a' := ?_) #[true, true, true, true, true, true, true, true, true, true, true, true, true, true, true, true, true, false, false] rfl rfl (any_of HT_.out (by kernel_rfl)) (fun _ _ _ h => h) (Or.inr ⟨by rfl, rfl⟩) ?_ ?_
          rotate_left
          ·simp only [Act.put, List.setIfInBounds_toArray, List.set_cons_zero, List.set_cons_succ, i64_w, i32_w]
           rfl
          refine pure_ (i := 17) (N := some 38) (v := ?_) (a' := ?_) #[true, true, true, true, true, true, true, true, true, true, true, true, true, true, true, true, true, true, false] rfl rfl (any_of HT_.out (by kernel_rfl)) (fun _ _ _ h => h) (Or.inl ⟨by rfl, ?_⟩) ?_ ?_
          rotate_left
          ·intro w'
           go_simp
           with_reducible rfl
          rotate_left
          ·simp only [Act.put, List.setIfInBounds_toArray, List.set_cons_zero, List.set_cons_succ, i64_w, i32_w]
           rfl
          refine pure_ (i := 18) (N := some 39) (v := ?_) (a' := ?_) #[true, true, true, true, true, true, true, true, true, true, true, true, true, true, true, true, true, true, true] rfl rfl (any_of HT_.out (by kernel_rfl)) (fun _ _ _ h => h) (Or.inl ⟨by rfl, ?_⟩) ?_ ?_
          rotate_left
          ·intro w'
           go_simp
           with_reducible rfl
          rotate_left
          ·simp only [Act.put, List.setIfInBounds_toArray, List.set_cons_zero, List.set_cons_succ, i64_w, i32_w]
           rfl
          refine done_ (done_of HT_.out (by kernel_rfl)) ?_
          try go_wp2
          go_meet
          case rel => exact ⟨_, (false), (by first | rfl | (simp; done) | (simp [*]; done)), H', ⟨by have := HK1.out; first | omega | exact Nat.le_refl _⟩, ⟨pk BK211.out⟩, ⟨pk BK212.out⟩, ⟨pk BK214.out⟩, ⟨by repeat first | (with_reducible first | exact HB.out | refine bz ?_ (by assumption) | apply bA | apply bN | apply bD) | exact HB.out⟩⟩
        ·replace c17 := Bool.eq_false_iff.mpr c17
         subst c17
         have H1 : (impl_LoopAt.j1 k1 l0 a1 x7_1 l0 (l0.length : Int) x16_1 true x213000_1 x213001_1 x213002_1 x213003_1 x213004_1 x213005_1 x213006_1 ((rd_T45 l0 x16_1).f0) ((rd_T45 l0 x16_1).f1.f0) ((rd_T45 l0 x16_1).f1.f1) ((rd_T45 l0 x16_1).f1.f2) ((rd_T45 l0 x16_1).f1.f3) ((rd_T45 l0 x16_1).f1.f4) ((rd_T45 l0 x16_1).f1.f5) ((rd_T45 l0 x16_1).f1.f6)) = some (r1, r2, r3, r4, r5, r6, r7, r8) := by rw [if_neg (show ¬ (false = true) by decide)] at H; exact H
         clear H
         have H := H1
         clear H1
         have H' := Aside0.mk H
         clear H
         try go_wp2
         have n0_ : Aside0 (((((((((w12.setCell ⟨gb214, 0, none⟩ (.int .i64 ((rd_T45 l0 x16_1).f0))).setCell ⟨gb214, 1, none⟩ (.int .i64 ((rd_T45 l0 x16_1).f1.f0))).setCell ⟨gb214, 2, none⟩ (.int .i64 ((rd_T45 l0 x16_1).f1.f1))).setCell ⟨gb214, 3, none⟩ (.int .i64 ((rd_T45 l0 x16_1).f1.f2))).setCell ⟨gb214, 4, none⟩ (.int .i64 ((rd_T45 l0 x16_1).f1.f3))).setCell ⟨gb214, 5, none⟩ (.int .i64 ((rd_T45 l0 x16_1).f1.f4))).setCell ⟨gb214, 6, none⟩ (.int .i64 ((rd_T45 l0 x16_1).f1.f5))).setCell ⟨gb214, 7, none⟩ (.int .i64 ((rd_T45 l0 x16_1).f1.f6))).heap[gb211]? = some (.cells #[.int .i64 x212000_1, .int .i64 x212001_1, .int .i64 x212002_1, .int .i64 x212003_1, .int .i64 x212004_1, .int .i64 x212005_1, .int .i64 x212006_1] 30 (0, 0))) := ⟨by refine pk ?_; refine blk_far ?_ NB211_214.out _; refine pk ?_; refine blk_far ?_ NB211_214.out _; refine pk ?_; refine blk_far ?_ NB211_214.out _; refine pk ?_; refine blk_far ?_ NB211_214.out _; refine pk ?_; refine blk_far ?_ NB211_214.out _; refine pk ?_; refine blk_far ?_ NB211_214.out _; refine pk ?_; refine blk_far ?_ NB211_214.out _; refine pk ?_; refine blk_far ?_ NB211_214.out _; refine pk ?_; exact BK211.out⟩
         have n1_ : Aside0 (((((((((w12.setCell ⟨gb214, 0, none⟩ (.int .i64 ((rd_T45 l0 x16_1).f0))).setCell ⟨gb214, 1, none⟩ (.int .i64 ((rd_T45 l0 x16_1).f1.f0))).setCell ⟨gb214, 2, none⟩ (.int .i64 ((rd_T45 l0 x16_1).f1.f1))).setCell ⟨gb214, 3, none⟩ (.int .i64 ((rd_T45 l0 x16_1).f1.f2))).setCell ⟨gb214, 4, none⟩ (.int .i64 ((rd_T45 l0 x16_1).f1.f3))).setCell ⟨gb214, 5, none⟩ (.int .i64 ((rd_T45 l0 x16_1).f1.f4))).setCell ⟨gb214, 6, none⟩ (.int .i64 ((rd_T45 l0 x16_1).f1.f5))).setCell ⟨gb214, 7, none⟩ (.int .i64 ((rd_T45 l0 x16_1).f1.f6))).heap[gb212]? = some (.cells #[.int .i64 x213000_1, .int .i64 x213001_1, .int .i64 x213002_1, .int .i64 x213003_1, .int .i64 x213004_1, .int .i64 x213005_1, .int .i64 x213006_1] 30 (0, 0))) := ⟨by refine pk ?_; refine blk_far ?_ NB212_214.out _; refine pk ?_; refine blk_far ?_ NB212_214.out _; refine pk ?_; refine blk_far ?_ NB212_214.out _; refine pk ?_; refine blk_far ?_ NB212_214.out _; refine pk ?_; refine blk_far ?_ NB212_214.out _; refine pk ?_; refine blk_far ?_ NB212_214.out _; refine pk ?_; refine blk_far ?_ NB212_214.out _; refine pk ?_; refine blk_far ?_ NB212_214.out _; refine pk ?_; exact BK212.out⟩
         have n2_ : Aside0 (((((((((w12.setCell ⟨gb214, 0, none⟩ (.int .i64 ((rd_T45 l0 x16_1).f0))).setCell ⟨gb214, 1, none⟩ (.int .i64 ((rd_T45 l0 x16_1).f1.f0))).setCell ⟨gb214, 2, none⟩ (.int .i64 ((rd_T45 l0 x16_1).f1.f1))).setCell ⟨gb214, 3, none⟩ (.int .i64 ((rd_T45 l0 x16_1).f1.f2))).setCell ⟨gb214, 4, none⟩ (.int .i64 ((rd_T45 l0 x16_1).f1.f3))).setCell ⟨gb214, 5, none⟩ (.int .i64 ((rd_T45 l0 x16_1).f1.f4))).setCell ⟨gb214, 6, none⟩ (.int .i64 ((rd_T45 l0 x16_1).f1.f5))).setCell ⟨gb214, 7, none⟩ (.int .i64 ((rd_T45 l0 x16_1).f1.f6))).heap[gb214]? = some (.cells #[.int .i64 ((rd_T45 l0 x16_1).f0), .int .i64 ((rd_T45 l0 x16_1).f1.f0), .int .i64 ((rd_T45 l0 x16_1).f1.f1), .int .i64 ((rd_T45 l0 x16_1).f1.f2), .int .i64 ((rd_T45 l0 x16_1).f1.f3), .int .i64 ((rd_T45 l0 x16_1).f1.f4), .int .i64 ((rd_T45 l0 x16_1).f1.f5), .int .i64 ((rd_T45 l0 x16_1).f1.f6)] 45 (0, 0))) := ⟨by refine pk ?_; refine blk_put (cs := #[.int .i64 ((rd_T45 l0 x16_1).f0), .int .i64 ((rd_T45 l0 x16_1).f1.f0), .int .i64 ((rd_T45 l0 x16_1).f1.f1), .int .i64 ((rd_T45 l0 x16_1).f1.f2), .int .i64 ((rd_T45 l0 x16_1).f1.f3), .int .i64 ((rd_T45 l0 x16_1).f1.f4), .int .i64 ((rd_T45 l0 x16_1).f1.f5), .int .i64 0]) ?_ 7 _ rfl; refine pk ?_; refine blk_put (cs := #[.int .i64 ((rd_T45 l0 x16_1).f0), .int .i64 ((rd_T45 l0 x16_1).f1.f0), .int .i64 ((rd_T45 l0 x16_1).f1.f1), .int .i64 ((rd_T45 l0 x16_1).f1.f2), .int .i64 ((rd_T45 l0 x16_1).f1.f3), .int .i64 ((rd_T45 l0 x16_1).f1.f4), .int .i64 0, .int .i64 0]) ?_ 6 _ rfl; refine pk ?_; refine blk_put (cs := #[.int .i64 ((rd_T45 l0 x16_1).f0), .int .i64 ((rd_T45 l0 x16_1).f1.f0), .int .i64 ((rd_T45 l0 x16_1).f1.f1), .int .i64 ((rd_T45 l0 x16_1).f1.f2), .int .i64 ((rd_T45 l0 x16_1).f1.f3), .int .i64 0, .int .i64 0, .int .i64 0]) ?_ 5 _ rfl; refine pk ?_; refine blk_put (cs := #[.int .i64 ((rd_T45 l0 x16_1).f0), .int .i64 ((rd_T45 l0 x16_1).f1.f0), .int .i64 ((rd_T45 l0 x16_1).f1.f1), .int .i64 ((rd_T45 l0 x16_1).f1.f2), .int .i64 0, .int .i64 0, .int .i64 0, .int .i64 0]) ?_ 4 _ rfl; refine pk ?_; refine blk_put (cs := #[.int .i64 ((rd_T45 l0 x16_1).f0), .int .i64 ((rd_T45 l0 x16_1).f1.f0), .int .i64 ((rd_T45 l0 x16_1).f1.f1), .int .i64 0, .int .i64 0, .int .i64 0, .int .i64 0, .int .i64 0]) ?_ 3 _ rfl; refine pk ?_; refine blk_put (cs := #[.int .i64 ((rd_T45 l0 x16_1).f0), .int .i64 ((rd_T45 l0 x16_1).f1.f0), .int .i64 0, .int .i64 0, .int .i64 0, .int .i64 0, .int .i64 0, .int .i64 0]) ?_ 2 _ rfl; refine pk ?_; refine blk_put (cs := #[.int .i64 ((rd_T45 l0 x16_1).f0), .int .i64 0, .int .i64 0, .int .i64 0, .int .i64 0, .int .i64 0, .int .i64 0, .int .i64 0]) ?_ 1 _ rfl; refine pk ?_; refine blk_put (cs := #[.int .i64 0, .int .i64 0, .int .i64 0, .int .i64 0, .int .i64 0, .int .i64 0, .int .i64 0, .int .i64 0]) ?_ 0 _ rfl; refine pk ?_; exact BK214.out⟩
         have n3_ : Aside0 (Below w.heap.size w ((((((((w12.setCell ⟨gb214, 0, none⟩ (.int .i64 ((rd_T45 l0 x16_1).f0))).setCell ⟨gb214, 1, none⟩ (.int .i64 ((rd_T45 l0 x16_1).f1.f0))).setCell ⟨gb214, 2, none⟩ (.int .i64 ((rd_T45 l0 x16_1).f1.f1))).setCell ⟨gb214, 3, none⟩ (.int .i64 ((rd_T45 l0 x16_1).f1.f2))).setCell ⟨gb214, 4, none⟩ (.int .i64 ((rd_T45 l0 x16_1).f1.f3))).setCell ⟨gb214, 5, none⟩ (.int .i64 ((rd_T45 l0 x16_1).f1.f4))).setCell ⟨gb214, 6, none⟩ (.int .i64 ((rd_T45 l0 x16_1).f1.f5))).setCell ⟨gb214, 7, none⟩ (.int .i64 ((rd_T45 l0 x16_1).f1.f6)))) := ⟨by repeat first | (with_reducible first | exact HB.out | refine bz ?_ (by assumption) | apply bA | apply bN | apply bD) | exact HB.out⟩
         (try clear BK211)
         (try clear BK212)
         (try clear BK214)
         (try clear HB)
         generalize ((((((((w12.setCell ⟨gb214, 0, none⟩ (.int .i64 ((rd_T45 l0 x16_1).f0))).setCell ⟨gb214, 1, none⟩ (.int .i64 ((rd_T45 l0 x16_1).f1.f0))).setCell ⟨gb214, 2, none⟩ (.int .i64 ((rd_T45 l0 x16_1).f1.f1))).setCell ⟨gb214, 3, none⟩ (.int .i64 ((rd_T45 l0 x16_1).f1.f2))).setCell ⟨gb214, 4, none⟩ (.int .i64 ((rd_T45 l0 x16_1).f1.f3))).setCell ⟨gb214, 5, none⟩ (.int .i64 ((rd_T45 l0 x16_1).f1.f4))).setCell ⟨gb214, 6, none⟩ (.int .i64 ((rd_T45 l0 x16_1).f1.f5))).setCell ⟨gb214, 7, none⟩ (.int .i64 ((rd_T45 l0 x16_1).f1.f6))) = w28 at n0_ n1_ n2_ n3_ ⊢
         have BK211 := n0_
         have BK212 := n1_
         have BK214 := n2_
         have HB := n3_
         clear n0_ n1_ n2_ n3_
         replace BK211 := a_ (blk_drew BK211.out)
         replace BK212 := a_ (blk_drew BK212.out)
         replace BK214 := a_ (blk_drew BK214.out)
         replace HB := a_ (below_drew1 HB.out)
         refine start_ (n := 19) (S := fun w' => w'.cell? ⟨gb214, 0, none⟩ = some (.int .i64 ((rd_T45 l0 x16_1).f0)) ∧ w'.cell? ⟨gb214, 1, none⟩ = some (.int .i64 ((rd_T45 l0 x16_1).f1.f0)) ∧ w'.cell? ⟨gb214, 2, none⟩ = some (.int .i64 ((rd_T45 l0 x16_1).f1.f1)) ∧ w'.cell? ⟨gb214, 3, none⟩ = some (.int .i64 ((rd_T45 l0 x16_1).f1.f2)) ∧ w'.cell? ⟨gb214, 4, none⟩ = some (.int .i64 ((rd_T45 l0 x16_1).f1.f3)) ∧ w'.cell? ⟨gb214, 5, none⟩ = some (.int .i64 ((rd_T45 l0 x16_1).f1.f4)) ∧ w'.cell? ⟨gb214, 6, none⟩ = some (.int .i64 ((rd_T45 l0 x16_1).f1.f5)) ∧ w'.cell? ⟨gb214, 7, none⟩ = some (.int .i64 ((rd_T45 l0 x16_1).f1.f6))) (ds := []) #[false, false, false, false, false, false, false, false, false, false, false, false, false, false, false, false, false, false, false] (by kernel_rfl) rfl rfl ⟨(blk_cell BK214.out 0).trans rfl, (blk_cell BK214.out 1).trans rfl, (blk_cell BK214.out 2).trans rfl, (blk_cell BK214.out 3).trans rfl, (blk_cell BK214.out 4).trans rfl, (blk_cell BK214.out 5).trans rfl, (blk_cell BK214.out 6).trans rfl, (blk_cell BK214.out 7).trans rfl⟩ (fun hHeld => ?_); refine with_tabW impl_LoopAt.tab8 impl_LoopAt.bits8 (fun HT_ HW_ => ?_)
         generalize w28.drew = w29 at BK211 BK212 BK214 HB hHeld ⊢
         refine pure_ (i := 0) (N := some 21) (v := ?_) (a' := ?_) #[true, false, false, false, false, false, false, false, false, false, false, false, false, false, false, false, false, false, false] rfl rfl (any_of HT_.out (by kernel_rfl)) (fun _ _ _ h => h) (Or.inl ⟨by rfl, ?_⟩) ?_ ?_
         rotate_left
         ·intro w'
          go_simp
          with_reducible rfl
         rotate_left
         ·simp only [Act.put, List.setIfInBounds_toArray, List.set_cons_zero, List.set_cons_succ, i64_w, i32_w]
          rfl
         refine take_ (i := 1) (N := some 22) (v := ?_) (a' := ?_) #[true, true, false, false, false, false, false, false, false, false, false, false, false, false, false, false, false, false, false] rfl rfl (take_ofW HT_.out HW_.out (by kernel_rfl)) (fun _ _ _ h => h) (Or.inl ⟨by rfl, ?_⟩) hHeld ?_ ?_
         rotate_left
         ·rintro w' ⟨s0, s1, s2, s3, s4, s5, s6, s7⟩
          go_simp
          with_reducible rfl
         rotate_left
         ·simp only [Act.put, List.setIfInBounds_toArray, List.set_cons_zero, List.set_cons_succ, i64_w, i32_w]
          rfl
         refine one_ (i := 2) (N := some 23) #[true, true, true, false, false, false, false, false, false, false, false, false, false, false, false, false, false, false, false] rfl rfl (one_of HT_.out (by kernel_rfl)) (by decide) (fun K hK => ?_)
         refine goes_ Try.func29 (by kernel_rfl) rfl #[.agg #[.int .i64 ((rd_T45 l0 x16_1).f1.f0), .int .i64 ((rd_T45 l0 x16_1).f1.f1), .int .i64 ((rd_T45 l0 x16_1).f1.f2), .int .i64 ((rd_T45 l0 x16_1).f1.f3), .int .i64 ((rd_T45 l0 x16_1).f1.f4), .int .i64 ((rd_T45 l0 x16_1).f1.f5), .int .i64 ((rd_T45 l0 x16_1).f1.f6)]] (by rfl) rfl rfl (by (try simp only [lA, lB, lC]); first | done | rfl | (simp only [lD, lE]; rfl)) ?_
         with_reducible refine (impl_GoodLoop.calls ((rd_T45 l0 x16_1).f1.f0) ((rd_T45 l0 x16_1).f1.f1) ((rd_T45 l0 x16_1).f1.f2) ((rd_T45 l0 x16_1).f1.f3) ((rd_T45 l0 x16_1).f1.f4) ((rd_T45 l0 x16_1).f1.f5) ((rd_T45 l0 x16_1).f1.f6) false _ A16.out).mono ?_
         rintro e w30 ⟨rfl, hb⟩
         refine ⟨_, rfl, ?_⟩
         replace BK211 := a_ (blk_below (pk BK211.out) hb)
         replace BK212 := a_ (blk_below (pk BK212.out) hb)
         replace BK214 := a_ (blk_below (pk BK214.out) hb)
         replace HB := a_ (below_step (by repeat first | (with_reducible first | exact HB.out | refine bz ?_ (by assumption) | apply bA | apply bN | apply bD) | exact HB.out) hb)
         (try clear hb)
         (try clear hb2)
         (try clear hk)
         (try clear hi)
         refine hK.out _ _ ⟨(blk_cell BK214.out 0).trans rfl, (blk_cell BK214.out 1).trans rfl, (blk_cell BK214.out 2).trans rfl, (blk_cell BK214.out 3).trans rfl, (blk_cell BK214.out 4).trans rfl, (blk_cell BK214.out 5).trans rfl, (blk_cell BK214.out 6).trans rfl, (blk_cell BK214.out 7).trans rfl⟩ (fun hHeld => ?_)
         clear hK K
         refine norm_ (a' := ?_) ?_ ?_
         rotate_left
         ·show Act.put _ (some 23) _ = _
          simp only [Act.put, List.setIfInBounds_toArray, List.set_cons_zero, List.set_cons_succ, i64_w, i32_w]
          rfl
         refine pure_ (i := 3) (N := some 24) (v := ?_) (a' := ?_) #[true, true, true, true, false, false, false, false, false, false, false, false, false, false, false, false, false, false, false] rfl rfl (any_of HT_.out (by kernel_rfl)) (fun _ _ _ h => h) (Or.inl ⟨by rfl, ?_⟩) ?_ ?_
         rotate_left
         ·intro w'
          go_simp
          with_reducible rfl
         rotate_left
         ·simp only [Act.put, List.setIfInBounds_toArray, List.set_cons_zero, List.set_cons_succ, i64_w, i32_w]
          rfl
         refine pure_ (i := 4) (N := some 25) (v := ?_) (a' := ?_) #[true, true, true, true, true, false, false, false, false, false, false, false, false, false, false, false, false, false, false] rfl rfl (any_of HT_.out (by kernel_rfl)) (fun _ _ _ h => h) (Or.inl ⟨by rfl, ?_⟩) ?_ ?_
         rotate_left
         ·intro w'
          go_simp
          with_reducible rfl
         rotate_left
         ·simp only [Act.put, List.setIfInBounds_toArray, List.set_cons_zero, List.set_cons_succ, i64_w, i32_w]
          rfl
         refine pure_ (i := 5) (N := some 26) (v := undef) (a' := ?_) #[true, true, true, true, true, true, false, false, false, false, false, false, false, false, false, false, false, false, false] rfl rfl (any_of HT_.out (by kernel_rfl)) (fun _ _ _ h => h) (Or.inr ⟨by rfl, rfl⟩) ?_ ?_
         rotate_left
         ·simp only [Act.put, List.setIfInBounds_toArray, List.set_cons_zero, List.set_cons_succ, i64_w, i32_w]
          rfl
         refine pure_ (i := 6) (N := some 27) (v := undef) (a' := ?_) #[true, true, true, true, true, true, true, false, false, false, false, false, false, false, false, false, false, false, false] rfl rfl (any_of HT_.out (by kernel_rfl)) (fun _ _ _ h => h) (Or.inr ⟨by rfl, rfl⟩) ?_ ?_
         rotate_left
         ·simp only [Act.put, List.setIfInBounds_toArray, List.set_cons_zero, List.set_cons_succ, i64_w, i32_w]
          rfl
         refine pure_ (i := 7) (N := some 28) (v := undef) (a' := ?_) #[true, true, true, true, true, true, true, true, false, false, false, false, false, false, false, false, false, false, false] rfl rfl (any_of HT_.out (by kernel_rfl)) (fun _ _ _ h => h) (Or.inr ⟨by rfl, rfl⟩) ?_ ?_
         rotate_left
         ·simp only [Act.put, List.setIfInBounds_toArray, List.set_cons_zero, List.set_cons_succ, i64_w, i32_w]
          rfl
         refine pure_ (i := 8) (N := some 29) (v := undef) (a' := ?_) #[true, true, true, true, true, true, true, true, true, false, false, false, false, false, false, false, false, false, false] rfl rfl (any_of HT_.out (by kernel_rfl)) (fun _ _ _ h => h) (Or.inr ⟨by rfl, rfl⟩) ?_ ?_
         rotate_left
         ·simp only [Act.put, List.setIfInBounds_toArray, List.set_cons_zero, List.set_cons_succ, i64_w, i32_w]
          rfl
         refine pure_ (i := 9) (N := some 30) (v := undef) (a' := ?_) #[true, true, true, true, true, true, true, true, true, true, false, false, false, false, false, false, false, false, false] rfl rfl (any_of HT_.out (by kernel_rfl)) (fun _ _ _ h => h) (Or.inr ⟨by rfl, rfl⟩) ?_ ?_
         rotate_left
         ·simp only [Act.put, List.setIfInBounds_toArray, List.set_cons_zero, List.set_cons_succ, i64_w, i32_w]
          rfl
         refine pure_ (i := 10) (N := some 31) (v := undef) (a' := ?_) #[true, true, true, true, true, true, true, true, true, true, true, false, false, false, false, false, false, false, false] rfl rfl (any_of HT_.out (by kernel_rfl)) (fun _ _ _ h => h) (Or.inr ⟨by rfl, rfl⟩) ?_ ?_
         rotate_left
         ·simp only [Act.put, List.setIfInBounds_toArray, List.set_cons_zero, List.set_cons_succ, i64_w, i32_w]
          rfl
         refine pure_ (i := 11) (N := some 32) (v := undef) (a' := ?_) #[true, true, true, true, true, true, true, true, true, true, true, true, false, false, false, false, false, false, false] rfl rfl (any_of HT_.out (by kernel_rfl)) (fun _ _ _ h => h) (Or.inr ⟨by rfl, rfl⟩) ?_ ?_
         rotate_left
         ·simp only [Act.put, List.setIfInBounds_toArray, List.set_cons_zero, List.set_cons_succ, i64_w, i32_w]
          rfl
         refine pure_ (i := 12) (N := some 33) (v := undef) (a' := ?_) #[true, true, true, true, true, true, true, true, true, true, true, true, true, false, false, false, false, false, false] rfl rfl (any_of HT_.out (by kernel_rfl)) (fun _ _ _ h => h) (Or.inr ⟨by rfl, rfl⟩) ?_ ?_
         rotate_left
         ·simp only [Act.put, List.setIfInBounds_toArray, List.set_cons_zero, List.set_cons_succ, i64_w, i32_w]
          rfl
         refine pure_ (i := 13) (N := some 34) (v := undef) (a' := ?_) #[true, true, true, true, true, true, true, true, true, true, true, true, true, true, false, false, false, false, false] rfl rfl (any_of HT_.out (by kernel_rfl)) (fun _ _ _ h => h) (Or.inr ⟨by rfl, rfl⟩) ?_ ?_
         rotate_left
         ·simp only [Act.put, List.setIfInBounds_toArray, List.set_cons_zero, List.set_cons_succ, i64_w, i32_w]
          rfl
         refine pure_ (i := 14) (N := some 35) (v := undef) (a' := ?_) #[true, true, true, true, true, true, true, true, true, true, true, true, true, true, true, false, false, false, false] rfl rfl (any_of HT_.out (by kernel_rfl)) (fun _ _ _ h => h) (Or.inr ⟨by rfl, rfl⟩) ?_ ?_
         rotate_left
         ·simp only [Act.put, List.setIfInBounds_toArray, List.set_cons_zero, List.set_cons_succ, i64_w, i32_w]
          rfl
         refine pure_ (i := 15) (N := some 36) (v := undef) (a' := ?_) #[true, true, true, true, true, true, true, true, true, true, true, true, true, true, true, true, false, false, false] rfl rfl (any_of HT_.out (by kernel_rfl)) (fun _ _ _ h => h) (Or.inr ⟨by rfl, rfl⟩) ?_ ?_
         rotate_left
         ·simp only [Act.put, List.setIfInBounds_toArray, List.set_cons_zero, List.set_cons_succ, i64_w, i32_w]
          rfl
         refine pure_ (i := 16) (N := some 37) (v := undef) (a' := ?_) #[true, true, true, true, true, true, true, true, true, true, true, true, true, true, true, true, true, false, false] rfl rfl (any_of HT_.out (by kernel_rfl)) (fun _ _ _ h => h) (Or.inr ⟨by rfl, rfl⟩) ?_ ?_
         rotate_left
         ·simp only [Act.put, List.setIfInBounds_toArray, List.set_cons_zero, List.set_cons_succ, i64_w, i32_w]
          rfl
         refine pure_ (i := 17) (N := some 38) (v := undef) (a' := ?_) #[true, true, true, true, true, true, true, true, true, true, true, true, true, true, true, true, true, true, false] rfl rfl (any_of HT_.out (by kernel_rfl)) (fun _ _ _ h => h) (Or.inr ⟨by rfl, rfl⟩) ?_ ?_
         rotate_left
         ·simp only [Act.put, List.setIfInBounds_toArray, List.set_cons_zero, List.set_cons_succ, i64_w, i32_w]
          rfl
         refine pure_ (i := 18) (N := some 39) (v := ?_) (a' := ?_) #[true, true, true, true, true, true, true, true, true, true, true, true, true, true, true, true, true, true, true] rfl rfl (any_of HT_.out (by kernel_rfl)) (fun _ _ _ h => h) (Or.inl ⟨by rfl, ?_⟩) ?_ ?_
         rotate_left
         ·intro w'
          go_simp
          with_reducible rfl
         rotate_left
         ·simp only [Act.put, List.setIfInBounds_toArray, List.set_cons_zero, List.set_cons_succ, i64_w, i32_w]
          rfl
         refine done_ (done_of HT_.out (by kernel_rfl)) ?_
         try go_wp2
         go_meet
         case rel => exact ⟨_, (true), (by first | rfl | (simp; done) | (simp [*]; done)), H', ⟨by have := HK1.out; first | omega | exact Nat.le_refl _⟩, ⟨pk BK211.out⟩, ⟨pk BK212.out⟩, ⟨pk BK214.out⟩, ⟨by repeat first | (with_reducible first | exact HB.out | refine bz ?_ (by assumption) | apply bA | apply bN | apply bD) | exact HB.out⟩⟩
       case rest =>
        clear HC11
        try clear c1
        try clear c2
        try clear p2
        try clear q2
        try clear hx2
        try clear p6
        try clear c17
        try clear c18
        try clear c18b0
        try clear c20
        try clear c20b0
        try clear c21
        try clear c21b0
        try clear p21
        try clear q21
        try clear hx21
        try clear c29
        try clear hx216_0
        try clear hx216_1
        try clear hx216_2
        try clear hx216_3
        try clear hx216_4
        try clear hx216_5
        try clear hx216_6
        try clear hx216_7
        try clear p216
        try clear q216
        obtain ⟨kq, x39_10, rfl, HA, HJ10, BK211, BK212, BK214, HB⟩ := hcut
        cases kq with
        | zero => exact absurd HA.out (by simp [impl_LoopAt.j1])
        | succ kj10 =>
         have H := HA.out
         clear HA
         simp only [impl_LoopAt.j1] at H
         by_cases c31 : x39_10 = true
         ·subst c31
          have H1 : (some (0, 0, 0, 0, 0, 0, 0, false)) = some (r1, r2, r3, r4, r5, r6, r7, r8) := by rw [if_pos rfl] at H; exact H
          clear H
          have H := H1
          clear H1
          simp only [Option.some.injEq, Prod.mk.injEq] at H
          obtain ⟨rfl, rfl, rfl, rfl, rfl, rfl, rfl, rfl⟩ := H
          have hnb32 := NB211_212.out
          have hnc32 := NB212_211.out
          have hnb33 := NB211_214.out
          have hnc33 := NB214_211.out
          have hcz34_0 : wc.cell? ⟨gb211, 0, none⟩ = some (.int .i64 x212000_1) := (blk_cell BK211.out 0).trans rfl
          have hcz34_1 : wc.cell? ⟨gb211, 1, none⟩ = some (.int .i64 x212001_1) := (blk_cell BK211.out 1).trans rfl
          have hcz34_2 : wc.cell? ⟨gb211, 2, none⟩ = some (.int .i64 x212002_1) := (blk_cell BK211.out 2).trans rfl
          have hcz34_3 : wc.cell? ⟨gb211, 3, none⟩ = some (.int .i64 x212003_1) := (blk_cell BK211.out 3).trans rfl
          have hcz34_4 : wc.cell? ⟨gb211, 4, none⟩ = some (.int .i64 x212004_1) := (blk_cell BK211.out 4).trans rfl
          have hcz34_5 : wc.cell? ⟨gb211, 5, none⟩ = some (.int .i64 x212005_1) := (blk_cell BK211.out 5).trans rfl
          have hcz34_6 : wc.cell? ⟨gb211, 6, none⟩ = some (.int .i64 x212006_1) := (blk_cell BK211.out 6).trans rfl
          have hfz34_0 := blk_frozen BK211.out 0
          have hfz34_1 := blk_frozen BK211.out 1
          have hfz34_2 := blk_frozen BK211.out 2
          have hfz34_3 := blk_frozen BK211.out 3
          have hfz34_4 := blk_frozen BK211.out 4
          have hfz34_5 := blk_frozen BK211.out 5
          have hfz34_6 := blk_frozen BK211.out 6
          go_wp2
          refine bodyPost_ret (results_ct rfl _ _ gb211 30 #[.int .i64 0, .int .i64 0, .int .i64 0, .int .i64 0, .int .i64 0, .int .i64 0, .int .i64 0] (0, 0) _ rfl (by refine pk ?_; refine blk_put (cs := #[.int .i64 0, .int .i64 0, .int .i64 0, .int .i64 0, .int .i64 0, .int .i64 0, .int .i64 x212006_1]) ?_ 6 _ rfl; refine pk ?_; refine blk_put (cs := #[.int .i64 0, .int .i64 0, .int .i64 0, .int .i64 0, .int .i64 0, .int .i64 x212005_1, .int .i64 x212006_1]) ?_ 5 _ rfl; refine pk ?_; refine blk_put (cs := #[.int .i64 0, .int .i64 0, .int .i64 0, .int .i64 0, .int .i64 x212004_1, .int .i64 x212005_1, .int .i64 x212006_1]) ?_ 4 _ rfl; refine pk ?_; refine blk_put (cs := #[.int .i64 0, .int .i64 0, .int .i64 0, .int .i64 x212003_1, .int .i64 x212004_1, .int .i64 x212005_1, .int .i64 x212006_1]) ?_ 3 _ rfl; refine pk ?_; refine blk_put (cs := #[.int .i64 0, .int .i64 0, .int .i64 x212002_1, .int .i64 x212003_1, .int .i64 x212004_1, .int .i64 x212005_1, .int .i64 x212006_1]) ?_ 2 _ rfl; refine pk ?_; refine blk_put (cs := #[.int .i64 0, .int .i64 x212001_1, .int .i64 x212002_1, .int .i64 x212003_1, .int .i64 x212004_1, .int .i64 x212005_1, .int .i64 x212006_1]) ?_ 1 _ rfl; refine pk ?_; refine blk_put (cs := #[.int .i64 x212000_1, .int .i64 x212001_1, .int .i64 x212002_1, .int .i64 x212003_1, .int .i64 x212004_1, .int .i64 x212005_1, .int .i64 x212006_1]) ?_ 0 _ rfl; refine pk ?_; exact BK211.out) Try.underlying30 rfl (by kernel_rfl)) rfl ?_
          exact ⟨by first | rfl | (simp [errW_none, errW_some] <;> rfl) | (simp [*, errW_none, errW_some] <;> rfl), by repeat first | (with_reducible first | exact HB.out | refine bz ?_ (by assumption) | apply bA | apply bN | apply bD) | exact HB.out⟩
         ·replace c31 := Bool.eq_false_iff.mpr c31
          subst c31
          have H1 : (if ((rd_T45 l0 x16_1).f0) ≤ a1 then (impl_LoopAt.l0 kj10 l0 a1 true l0 (l0.length : Int) (wrap64 (x16_1 + 1)) ((rd_T45 l0 x16_1).f1.f0) ((rd_T45 l0 x16_1).f1.f1) ((rd_T45 l0 x16_1).f1.f2) ((rd_T45 l0 x16_1).f1.f3) ((rd_T45 l0 x16_1).f1.f4) ((rd_T45 l0 x16_1).f1.f5) ((rd_T45 l0 x16_1).f1.f6)) else (impl_LoopAt.l0 kj10 l0 a1 x7_1 l0 (l0.length : Int) (wrap64 (x16_1 + 1)) x213000_1 x213001_1 x213002_1 x213003_1 x213004_1 x213005_1 x213006_1)) = some (r1, r2, r3, r4, r5, r6, r7, r8) := by rw [if_neg (show ¬ (false = true) by decide)] at H; exact H
          clear H
          have H := H1
          clear H1
          by_cases c35 : ((rd_T45 l0 x16_1).f0) ≤ a1
          ·rw [if_pos c35] at H
           have c35b0 : decide (((rd_T45 l0 x16_1).f0) ≤ a1) = true := decide_eq_true c35
           clear c35
           have H' := Aside0.mk H
           clear H
           have hnb36 := NB214_211.out
           have hnc36 := NB211_214.out
           have hnb37 := NB214_212.out
           have hnc37 := NB212_214.out
           have hcz38_0 : wc.cell? ⟨gb214, 0, none⟩ = some (.int .i64 ((rd_T45 l0 x16_1).f0)) := (blk_cell BK214.out 0).trans rfl
           have hcz38_1 : wc.cell? ⟨gb214, 1, none⟩ = some (.int .i64 ((rd_T45 l0 x16_1).f1.f0)) := (blk_cell BK214.out 1).trans rfl
           have hcz38_2 : wc.cell? ⟨gb214, 2, none⟩ = some (.int .i64 ((rd_T45 l0 x16_1).f1.f1)) := (blk_cell BK214.out 2).trans rfl
           have hcz38_3 : wc.cell? ⟨gb214, 3, none⟩ = some (.int .i64 ((rd_T45 l0 x16_1).f1.f2)) := (blk_cell BK214.out 3).trans rfl
           have hcz38_4 : wc.cell? ⟨gb214, 4, none⟩ = some (.int .i64 ((rd_T45 l0 x16_1).f1.f3)) := (blk_cell BK214.out 4).trans rfl
           have hcz38_5 : wc.cell? ⟨gb214, 5, none⟩ = some (.int .i64 ((rd_T45 l0 x16_1).f1.f4)) := (blk_cell BK214.out 5).trans rfl
           have hcz38_6 : wc.cell? ⟨gb214, 6, none⟩ = some (.int .i64 ((rd_T45 l0 x16_1).f1.f5)) := (blk_cell BK214.out 6).trans rfl
           have hcz38_7 : wc.cell? ⟨gb214, 7, none⟩ = some (.int .i64 ((rd_T45 l0 x16_1).f1.f6)) := (blk_cell BK214.out 7).trans rfl
           have hfz38_0 := blk_frozen BK214.out 0
           have hfz38_1 := blk_frozen BK214.out 1
           have hfz38_2 := blk_frozen BK214.out 2
           have hfz38_3 := blk_frozen BK214.out 3
           have hfz38_4 := blk_frozen BK214.out 4
           have hfz38_5 := blk_frozen BK214.out 5
           have hfz38_6 := blk_frozen BK214.out 6
           have hfz38_7 := blk_frozen BK214.out 7
           have hnb39 := NB212_211.out
           have hnc39 := NB211_212.out
           have hcz40_0 : wc.cell? ⟨gb212, 0, none⟩ = some (.int .i64 x213000_1) := (blk_cell BK212.out 0).trans rfl
           have hcz40_1 : wc.cell? ⟨gb212, 1, none⟩ = some (.int .i64 x213001_1) := (blk_cell BK212.out 1).trans rfl
           have hcz40_2 : wc.cell? ⟨gb212, 2, none⟩ = some (.int .i64 x213002_1) := (blk_cell BK212.out 2).trans rfl
           have hcz40_3 : wc.cell? ⟨gb212, 3, none⟩ = some (.int .i64 x213003_1) := (blk_cell BK212.out 3).trans rfl
           have hcz40_4 : wc.cell? ⟨gb212, 4, none⟩ = some (.int .i64 x213004_1) := (blk_cell BK212.out 4).trans rfl
           have hcz40_5 : wc.cell? ⟨gb212, 5, none⟩ = some (.int .i64 x213005_1) := (blk_cell BK212.out 5).trans rfl
           have hcz40_6 : wc.cell? ⟨gb212, 6, none⟩ = some (.int .i64 x213006_1) := (blk_cell BK212.out 6).trans rfl
           have hfz40_0 := blk_frozen BK212.out 0
           have hfz40_1 := blk_frozen BK212.out 1
           have hfz40_2 := blk_frozen BK212.out 2
           have hfz40_3 := blk_frozen BK212.out 3
           have hfz40_4 := blk_frozen BK212.out 4
           have hfz40_5 := blk_frozen BK212.out 5
           have hfz40_6 := blk_frozen BK212.out 6
           go_wp2
           go_roundg kj10
           case measure => have := HK1.out; have := HJ10.out; omega
           case rel => exact ⟨(true), (wrap64 (x16_1 + 1)), (x212000_1), (x212001_1), (x212002_1), (x212003_1), (x212004_1), (x212005_1), (x212006_1), (((rd_T45 l0 x16_1).f1.f0)), (((rd_T45 l0 x16_1).f1.f1)), (((rd_T45 l0 x16_1).f1.f2)), (((rd_T45 l0 x16_1).f1.f3)), (((rd_T45 l0 x16_1).f1.f4)), (((rd_T45 l0 x16_1).f1.f5)), (((rd_T45 l0 x16_1).f1.f6)), (by first | rfl | (simp; done) | (simp [*]; done)), (by first | rfl | (simp; done) | (simp [*]; done)), H', ⟨by have := HK1.out; have := HJ10.out; omega⟩, ⟨by refine pk ?_; refine blk_far ?_ NB211_212.out _; refine pk ?_; refine blk_far ?_ NB211_212.out _; refine pk ?_; refine blk_far ?_ NB211_212.out _; refine pk ?_; refine blk_far ?_ NB211_212.out _; refine pk ?_; refine blk_far ?_ NB211_212.out _; refine pk ?_; refine blk_far ?_ NB211_212.out _; refine pk ?_; refine blk_far ?_ NB211_212.out _; refine pk ?_; exact BK211.out⟩, ⟨by refine pk ?_; refine blk_put (cs := #[.int .i64 ((rd_T45 l0 x16_1).f1.f0), .int .i64 ((rd_T45 l0 x16_1).f1.f1), .int .i64 ((rd_T45 l0 x16_1).f1.f2), .int .i64 ((rd_T45 l0 x16_1).f1.f3), .int .i64 ((rd_T45 l0 x16_1).f1.f4), .int .i64 ((rd_T45 l0 x16_1).f1.f5), .int .i64 x213006_1]) ?_ 6 _ rfl; refine pk ?_; refine blk_put (cs := #[.int .i64 ((rd_T45 l0 x16_1).f1.f0), .int .i64 ((rd_T45 l0 x16_1).f1.f1), .int .i64 ((rd_T45 l0 x16_1).f1.f2), .int .i64 ((rd_T45 l0 x16_1).f1.f3), .int .i64 ((rd_T45 l0 x16_1).f1.f4), .int .i64 x213005_1, .int .i64 x213006_1]) ?_ 5 _ rfl; refine pk ?_; refine blk_put (cs := #[.int .i64 ((rd_T45 l0 x16_1).f1.f0), .int .i64 ((rd_T45 l0 x16_1).f1.f1), .int .i64 ((rd_T45 l0 x16_1).f1.f2), .int .i64 ((rd_T45 l0 x16_1).f1.f3), .int .i64 x213004_1, .int .i64 x213005_1, .int .i64 x213006_1]) ?_ 4 _ rfl; refine pk ?_; refine blk_put (cs := #[.int .i64 ((rd_T45 l0 x16_1).f1.f0), .int .i64 ((rd_T45 l0 x16_1).f1.f1), .int .i64 ((rd_T45 l0 x16_1).f1.f2), .int .i64 x213003_1, .int .i64 x213004_1, .int .i64 x213005_1, .int .i64 x213006_1]) ?_ 3 _ rfl; refine pk ?_; refine blk_put (cs := #[.int .i64 ((rd_T45 l0 x16_1).f1.f0), .int .i64 ((rd_T45 l0 x16_1).f1.f1), .int .i64 x213002_1, .int .i64 x213003_1, .int .i64 x213004_1, .int .i64 x213005_1, .int .i64 x213006_1]) ?_ 2 _ rfl; refine pk ?_; refine blk_put (cs := #[.int .i64 ((rd_T45 l0 x16_1).f1.f0), .int .i64 x213001_1, .int .i64 x213002_1, .int .i64 x213003_1, .int .i64 x213004_1, .int .i64 x213005_1, .int .i64 x213006_1]) ?_ 1 _ rfl; refine pk ?_; refine blk_put (cs := #[.int .i64 x213000_1, .int .i64 x213001_1, .int .i64 x213002_1, .int .i64 x213003_1, .int .i64 x213004_1, .int .i64 x213005_1, .int .i64 x213006_1]) ?_ 0 _ rfl; refine pk ?_; exact BK212.out⟩, ⟨by repeat first | (with_reducible first | exact HB.out | refine bz ?_ (by assumption) | apply bA | apply bN | apply bD) | exact HB.out⟩⟩
          ·rw [if_neg c35] at H
           have c35b0 : decide (((rd_T45 l0 x16_1).f0) ≤ a1) = false := decide_eq_false c35
           clear c35
           have H' := Aside0.mk H
           clear H
           have hnb41 := NB214_211.out
           have hnc41 := NB211_214.out
           have hnb42 := NB214_212.out
           have hnc42 := NB212_214.out
           have hcz43_0 : wc.cell? ⟨gb214, 0, none⟩ = some (.int .i64 ((rd_T45 l0 x16_1).f0)) := (blk_cell BK214.out 0).trans rfl
           have hcz43_1 : wc.cell? ⟨gb214, 1, none⟩ = some (.int .i64 ((rd_T45 l0 x16_1).f1.f0)) := (blk_cell BK214.out 1).trans rfl
           have hcz43_2 : wc.cell? ⟨gb214, 2, none⟩ = some (.int .i64 ((rd_T45 l0 x16_1).f1.f1)) := (blk_cell BK214.out 2).trans rfl
           have hcz43_3 : wc.cell? ⟨gb214, 3, none⟩ = some (.int .i64 ((rd_T45 l0 x16_1).f1.f2)) := (blk_cell BK214.out 3).trans rfl
           have hcz43_4 : wc.cell? ⟨gb214, 4, none⟩ = some (.int .i64 ((rd_T45 l0 x16_1).f1.f3)) := (blk_cell BK214.out 4).trans rfl
           have hcz43_5 : wc.cell? ⟨gb214, 5, none⟩ = some (.int .i64 ((rd_T45 l0 x16_1).f1.f4)) := (blk_cell BK214.out 5).trans rfl
           have hcz43_6 : wc.cell? ⟨gb214, 6, none⟩ = some (.int .i64 ((rd_T45 l0 x16_1).f1.f5)) := (blk_cell BK214.out 6).trans rfl
           have hcz43_7 : wc.cell? ⟨gb214, 7, none⟩ = some (.int .i64 ((rd_T45 l0 x16_1).f1.f6)) := (blk_cell BK214.out 7).trans rfl
           have hfz43_0 := blk_frozen BK214.out 0
           have hfz43_1 := blk_frozen BK214.out 1
           have hfz43_2 := blk_frozen BK214.out 2
           have hfz43_3 := blk_frozen BK214.out 3
           have hfz43_4 := blk_frozen BK214.out 4
           have hfz43_5 := blk_frozen BK214.out 5
           have hfz43_6 := blk_frozen BK214.out 6
           have hfz43_7 := blk_frozen BK214.out 7
           go_wp2
           go_roundg kj10
           case measure => have := HK1.out; have := HJ10.out; omega
           case rel => exact ⟨(x7_1), (wrap64 (x16_1 + 1)), (x212000_1), (x212001_1), (x212002_1), (x212003_1), (x212004_1), (x212005_1), (x212006_1), (x213000_1), (x213001_1), (x213002_1), (x213003_1), (x213004_1), (x213005_1), (x213006_1), (by first | rfl | (simp; done) | (simp [*]; done)), (by first | rfl | (simp; done) | (simp [*]; done)), H', ⟨by have := HK1.out; have := HJ10.out; omega⟩, ⟨pk BK211.out⟩, ⟨pk BK212.out⟩, ⟨by repeat first | (with_reducible first | exact HB.out | refine bz ?_ (by assumption) | apply bA | apply bN | apply bD) | exact HB.out⟩⟩
      ·rw [if_neg c10] at H
       exact absurd H (by simp)
     ·rw [if_neg c9] at H
      exact absurd H (by simp)
    ·rw [if_neg c8] at H
     have c8b0 : decide (x16_1 < (l0.length : Int)) = false := decide_eq_false c8
     clear c8
     simp only [Option.some.injEq, Prod.mk.injEq] at H
     obtain ⟨rfl, rfl, rfl, rfl, rfl, rfl, rfl, rfl⟩ := H
     have hnb44 := NB212_211.out
     have hnc44 := NB211_212.out
     have hcz45_0 : wr.cell? ⟨gb212, 0, none⟩ = some (.int .i64 x213000_1) := (blk_cell BK212.out 0).trans rfl
     have hcz45_1 : wr.cell? ⟨gb212, 1, none⟩ = some (.int .i64 x213001_1) := (blk_cell BK212.out 1).trans rfl
     have hcz45_2 : wr.cell? ⟨gb212, 2, none⟩ = some (.int .i64 x213002_1) := (blk_cell BK212.out 2).trans rfl
     have hcz45_3 : wr.cell? ⟨gb212, 3, none⟩ = some (.int .i64 x213003_1) := (blk_cell BK212.out 3).trans rfl
     have hcz45_4 : wr.cell? ⟨gb212, 4, none⟩ = some (.int .i64 x213004_1) := (blk_cell BK212.out 4).trans rfl
     have hcz45_5 : wr.cell? ⟨gb212, 5, none⟩ = some (.int .i64 x213005_1) := (blk_cell BK212.out 5).trans rfl
     have hcz45_6 : wr.cell? ⟨gb212, 6, none⟩ = some (.int .i64 x213006_1) := (blk_cell BK212.out 6).trans rfl
     have hfz45_0 := blk_frozen BK212.out 0
     have hfz45_1 := blk_frozen BK212.out 1
     have hfz45_2 := blk_frozen BK212.out 2
     have hfz45_3 := blk_frozen BK212.out 3
     have hfz45_4 := blk_frozen BK212.out 4
     have hfz45_5 := blk_frozen BK212.out 5
     have hfz45_6 := blk_frozen BK212.out 6
     have hcz46_0 : wr.cell? ⟨gb211, 0, none⟩ = some (.int .i64 x212000_1) := (blk_cell BK211.out 0).trans rfl
     have hcz46_1 : wr.cell? ⟨gb211, 1, none⟩ = some (.int .i64 x212001_1) := (blk_cell BK211.out 1).trans rfl
     have hcz46_2 : wr.cell? ⟨gb211, 2, none⟩ = some (.int .i64 x212002_1) := (blk_cell BK211.out 2).trans rfl
     have hcz46_3 : wr.cell? ⟨gb211, 3, none⟩ = some (.int .i64 x212003_1) := (blk_cell BK211.out 3).trans rfl
     have hcz46_4 : wr.cell? ⟨gb211, 4, none⟩ = some (.int .i64 x212004_1) := (blk_cell BK211.out 4).trans rfl
     have hcz46_5 : wr.cell? ⟨gb211, 5, none⟩ = some (.int .i64 x212005_1) := (blk_cell BK211.out 5).trans rfl
     have hcz46_6 : wr.cell? ⟨gb211, 6, none⟩ = some (.int .i64 x212006_1) := (blk_cell BK211.out 6).trans rfl
     have hfz46_0 := blk_frozen BK211.out 0
     have hfz46_1 := blk_frozen BK211.out 1
     have hfz46_2 := blk_frozen BK211.out 2
     have hfz46_3 := blk_frozen BK211.out 3
     have hfz46_4 := blk_frozen BK211.out 4
     have hfz46_5 := blk_frozen BK211.out 5
     have hfz46_6 := blk_frozen BK211.out 6
     go_wp2
     refine bodyPost_ret (results_ct rfl _ _ gb211 30 #[.int .i64 x213000_1, .int .i64 x213001_1, .int .i64 x213002_1, .int .i64 x213003_1, .int .i64 x213004_1, .int .i64 x213005_1, .int .i64 x213006_1] (0, 0) _ rfl (by refine pk ?_; refine blk_put (cs := #[.int .i64 x213000_1, .int .i64 x213001_1, .int .i64 x213002_1, .int .i64 x213003_1, .int .i64 x213004_1, .int .i64 x213005_1, .int .i64 x212006_1]) ?_ 6 _ rfl; refine pk ?_; refine blk_put (cs := #[.int .i64 x213000_1, .int .i64 x213001_1, .int .i64 x213002_1, .int .i64 x213003_1, .int .i64 x213004_1, .int .i64 x212005_1, .int .i64 x212006_1]) ?_ 5 _ rfl; refine pk ?_; refine blk_put (cs := #[.int .i64 x213000_1, .int .i64 x213001_1, .int .i64 x213002_1, .int .i64 x213003_1, .int .i64 x212004_1, .int .i64 x212005_1, .int .i64 x212006_1]) ?_ 4 _ rfl; refine pk ?_; refine blk_put (cs := #[.int .i64 x213000_1, .int .i64 x213001_1, .int .i64 x213002_1, .int .i64 x212003_1, .int .i64 x212004_1, .int .i64 x212005_1, .int .i64 x212006_1]) ?_ 3 _ rfl; refine pk ?_; refine blk_put (cs := #[.int .i64 x213000_1, .int .i64 x213001_1, .int .i64 x212002_1, .int .i64 x212003_1, .int .i64 x212004_1, .int .i64 x212005_1, .int .i64 x212006_1]) ?_ 2 _ rfl; refine pk ?_; refine blk_put (cs := #[.int .i64 x213000_1, .int .i64 x212001_1, .int .i64 x212002_1, .int .i64 x212003_1, .int .i64 x212004_1, .int .i64 x212005_1, .int .i64 x212006_1]) ?_ 1 _ rfl; refine pk ?_; refine blk_put (cs := #[.int .i64 x212000_1, .int .i64 x212001_1, .int .i64 x212002_1, .int .i64 x212003_1, .int .i64 x212004_1, .int .i64 x212005_1, .int .i64 x212006_1]) ?_ 0 _ rfl; refine pk ?_; exact BK211.out) Try.underlying30 rfl (by kernel_rfl)) rfl ?_
     exact ⟨by first | rfl | (simp [errW_none, errW_some] <;> rfl) | (simp [*, errW_none, errW_some] <;> rfl), by repeat first | (with_reducible first | exact HB.out | refine bz ?_ (by assumption) | apply bA | apply bN | apply bD) | exact HB.out⟩

end Go.Proofs.Ytineniimpdjpnaa.PFnGains
