-- Written by a program of this session out of the loaded functions' print; helper lemmas as print.sh lays them.
import Derived.Test.YtgkjnocjdonjdaaUp2
import Derived.Test.YtgkjnocjdonjdaaUp
import Derived.Test.YtgkjnocjdonjdaaRFnCountsx0
import Derived.Test.YtgkjnocjdonjdaaRFnCountsx1
import Derived.Test.YtgkjnocjdonjdaaRFnCountsx2
namespace Go.Proofs.Ytgkjnocjdonjdaa.PFnCounts
open Go.RowKit Go.Proofs.YtgkjnocjdonjdaaW.PrintWords Go.Proofs.YtgkjnocjdonjdaaW.PrintLast Go.Proofs.YtgkjnocjdonjdaaW.PrintMore
attribute [local go_sem] max2_int min2_int max_two min_two max_three min_three max_four min_four  -- for this text's walks alone
theorem ev_tmp_3 {a : Act} {i : Nat} {v : Value} (h : a.tmps[i]? = some v) : a.eval (.tmp i) = v := by show a.tmps.getD i undef = v; rw [Array.getD_eq_getD_getElem?, h]; rfl
set_option linter.unusedVariables false
set_option linter.unusedSimpArgs false

/-! ### spec_AddRay: function 12 -/
mutual
def spec_AddRay.j0 : Nat → Int → Int → Int → Int → Bool → Bool → Int → List Int → List Int → Option (Int × List Int × List Int × Bool)
 | 0, _, _, _, _, _, _, _, _, _ => none
 | k + 1, x1, x2, x3, x4, x5, x43, x120000, x120001, x120002 => if x43 = true then (some (0, ([] : List Int), ([] : List Int), false)) else ((some (([] : List Int) : List Int)).bind fun y124 => (if y124.length + x120001.length < 17592186044416 then ((some (([] : List Int) : List Int)).bind fun y130 => (if y130.length + x120002.length < 17592186044416 then ((spec_LineCells.f k x1 x2 x3 x4).bind fun t137 => (spec_AddRay.l0 k x5 t137 t137 (t137.length : Int) 0 x120000 x120001 x120002 x120000 (y124 ++ x120001) (y130 ++ x120002))) else (none))) else (none)))
def spec_AddRay.l0 : Nat → Bool → List (List Int) → List (List Int) → Int → Int → Int → List Int → List Int → Int → List Int → List Int → Option (Int × List Int × List Int × Bool)
 | 0, _, _, _, _, _, _, _, _, _, _, _ => none
 | k + 1, x5, x15, x61, x62, x63, x120000, x120001, x120002, x137000, x137001, x137002 => if x63 < x62 then (if 0 ≤ x63 then (if x63 < (x61.length : Int) then (if 1 < ((rd_L1 x61 x63).length : Int) then (if 0 < ((rd_L1 x61 x63).length : Int) then (if x63 = (wrap64 ((x15.length : Int) - 1)) then (if x5 = true then (if 0 ≤ (wrap64 ((wrap64 ((rd (rd_L1 x61 x63) 1) * x120000)) + (rd (rd_L1 x61 x63) 0))) then (if (wrap64 ((wrap64 ((rd (rd_L1 x61 x63) 1) * x120000)) + (rd (rd_L1 x61 x63) 0))) < (x137001.length : Int) then (spec_AddRay.l0 k x5 x15 x61 x62 (wrap64 (x63 + 1)) x120000 x120001 x120002 x137000 (x137001.set ((wrap64 ((wrap64 ((rd (rd_L1 x61 x63) 1) * x120000)) + (rd (rd_L1 x61 x63) 0))) : Int).toNat (wrap64 ((rd x137001 (wrap64 ((wrap64 ((rd (rd_L1 x61 x63) 1) * x120000)) + (rd (rd_L1 x61 x63) 0)))) + 1))) x137002) else (none)) else (none)) else (if 0 ≤ (wrap64 ((wrap64 ((rd (rd_L1 x61 x63) 1) * x120000)) + (rd (rd_L1 x61 x63) 0))) then (if (wrap64 ((wrap64 ((rd (rd_L1 x61 x63) 1) * x120000)) + (rd (rd_L1 x61 x63) 0))) < (x137002.length : Int) then (spec_AddRay.l0 k x5 x15 x61 x62 (wrap64 (x63 + 1)) x120000 x120001 x120002 x137000 x137001 (x137002.set ((wrap64 ((wrap64 ((rd (rd_L1 x61 x63) 1) * x120000)) + (rd (rd_L1 x61 x63) 0))) : Int).toNat (wrap64 ((rd x137002 (wrap64 ((wrap64 ((rd (rd_L1 x61 x63) 1) * x120000)) + (rd (rd_L1 x61 x63) 0)))) + 1)))) else (none)) else (none))) else (if 0 ≤ (wrap64 ((wrap64 ((rd (rd_L1 x61 x63) 1) * x120000)) + (rd (rd_L1 x61 x63) 0))) then (if (wrap64 ((wrap64 ((rd (rd_L1 x61 x63) 1) * x120000)) + (rd (rd_L1 x61 x63) 0))) < (x137002.length : Int) then (spec_AddRay.l0 k x5 x15 x61 x62 (wrap64 (x63 + 1)) x120000 x120001 x120002 x137000 x137001 (x137002.set ((wrap64 ((wrap64 ((rd (rd_L1 x61 x63) 1) * x120000)) + (rd (rd_L1 x61 x63) 0))) : Int).toNat (wrap64 ((rd x137002 (wrap64 ((wrap64 ((rd (rd_L1 x61 x63) 1) * x120000)) + (rd (rd_L1 x61 x63) 0)))) + 1)))) else (none)) else (none))) else (none)) else (none)) else (none)) else (none)) else ((spec_GoodCounts.f k x137000 x137001 x137002).bind fun t149 => (if t149 = true then (some (x137000, x137001, x137002, true)) else (some (0, ([] : List Int), ([] : List Int), false))))
end
def spec_AddRay.f (k : Nat) (a0_0 : Int) (l0_1 : List Int) (l0_2 : List Int) (a1 : Int) (a2 : Int) (a3 : Int) (a4 : Int) (a5 : Bool) : Option (Int × List Int × List Int × Bool) := (spec_GoodCounts.f k a0_0 l0_1 l0_2).bind fun t121 => (if t121 = true then ((spec_l12Has.f a0_0 (l0_1.length : Int) a1 a2).bind fun t122 => (if t122 = true then ((spec_l12Has.f a0_0 (l0_1.length : Int) a3 a4).bind fun t123 => (spec_AddRay.j0 k a1 a2 a3 a4 a5 (!t123) a0_0 l0_1 l0_2)) else (spec_AddRay.j0 k a1 a2 a3 a4 a5 true a0_0 l0_1 l0_2))) else (spec_AddRay.j0 k a1 a2 a3 a4 a5 true a0_0 l0_1 l0_2))
theorem spec_AddRay.mono_l : ∀ k, (∀ y0 y1 y2 y3 y4 y5 y6 y7 y8, LeO (spec_AddRay.j0 k y0 y1 y2 y3 y4 y5 y6 y7 y8) (spec_AddRay.j0 (k + 1) y0 y1 y2 y3 y4 y5 y6 y7 y8)) ∧ (∀ y0 y1 y2 y3 y4 y5 y6 y7 y8 y9 y10, LeO (spec_AddRay.l0 k y0 y1 y2 y3 y4 y5 y6 y7 y8 y9 y10) (spec_AddRay.l0 (k + 1) y0 y1 y2 y3 y4 y5 y6 y7 y8 y9 y10))
 | 0 => ⟨fun _ _ _ _ _ _ _ _ _ r h => by simp [spec_AddRay.j0] at h, fun _ _ _ _ _ _ _ _ _ _ _ r h => by simp [spec_AddRay.l0] at h⟩
 | k + 1 => by
  obtain ⟨ih0, ih1⟩ := spec_AddRay.mono_l k
  refine ⟨?_, ?_⟩
  ·intro y0 y1 y2 y3 y4 y5 y6 y7 y8
   unfold spec_AddRay.j0
   repeat' first
   | (with_reducible exact ih0 _ _ _ _ _ _ _ _ _)
   | (with_reducible exact ih1 _ _ _ _ _ _ _ _ _ _ _)
   | (with_reducible exact spec_GoodCounts.mono _ _ _ _)
   | (with_reducible exact spec_LineCells.mono _ _ _ _ _)
   | (with_reducible exact LeO.refl _)
   | (with_reducible exact LeO.none _)
   | (with_reducible refine LeO.ite ?_ ?_)
   | (with_reducible refine LeO.bind ?_ (fun _ => ?_))
   | exact ih0 _ _ _ _ _ _ _ _ _
   | exact ih1 _ _ _ _ _ _ _ _ _ _ _
   | exact spec_GoodCounts.mono _ _ _ _
   | exact spec_LineCells.mono _ _ _ _ _
   | exact LeO.none _
   | refine LeO.ite ?_ ?_
   | refine LeO.bind ?_ (fun _ => ?_)
  ·intro y0 y1 y2 y3 y4 y5 y6 y7 y8 y9 y10
   unfold spec_AddRay.l0
   repeat' first
   | (with_reducible exact ih0 _ _ _ _ _ _ _ _ _)
   | (with_reducible exact ih1 _ _ _ _ _ _ _ _ _ _ _)
   | (with_reducible exact spec_GoodCounts.mono _ _ _ _)
   | (with_reducible exact spec_LineCells.mono _ _ _ _ _)
   | (with_reducible exact LeO.refl _)
   | (with_reducible exact LeO.none _)
   | (with_reducible refine LeO.ite ?_ ?_)
   | (with_reducible refine LeO.bind ?_ (fun _ => ?_))
   | exact ih0 _ _ _ _ _ _ _ _ _
   | exact ih1 _ _ _ _ _ _ _ _ _ _ _
   | exact spec_GoodCounts.mono _ _ _ _
   | exact spec_LineCells.mono _ _ _ _ _
   | exact LeO.none _
   | refine LeO.ite ?_ ?_
   | refine LeO.bind ?_ (fun _ => ?_)
theorem spec_AddRay.mono : ∀ a0 a1 a2 a3 a4 a5 a6 a7 k, LeO (spec_AddRay.f k a0 a1 a2 a3 a4 a5 a6 a7) (spec_AddRay.f (k + 1) a0 a1 a2 a3 a4 a5 a6 a7) := by
 intro a0 a1 a2 a3 a4 a5 a6 a7 k
 obtain ⟨ih0, ih1⟩ := spec_AddRay.mono_l k
 unfold spec_AddRay.f
 repeat' first
   | (with_reducible exact ih0 _ _ _ _ _ _ _ _ _)
   | (with_reducible exact ih1 _ _ _ _ _ _ _ _ _ _ _)
   | (with_reducible exact spec_GoodCounts.mono _ _ _ _)
   | (with_reducible exact spec_LineCells.mono _ _ _ _ _)
   | (with_reducible exact LeO.refl _)
   | (with_reducible exact LeO.none _)
   | (with_reducible refine LeO.ite ?_ ?_)
   | (with_reducible refine LeO.bind ?_ (fun _ => ?_))
   | exact ih0 _ _ _ _ _ _ _ _ _
   | exact ih1 _ _ _ _ _ _ _ _ _ _ _
   | exact spec_GoodCounts.mono _ _ _ _
   | exact spec_LineCells.mono _ _ _ _ _
   | exact LeO.none _
   | refine LeO.ite ?_ ?_
   | refine LeO.bind ?_ (fun _ => ?_)
def spec_AddRay.T3 : Bool × List (List Nat × List Nat) := (true, [([], []), ([0], [0]), ([], []), ([], []), ([3], [3]), ([2, 4], [2, 4]), ([], []), ([], []), ([7], [7]), ([6, 8, 5], [6, 8]), ([1, 5, 9], [1, 5, 9]), ([], []), ([11, 10, 9, 0, 1, 2, 3, 4, 5, 6, 7, 8, 9, 10, 11], [10, 11])])
def spec_AddRay.B3 : List Nat := [0, 1, 0, 0, 8, 28, 0, 0, 128, 508, 1023, 0, 4095]
theorem spec_AddRay.tab3 : rtab .any (opsOf Try.f12 3) = spec_AddRay.T3 := by kernel_rfl
theorem spec_AddRay.bits3 : waitsOk spec_AddRay.T3.2 spec_AddRay.B3 = true := by kernel_rfl
def spec_AddRay.T8 : Bool × List (List Nat × List Nat) := (true, [([], []), ([0], [0]), ([1], [1]), ([], []), ([3], [3]), ([2, 4], [2, 4]), ([], []), ([6], [6]), ([7], [7]), ([5, 8], [5, 8]), ([9, 0, 1, 2, 3, 4, 5, 6, 7, 8, 9], [9])])
def spec_AddRay.B8 : List Nat := [0, 1, 3, 0, 8, 31, 0, 64, 192, 511, 1023]
theorem spec_AddRay.tab8 : rtab .any (opsOf Try.f12 8) = spec_AddRay.T8 := by kernel_rfl
theorem spec_AddRay.bits8 : waitsOk spec_AddRay.T8.2 spec_AddRay.B8 = true := by kernel_rfl
set_option maxHeartbeats 8000000 in
set_option maxRecDepth 100000 in
theorem spec_AddRay.calls (k : Nat) (a0_0 : Int) (A0_1 : Option Addr) (c0_1 : Nat) (l0_1 : List Int) (A0_2 : Option Addr) (c0_2 : Nat) (l0_2 : List Int) (a1 : Int) (a2 : Int) (a3 : Int) (a4 : Int) (a5 : Bool) (r1 : Int) (r2 : List Int) (r3 : List Int) (r4 : Bool) (w : World) (hr0_1 : Kd.C (Kd.int .i64) w A0_1 l0_1.length l0_1) (hc0_1 : l0_1.length ≤ c0_1) (hr0_2 : Kd.C (Kd.int .i64) w A0_2 l0_2.length l0_2) (hc0_2 : l0_2.length ≤ c0_2) (h : spec_AddRay.f k a0_0 l0_1 l0_2 a1 a2 a3 a4 a5 = some (r1, r2, r3, r4)) :
  Calls Try.prog 12 #[.agg #[.int .i64 a0_0, .slice A0_1 l0_1.length c0_1, .slice A0_2 l0_2.length c0_2], .int .i64 a1, .int .i64 a2, .int .i64 a3, .int .i64 a4, .bool a5] w fun e w' => ∃ v1_ v2_ : Value, e = .returned (.tuple #[.agg #[.int .i64 r1, v1_, v2_], .bool r4]) ∧ Kd.R (Kd.int .i64) 3 w' w.heap.size (fun k_ => N_ v2_ k_) v1_ r2 ∧ Kd.R (Kd.int .i64) 3 w' w.heap.size (fun k_ => N_ v1_ k_) v2_ r3 ∧ Below w.heap.size w w' := by
 have hu31 := Try.underlying31
 have HR0_1 := Aside0.mk hr0_1
 have HC0_1 := Aside0.mk hc0_1
 clear hr0_1 hc0_1
 have HR0_2 := Aside0.mk hr0_2
 have HC0_2 := Aside0.mk hc0_2
 clear hr0_2 hc0_2
 have HB := a_ (Below.refl w.heap.size w)
 have H : ((spec_GoodCounts.f k a0_0 l0_1 l0_2).bind fun t121 => (if t121 = true then ((spec_l12Has.f a0_0 (l0_1.length : Int) a1 a2).bind fun t122 => (if t122 = true then ((spec_l12Has.f a0_0 (l0_1.length : Int) a3 a4).bind fun t123 => (spec_AddRay.j0 k a1 a2 a3 a4 a5 (!t123) a0_0 l0_1 l0_2)) else (spec_AddRay.j0 k a1 a2 a3 a4 a5 true a0_0 l0_1 l0_2))) else (spec_AddRay.j0 k a1 a2 a3 a4 a5 true a0_0 l0_1 l0_2))) = some (r1, r2, r3, r4) := h
 clear h
 have HC7 := Aside0.mk H
 clear H
 go_enter Try.func12, Try.ntmps12
 go_upto_region 1 with (first | ((with_reducible refine gate_dst (N := 6) rfl ?_); (try (refine gate_guard (by rfl) ?_; dsimp only)); refine box_event ?hg (N := 6) ?hd (cs := #[.int .i64 a0_0, .slice A0_1 l0_1.length c0_1, .slice A0_2 l0_2.length c0_2]) (t := 31) ?hr ?_; (case hd => rfl); (case hg => rfl); (case hr => first | (go_simp; done) | (go_simp; rfl)); intro gb119 hg w8 hbox hb; have BK119 := a_ (hbox); have GW119 := a_ (bsg hg HB.out); have GE119 := a_ (bsg hg HB.out); replace HB := a_ (below_step (un HB.out) hb); clear hb hbox hg) | ((with_reducible refine gate_dst (N := 12) rfl ?_); (try (refine gate_guard (by rfl) ?_; dsimp only)); refine box_event ?hg (N := 12) ?hd (cs := #[.int .i64 0, .slice none 0 0, .slice none 0 0]) (t := 31) ?hr ?_; (case hd => rfl); (case hg => rfl); (case hr => first | (go_simp; done) | (go_simp; rfl)); intro gb120 hg w9 hbox hb; have BK120 := a_ (hbox); have GW120 := a_ (bsg hg HB.out); have GE120 := a_ (bsg hg HB.out); replace HB := a_ (below_step (by repeat (with_reducible first | exact HB.out | refine bz ?_ (by assumption) | apply bA | apply bN | apply bD)) hb); have NB119_120 := a_ (nel hg BK119.out); have NB120_119 := a_ (nle hg BK119.out); replace BK119 := a_ (blk_below (pk BK119.out) hb); clear hb hbox hg))
 (try simp only [Act.put, sB, sC, sD])
 go_cut [43] (fun v43 wc => ∃ (kq : Nat) (x43_6 : Bool), v43 = .bool x43_6 ∧ Aside0 (spec_AddRay.j0 kq a1 a2 a3 a4 a5 x43_6 a0_0 l0_1 l0_2 = some (r1, r2, r3, r4)) ∧ Aside0 (kq ≤ k) ∧ Aside0 (wc.heap[gb119]? = some (.cells #[.int .i64 a0_0, (.slice A0_1 l0_1.length c0_1), (.slice A0_2 l0_2.length c0_2)] 31 (0, 0))) ∧ Aside0 (wc.heap[gb120]? = some (.cells #[.int .i64 0, (.slice none 0 0), (.slice none 0 0)] 31 (0, 0))) ∧ Aside0 (Below w.heap.size w wc))
 case first =>
  have H := HC7.out
  clear HC7
  replace H := Option.bind_eq_some_iff.mp H
  obtain ⟨t121, A100, H⟩ := H
  replace H : (if t121 = true then ((spec_l12Has.f a0_0 (l0_1.length : Int) a1 a2).bind fun t122 => (if t122 = true then ((spec_l12Has.f a0_0 (l0_1.length : Int) a3 a4).bind fun t123 => (spec_AddRay.j0 k a1 a2 a3 a4 a5 (!t123) a0_0 l0_1 l0_2)) else (spec_AddRay.j0 k a1 a2 a3 a4 a5 true a0_0 l0_1 l0_2))) else (spec_AddRay.j0 k a1 a2 a3 a4 a5 true a0_0 l0_1 l0_2)) = some (r1, r2, r3, r4) := H
  have A10 := Aside0.mk A100
  clear A100
  by_cases c11 : t121 = true
  ·subst c11
   have H1 : ((spec_l12Has.f a0_0 (l0_1.length : Int) a1 a2).bind fun t122 => (if t122 = true then ((spec_l12Has.f a0_0 (l0_1.length : Int) a3 a4).bind fun t123 => (spec_AddRay.j0 k a1 a2 a3 a4 a5 (!t123) a0_0 l0_1 l0_2)) else (spec_AddRay.j0 k a1 a2 a3 a4 a5 true a0_0 l0_1 l0_2))) = some (r1, r2, r3, r4) := by rw [if_pos rfl] at H; exact H
   clear H
   have H := H1
   clear H1
   replace H := Option.bind_eq_some_iff.mp H
   obtain ⟨t122, A120, H⟩ := H
   replace H : (if t122 = true then ((spec_l12Has.f a0_0 (l0_1.length : Int) a3 a4).bind fun t123 => (spec_AddRay.j0 k a1 a2 a3 a4 a5 (!t123) a0_0 l0_1 l0_2)) else (spec_AddRay.j0 k a1 a2 a3 a4 a5 true a0_0 l0_1 l0_2)) = some (r1, r2, r3, r4) := H
   have A12 := Aside0.mk A120
   clear A120
   by_cases c13 : t122 = true
   ·subst c13
    have H1 : ((spec_l12Has.f a0_0 (l0_1.length : Int) a3 a4).bind fun t123 => (spec_AddRay.j0 k a1 a2 a3 a4 a5 (!t123) a0_0 l0_1 l0_2)) = some (r1, r2, r3, r4) := by rw [if_pos rfl] at H; exact H
    clear H
    have H := H1
    clear H1
    replace H := Option.bind_eq_some_iff.mp H
    obtain ⟨t123, A140, H⟩ := H
    replace H : (spec_AddRay.j0 k a1 a2 a3 a4 a5 (!t123) a0_0 l0_1 l0_2) = some (r1, r2, r3, r4) := H
    have A14 := Aside0.mk A140
    clear A140
    have H' := Aside0.mk H
    clear H
    have hnb15 := NB119_120.out
    have hnc15 := NB120_119.out
    have hcz16_0 : _ = some (Value.int .i64 a0_0) := (blk_cell BK119.out 0).trans rfl
    have hcz16_1 : _ = some (Value.slice A0_1 l0_1.length c0_1) := (blk_cell BK119.out 1).trans rfl
    have hcz16_2 : _ = some (Value.slice A0_2 l0_2.length c0_2) := (blk_cell BK119.out 2).trans rfl
    have hfz16_0 := blk_frozen BK119.out 0
    have hfz16_1 := blk_frozen BK119.out 1
    have hfz16_2 := blk_frozen BK119.out 2
    go_wp2_with (first | ((with_reducible refine gate_callee (f := 29) rfl ?_); refine goesL_ (some 20) rfl rfl Try.func29 (by kernel_rfl) rfl #[.agg #[.int .i64 a0_0, .slice A0_1 l0_1.length c0_1, .slice A0_2 l0_2.length c0_2]] rfl (by (try simp only [lA, lB, lC]); first | done | rfl | (simp only [lD, lE]; rfl)) ?_; (with_reducible refine (spec_GoodCounts.calls k a0_0 _ _ l0_1 _ _ l0_2 true _ ?side1 ?side2 ?side3 ?side4 A10.out).mono ?_); (case side1 => exact Kd.C_below HR0_1.out (un HB.out)); (case side2 => exact HC0_1.out); (case side3 => exact Kd.C_below HR0_2.out (un HB.out)); (case side4 => exact HC0_2.out); rintro e w17 ⟨rfl, hb⟩; refine ⟨_, rfl, ?_⟩; replace BK119 := a_ (blk_below (pk BK119.out) hb); replace BK120 := a_ (blk_below (pk BK120.out) hb); replace HB := a_ (below_step (by repeat (with_reducible first | exact HB.out | refine bz ?_ (by assumption) | apply bA | apply bN | apply bD)) hb); clear hb; have hcz18_0 : _ = some (Value.int .i64 a0_0) := (blk_cell BK119.out 0).trans rfl; have hcz18_1 : _ = some (Value.slice A0_1 l0_1.length c0_1) := (blk_cell BK119.out 1).trans rfl; have hcz18_2 : _ = some (Value.slice A0_2 l0_2.length c0_2) := (blk_cell BK119.out 2).trans rfl; have hfz18_0 := blk_frozen BK119.out 0; have hfz18_1 := blk_frozen BK119.out 1; have hfz18_2 := blk_frozen BK119.out 2) | (go_at_call 30; (with_reducible refine (spec_l12Has.calls a0_0 (l0_1.length : Int) a1 a2 true _ A12.out).mono ?_); rintro e w' ⟨rfl, ⟨nd, rfl⟩⟩) | (go_at_call 30; (with_reducible refine (spec_l12Has.calls a0_0 (l0_1.length : Int) a3 a4 t123 _ A14.out).mono ?_); rintro e w' ⟨rfl, ⟨nd, rfl⟩⟩))
    go_meet
    case rel => exact ⟨_, (!t123), (by first | rfl | (simp; done) | (simp [*]; done)), H', ⟨by first | omega | exact Nat.le_refl _⟩, ⟨pk BK119.out⟩, ⟨pk BK120.out⟩, ⟨by repeat (with_reducible first | exact HB.out | refine bz ?_ (by assumption) | apply bA | apply bN | apply bD)⟩⟩
   ·replace c13 := Bool.eq_false_iff.mpr c13
    subst c13
    have H1 : (spec_AddRay.j0 k a1 a2 a3 a4 a5 true a0_0 l0_1 l0_2) = some (r1, r2, r3, r4) := by rw [if_neg (show ¬ (false = true) by decide)] at H; exact H
    clear H
    have H := H1
    clear H1
    have H' := Aside0.mk H
    clear H
    have hnb19 := NB119_120.out
    have hnc19 := NB120_119.out
    have hcz20_0 : _ = some (Value.int .i64 a0_0) := (blk_cell BK119.out 0).trans rfl
    have hcz20_1 : _ = some (Value.slice A0_1 l0_1.length c0_1) := (blk_cell BK119.out 1).trans rfl
    have hcz20_2 : _ = some (Value.slice A0_2 l0_2.length c0_2) := (blk_cell BK119.out 2).trans rfl
    have hfz20_0 := blk_frozen BK119.out 0
    have hfz20_1 := blk_frozen BK119.out 1
    have hfz20_2 := blk_frozen BK119.out 2
    go_wp2_with (first | ((with_reducible refine gate_callee (f := 29) rfl ?_); refine goesL_ (some 20) rfl rfl Try.func29 (by kernel_rfl) rfl #[.agg #[.int .i64 a0_0, .slice A0_1 l0_1.length c0_1, .slice A0_2 l0_2.length c0_2]] rfl (by (try simp only [lA, lB, lC]); first | done | rfl | (simp only [lD, lE]; rfl)) ?_; (with_reducible refine (spec_GoodCounts.calls k a0_0 _ _ l0_1 _ _ l0_2 true _ ?side1 ?side2 ?side3 ?side4 A10.out).mono ?_); (case side1 => exact Kd.C_below HR0_1.out (un HB.out)); (case side2 => exact HC0_1.out); (case side3 => exact Kd.C_below HR0_2.out (un HB.out)); (case side4 => exact HC0_2.out); rintro e w21 ⟨rfl, hb⟩; refine ⟨_, rfl, ?_⟩; replace BK119 := a_ (blk_below (pk BK119.out) hb); replace BK120 := a_ (blk_below (pk BK120.out) hb); replace HB := a_ (below_step (by repeat (with_reducible first | exact HB.out | refine bz ?_ (by assumption) | apply bA | apply bN | apply bD)) hb); clear hb; have hcz22_0 : _ = some (Value.int .i64 a0_0) := (blk_cell BK119.out 0).trans rfl; have hcz22_1 : _ = some (Value.slice A0_1 l0_1.length c0_1) := (blk_cell BK119.out 1).trans rfl; have hcz22_2 : _ = some (Value.slice A0_2 l0_2.length c0_2) := (blk_cell BK119.out 2).trans rfl; have hfz22_0 := blk_frozen BK119.out 0; have hfz22_1 := blk_frozen BK119.out 1; have hfz22_2 := blk_frozen BK119.out 2) | (go_at_call 30; (with_reducible refine (spec_l12Has.calls a0_0 (l0_1.length : Int) a1 a2 false _ A12.out).mono ?_); rintro e w' ⟨rfl, ⟨nd, rfl⟩⟩))
    go_meet
    case rel => exact ⟨_, (true), (by first | rfl | (simp; done) | (simp [*]; done)), H', ⟨by first | omega | exact Nat.le_refl _⟩, ⟨pk BK119.out⟩, ⟨pk BK120.out⟩, ⟨by repeat (with_reducible first | exact HB.out | refine bz ?_ (by assumption) | apply bA | apply bN | apply bD)⟩⟩
  ·replace c11 := Bool.eq_false_iff.mpr c11
   subst c11
   have H1 : (spec_AddRay.j0 k a1 a2 a3 a4 a5 true a0_0 l0_1 l0_2) = some (r1, r2, r3, r4) := by rw [if_neg (show ¬ (false = true) by decide)] at H; exact H
   clear H
   have H := H1
   clear H1
   have H' := Aside0.mk H
   clear H
   have hnb23 := NB119_120.out
   have hnc23 := NB120_119.out
   have hcz24_0 : _ = some (Value.int .i64 a0_0) := (blk_cell BK119.out 0).trans rfl
   have hcz24_1 : _ = some (Value.slice A0_1 l0_1.length c0_1) := (blk_cell BK119.out 1).trans rfl
   have hcz24_2 : _ = some (Value.slice A0_2 l0_2.length c0_2) := (blk_cell BK119.out 2).trans rfl
   have hfz24_0 := blk_frozen BK119.out 0
   have hfz24_1 := blk_frozen BK119.out 1
   have hfz24_2 := blk_frozen BK119.out 2
   go_wp2_with (first | ((with_reducible refine gate_callee (f := 29) rfl ?_); refine goesL_ (some 20) rfl rfl Try.func29 (by kernel_rfl) rfl #[.agg #[.int .i64 a0_0, .slice A0_1 l0_1.length c0_1, .slice A0_2 l0_2.length c0_2]] rfl (by (try simp only [lA, lB, lC]); first | done | rfl | (simp only [lD, lE]; rfl)) ?_; (with_reducible refine (spec_GoodCounts.calls k a0_0 _ _ l0_1 _ _ l0_2 false _ ?side1 ?side2 ?side3 ?side4 A10.out).mono ?_); (case side1 => exact Kd.C_below HR0_1.out (un HB.out)); (case side2 => exact HC0_1.out); (case side3 => exact Kd.C_below HR0_2.out (un HB.out)); (case side4 => exact HC0_2.out); rintro e w25 ⟨rfl, hb⟩; refine ⟨_, rfl, ?_⟩; replace BK119 := a_ (blk_below (pk BK119.out) hb); replace BK120 := a_ (blk_below (pk BK120.out) hb); replace HB := a_ (below_step (by repeat (with_reducible first | exact HB.out | refine bz ?_ (by assumption) | apply bA | apply bN | apply bD)) hb); clear hb))
   go_meet
   case rel => exact ⟨_, (true), (by first | rfl | (simp; done) | (simp [*]; done)), H', ⟨by first | omega | exact Nat.le_refl _⟩, ⟨pk BK119.out⟩, ⟨pk BK120.out⟩, ⟨by repeat (with_reducible first | exact HB.out | refine bz ?_ (by assumption) | apply bA | apply bN | apply bD)⟩⟩
 case rest =>
  clear HC7
  try clear c1; try clear c2; try clear p2; try clear c11; try clear c12; try clear c13; try clear c15; try clear c19; try clear c23; try clear hcz16_0; try clear hcz16_1; try clear hcz16_2; try clear hcz18_0; try clear hcz18_1; try clear hcz18_2; try clear hcz20_0; try clear hcz20_1; try clear hcz20_2; try clear hcz22_0; try clear hcz22_1; try clear hcz22_2; try clear hcz24_0; try clear hcz24_1; try clear hcz24_2; try clear hfz16_0; try clear hfz16_1; try clear hfz16_2; try clear hfz18_0; try clear hfz18_1; try clear hfz18_2; try clear hfz20_0; try clear hfz20_1; try clear hfz20_2; try clear hfz22_0; try clear hfz22_1; try clear hfz22_2; try clear hfz24_0; try clear hfz24_1; try clear hfz24_2
  obtain ⟨kq, x43_6, rfl, HA, HJ6, BK119, BK120, HB⟩ := hcut
  cases kq with
  | zero => exact absurd HA.out (by simp [spec_AddRay.j0])
  | succ kj6 =>
   have H := HA.out
   clear HA
   simp only [spec_AddRay.j0] at H
   by_cases c26 : x43_6 = true
   ·subst c26
    have H1 : (some (0, ([] : List Int), ([] : List Int), false)) = some (r1, r2, r3, r4) := by rw [if_pos rfl] at H; exact H
    clear H
    have H := H1
    clear H1
    simp only [Option.some.injEq, Prod.mk.injEq] at H
    obtain ⟨rfl, rfl, rfl, rfl⟩ := H
    have hnb27 := NB120_119.out
    have hnc27 := NB119_120.out
    have hcz28_0 : wc.cell? ⟨gb120, 0, none⟩ = some (.int .i64 0) := (blk_cell BK120.out 0).trans rfl
    have hcz28_1 : wc.cell? ⟨gb120, 1, none⟩ = some (.slice none 0 0) := (blk_cell BK120.out 1).trans rfl
    have hcz28_2 : wc.cell? ⟨gb120, 2, none⟩ = some (.slice none 0 0) := (blk_cell BK120.out 2).trans rfl
    have hfz28_0 := blk_frozen BK120.out 0
    have hfz28_1 := blk_frozen BK120.out 1
    have hfz28_2 := blk_frozen BK120.out 2
    go_wp2
    refine bodyPost_ret (results_ct rfl _ _ gb120 31 #[.int .i64 0, .slice none 0 0, .slice none 0 0] (0, 0) _ rfl (by refine pk ?_; refine blk_put (cs := #[.int .i64 0, .slice none 0 0, .slice none 0 0]) ?_ 2 _ rfl; refine pk ?_; refine blk_put (cs := #[.int .i64 0, .slice none 0 0, .slice none 0 0]) ?_ 1 _ rfl; refine pk ?_; refine blk_put (cs := #[.int .i64 0, .slice none 0 0, .slice none 0 0]) ?_ 0 _ rfl; refine pk ?_; exact BK120.out) Try.underlying31 rfl (by kernel_rfl)) rfl ?_
    exact ⟨_, _, by first | rfl | (simp [errW_none, errW_some] <;> rfl) | (simp [*, errW_none, errW_some] <;> rfl), by first | exact Kd.R_nil _ _ _ _ _ | exact Kd.N_nil _ _ _ _ _ | exact Kd.V_nil _ _ _ _ _ | exact Kd.Q_nil _ _ _ _ _ | exact Kd.S_nil _ _ _ _ _, by first | exact Kd.R_nil _ _ _ _ _ | exact Kd.N_nil _ _ _ _ _ | exact Kd.V_nil _ _ _ _ _ | exact Kd.Q_nil _ _ _ _ _ | exact Kd.S_nil _ _ _ _ _, by repeat (with_reducible first | exact HB.out | refine bz ?_ (by assumption) | apply bA | apply bN | apply bD)⟩
   ·replace c26 := Bool.eq_false_iff.mpr c26
    subst c26
    have H1 : ((some (([] : List Int) : List Int)).bind fun y124 => (if y124.length + l0_1.length < 17592186044416 then ((some (([] : List Int) : List Int)).bind fun y130 => (if y130.length + l0_2.length < 17592186044416 then ((spec_LineCells.f kj6 a1 a2 a3 a4).bind fun t137 => (spec_AddRay.l0 kj6 a5 t137 t137 (t137.length : Int) 0 a0_0 l0_1 l0_2 a0_0 (y124 ++ l0_1) (y130 ++ l0_2))) else (none))) else (none))) = some (r1, r2, r3, r4) := by rw [if_neg (show ¬ (false = true) by decide)] at H; exact H
    clear H
    have H := H1
    clear H1
    obtain ⟨y124, hy124⟩ : ∃ y_ : List Int, y_ = ([] : List Int) := ⟨_, rfl⟩
    replace H : (if y124.length + l0_1.length < 17592186044416 then ((some (([] : List Int) : List Int)).bind fun y130 => (if y130.length + l0_2.length < 17592186044416 then ((spec_LineCells.f kj6 a1 a2 a3 a4).bind fun t137 => (spec_AddRay.l0 kj6 a5 t137 t137 (t137.length : Int) 0 a0_0 l0_1 l0_2 a0_0 (y124 ++ l0_1) (y130 ++ l0_2))) else (none))) else (none)) = some (r1, r2, r3, r4) := by first | (rw [hy124]; with_reducible exact H) | (have H2_ := (Option.bind_some _ _).symm.trans H; rw [hy124]; with_reducible exact H2_) | (have H2_ := (Option.bind_some _ _).symm.trans H; with_reducible exact H2_) | with_reducible exact H | (rw [hy124]; exact H) | exact H
    have Ny124 := Aside0.mk hy124
    clear hy124
    by_cases c29 : y124.length + l0_1.length < 17592186044416
    ·rw [if_pos c29] at H
     have LMc29 := Aside0.mk c29
     clear c29
     obtain ⟨y127, hy127⟩ : ∃ y_ : List Int, y_ = (y124 ++ l0_1) := ⟨_, rfl⟩
     replace H : ((some (([] : List Int) : List Int)).bind fun y130 => (if y130.length + l0_2.length < 17592186044416 then ((spec_LineCells.f kj6 a1 a2 a3 a4).bind fun t137 => (spec_AddRay.l0 kj6 a5 t137 t137 (t137.length : Int) 0 a0_0 l0_1 l0_2 a0_0 y127 (y130 ++ l0_2))) else (none))) = some (r1, r2, r3, r4) := by first | (rw [hy127]; with_reducible exact H) | (have H2_ := (Option.bind_some _ _).symm.trans H; rw [hy127]; with_reducible exact H2_) | (have H2_ := (Option.bind_some _ _).symm.trans H; with_reducible exact H2_) | with_reducible exact H | (rw [hy127]; exact H) | exact H
     have Ny127 := Aside0.mk hy127
     clear hy127
     obtain ⟨y130, hy130⟩ : ∃ y_ : List Int, y_ = ([] : List Int) := ⟨_, rfl⟩
     replace H : (if y130.length + l0_2.length < 17592186044416 then ((spec_LineCells.f kj6 a1 a2 a3 a4).bind fun t137 => (spec_AddRay.l0 kj6 a5 t137 t137 (t137.length : Int) 0 a0_0 l0_1 l0_2 a0_0 y127 (y130 ++ l0_2))) else (none)) = some (r1, r2, r3, r4) := by first | (rw [hy130]; with_reducible exact H) | (have H2_ := (Option.bind_some _ _).symm.trans H; rw [hy130]; with_reducible exact H2_) | (have H2_ := (Option.bind_some _ _).symm.trans H; with_reducible exact H2_) | with_reducible exact H | (rw [hy130]; exact H) | exact H
     have Ny130 := Aside0.mk hy130
     clear hy130
     by_cases c30 : y130.length + l0_2.length < 17592186044416
     ·rw [if_pos c30] at H
      have LMc30 := Aside0.mk c30
      clear c30
      obtain ⟨y133, hy133⟩ : ∃ y_ : List Int, y_ = (y130 ++ l0_2) := ⟨_, rfl⟩
      replace H : ((spec_LineCells.f kj6 a1 a2 a3 a4).bind fun t137 => (spec_AddRay.l0 kj6 a5 t137 t137 (t137.length : Int) 0 a0_0 l0_1 l0_2 a0_0 y127 y133)) = some (r1, r2, r3, r4) := by first | (rw [hy133]; with_reducible exact H) | (have H2_ := (Option.bind_some _ _).symm.trans H; rw [hy133]; with_reducible exact H2_) | (have H2_ := (Option.bind_some _ _).symm.trans H; with_reducible exact H2_) | with_reducible exact H | (rw [hy133]; exact H) | exact H
      have Ny133 := Aside0.mk hy133
      clear hy133
      replace H := Option.bind_eq_some_iff.mp H
      obtain ⟨t137, A310, H⟩ := H
      replace H : (spec_AddRay.l0 kj6 a5 t137 t137 (t137.length : Int) 0 a0_0 l0_1 l0_2 a0_0 y127 y133) = some (r1, r2, r3, r4) := H
      have A31 := Aside0.mk A310
      clear A310
      have H' := Aside0.mk H
      clear H
      try go_wp2
      replace BK119 := a_ (blk_drew BK119.out)
      replace BK120 := a_ (blk_drew BK120.out)
      replace HB := a_ (below_drew1 HB.out)
      refine start_ (n := 13) (S := fun w' => w'.cell? ⟨gb119, 0, none⟩ = some (.int .i64 a0_0) ∧ w'.cell? ⟨gb119, 1, none⟩ = some (.slice A0_1 l0_1.length c0_1) ∧ w'.cell? ⟨gb119, 2, none⟩ = some (.slice A0_2 l0_2.length c0_2)) (ds := []) #[false, false, false, false, false, false, false, false, false, false, false, false, false] (by kernel_rfl) rfl rfl ⟨(blk_cell BK119.out 0).trans rfl, (blk_cell BK119.out 1).trans rfl, (blk_cell BK119.out 2).trans rfl⟩ (fun hHeld => ?_); refine with_tabW spec_AddRay.tab3 spec_AddRay.bits3 (fun HT_ HW_ => ?_)
      generalize wc.drew = w32 at BK119 BK120 HB hHeld ⊢
      refine pure_ (i := 0) (N := some 45) (v := ?_) (a' := ?_) #[true, false, false, false, false, false, false, false, false, false, false, false, false] rfl rfl (any_of HT_.out (by kernel_rfl)) (fun _ _ _ h => h) (Or.inl ⟨by rfl, ?_⟩) ?_ ?_
      rotate_left
      ·intro w'
       go_simp
       with_reducible rfl
      rotate_left
      ·simp only [Act.put, sB, sC, sD, i64_w, i32_w]
       rfl
      refine pure_ (i := 3) (N := some 48) (v := ?_) (a' := ?_) #[true, false, false, true, false, false, false, false, false, false, false, false, false] rfl rfl (any_of HT_.out (by kernel_rfl)) (fun _ _ _ h => h) (Or.inl ⟨by rfl, ?_⟩) ?_ ?_
      rotate_left
      ·intro w'
       go_simp
       with_reducible rfl
      rotate_left
      ·simp only [Act.put, sB, sC, sD, i64_w, i32_w]
       rfl
      refine pure_ (i := 7) (N := some 52) (v := ?_) (a' := ?_) #[true, false, false, true, false, false, false, true, false, false, false, false, false] rfl rfl (any_of HT_.out (by kernel_rfl)) (fun _ _ _ h => h) (Or.inl ⟨by rfl, ?_⟩) ?_ ?_
      rotate_left
      ·intro w'
       go_simp
       with_reducible rfl
      rotate_left
      ·simp only [Act.put, sB, sC, sD, i64_w, i32_w]
       rfl
      refine take_ (i := 1) (N := some 46) (v := ?_) (a' := ?_) #[true, true, false, true, false, false, false, true, false, false, false, false, false] rfl rfl (take_ofW HT_.out HW_.out (by kernel_rfl)) (fun _ _ _ h => h) (Or.inl ⟨by rfl, ?_⟩) hHeld ?_ ?_
      rotate_left
      ·rintro w' ⟨s0, s1, s2⟩
       go_simp
       with_reducible rfl
      rotate_left
      ·simp only [Act.put, sB, sC, sD, i64_w, i32_w]
       rfl
      refine take_ (i := 4) (N := some 49) (v := ?_) (a' := ?_) #[true, true, false, true, true, false, false, true, false, false, false, false, false] rfl rfl (take_ofW HT_.out HW_.out (by kernel_rfl)) (fun _ _ _ h => h) (Or.inl ⟨by rfl, ?_⟩) hHeld ?_ ?_
      rotate_left
      ·rintro w' ⟨s0, s1, s2⟩
       go_simp
       with_reducible rfl
      rotate_left
      ·simp only [Act.put, sB, sC, sD, i64_w, i32_w]
       rfl
      refine take_ (i := 8) (N := some 53) (v := ?_) (a' := ?_) #[true, true, false, true, true, false, false, true, true, false, false, false, false] rfl rfl (take_ofW HT_.out HW_.out (by kernel_rfl)) (fun _ _ _ h => h) (Or.inl ⟨by rfl, ?_⟩) hHeld ?_ ?_
      rotate_left
      ·rintro w' ⟨s0, s1, s2⟩
       go_simp
       with_reducible rfl
      rotate_left
      ·simp only [Act.put, sB, sC, sD, i64_w, i32_w]
       rfl
      refine join_ (σ := Value × Value × Value × Value × Nat) 1 #[true, true, true, true, true, true, true, true, true, true, true, true, false] (fun s_ => [(47, s_.1), (50, s_.2.1), (51, s_.2.2.1), (54, s_.2.2.2.1), (14, .pointer (some ⟨s_.2.2.2.2, 0, none⟩)), (55, .agg #[.int .i64 a0_0, s_.2.1, s_.2.2.2.1])]) (fun s_ w' => (w'.cell? ⟨gb119, 0, none⟩ = some (.int .i64 a0_0) ∧ w'.cell? ⟨gb119, 1, none⟩ = some (.slice A0_1 l0_1.length c0_1) ∧ w'.cell? ⟨gb119, 2, none⟩ = some (.slice A0_2 l0_2.length c0_2)) ∧ (Kd.R (Kd.int .i64) 3 w' w.heap.size (fun k_ => some k_ ≠ (s_.2.2.2.1 : Value).ownBlock) s_.2.1 y127) ∧ (Kd.R (Kd.int .i64) 3 w' w.heap.size (fun k_ => some k_ ≠ (s_.2.1 : Value).ownBlock) s_.2.2.2.1 y133) ∧ (w'.heap[gb119]? = some (.cells #[.int .i64 a0_0, .slice A0_1 l0_1.length c0_1, .slice A0_2 l0_2.length c0_2] 31 (0, 0))) ∧ (w'.heap[gb120]? = some (.cells #[.int .i64 0, .slice none 0 0, .slice none 0 0] 31 (0, 0))) ∧ (w'.heap[s_.2.2.2.2]? = some (.cells #[.int .i64 0, .slice none 0 0, .slice none 0 0] 31 (0, 0))) ∧ (w.heap.size ≤ s_.2.2.2.2) ∧ (w.heap.size ≤ s_.2.2.2.2) ∧ (gb119 ≠ s_.2.2.2.2) ∧ (s_.2.2.2.2 ≠ gb119) ∧ (gb120 ≠ s_.2.2.2.2) ∧ (s_.2.2.2.2 ≠ gb120) ∧ (Below w.heap.size w w')) ?_ ?_
      rotate_left
      ·intro hJ2_5_6_9_11
       refine join_ (σ := Value × Value × Value × Value) 2 #[true, true, true, true, true, true, true, true, true, true, true, false, false] (fun s_ => [(47, s_.1), (50, s_.2.1), (51, s_.2.2.1), (54, s_.2.2.2), (55, .agg #[.int .i64 a0_0, s_.2.1, s_.2.2.2])]) (fun s_ w' => (w'.cell? ⟨gb119, 0, none⟩ = some (.int .i64 a0_0) ∧ w'.cell? ⟨gb119, 1, none⟩ = some (.slice A0_1 l0_1.length c0_1) ∧ w'.cell? ⟨gb119, 2, none⟩ = some (.slice A0_2 l0_2.length c0_2)) ∧ (Kd.R (Kd.int .i64) 3 w' w.heap.size (fun k_ => some k_ ≠ (s_.2.2.2 : Value).ownBlock) s_.2.1 y127) ∧ (Kd.R (Kd.int .i64) 3 w' w.heap.size (fun k_ => some k_ ≠ (s_.2.1 : Value).ownBlock) s_.2.2.2 y133) ∧ (w'.heap[gb119]? = some (.cells #[.int .i64 a0_0, .slice A0_1 l0_1.length c0_1, .slice A0_2 l0_2.length c0_2] 31 (0, 0))) ∧ (w'.heap[gb120]? = some (.cells #[.int .i64 0, .slice none 0 0, .slice none 0 0] 31 (0, 0))) ∧ (Below w.heap.size w w')) ?_ ?_
       rotate_left
       ·intro hJ2_5_6_9
        refine join_ (σ := Value × Value × Value × Nat) 3 #[true, true, true, true, true, true, true, true, true, false, false, true, false] (fun s_ => [(47, s_.1), (50, s_.2.1), (51, s_.2.2.1), (14, .pointer (some ⟨s_.2.2.2, 0, none⟩))]) (fun s_ w' => (w'.cell? ⟨gb119, 0, none⟩ = some (.int .i64 a0_0) ∧ w'.cell? ⟨gb119, 1, none⟩ = some (.slice A0_1 l0_1.length c0_1) ∧ w'.cell? ⟨gb119, 2, none⟩ = some (.slice A0_2 l0_2.length c0_2)) ∧ (Kd.R (Kd.int .i64) 3 w' w.heap.size (fun k_ => some k_ ≠ (s_.2.2.1 : Value).ownBlock) s_.2.1 y127) ∧ (Kd.R (Kd.int .i64) 3 w' w.heap.size (fun k_ => some k_ ≠ (s_.2.1 : Value).ownBlock) s_.2.2.1 y130) ∧ (w'.heap[gb119]? = some (.cells #[.int .i64 a0_0, .slice A0_1 l0_1.length c0_1, .slice A0_2 l0_2.length c0_2] 31 (0, 0))) ∧ (w'.heap[gb120]? = some (.cells #[.int .i64 0, .slice none 0 0, .slice none 0 0] 31 (0, 0))) ∧ (w'.heap[s_.2.2.2]? = some (.cells #[.int .i64 0, .slice none 0 0, .slice none 0 0] 31 (0, 0))) ∧ (w.heap.size ≤ s_.2.2.2) ∧ (w.heap.size ≤ s_.2.2.2) ∧ (gb119 ≠ s_.2.2.2) ∧ (s_.2.2.2 ≠ gb119) ∧ (gb120 ≠ s_.2.2.2) ∧ (s_.2.2.2 ≠ gb120) ∧ (Below w.heap.size w w')) ?_ ?_
        rotate_left
        ·intro hJ2_5_6_11
         refine join_ (σ := Value × Value × Value) 4 #[true, true, true, true, true, true, true, true, true, false, false, false, false] (fun s_ => [(47, s_.1), (50, s_.2.1), (51, s_.2.2)]) (fun s_ w' => (w'.cell? ⟨gb119, 0, none⟩ = some (.int .i64 a0_0) ∧ w'.cell? ⟨gb119, 1, none⟩ = some (.slice A0_1 l0_1.length c0_1) ∧ w'.cell? ⟨gb119, 2, none⟩ = some (.slice A0_2 l0_2.length c0_2)) ∧ (Kd.R (Kd.int .i64) 3 w' w.heap.size (fun k_ => some k_ ≠ (s_.2.2 : Value).ownBlock) s_.2.1 y127) ∧ (Kd.R (Kd.int .i64) 3 w' w.heap.size (fun k_ => some k_ ≠ (s_.2.1 : Value).ownBlock) s_.2.2 y130) ∧ (w'.heap[gb119]? = some (.cells #[.int .i64 a0_0, .slice A0_1 l0_1.length c0_1, .slice A0_2 l0_2.length c0_2] 31 (0, 0))) ∧ (w'.heap[gb120]? = some (.cells #[.int .i64 0, .slice none 0 0, .slice none 0 0] 31 (0, 0))) ∧ (Below w.heap.size w w')) ?_ ?_
         rotate_left
         ·intro hJ2_5_6
          refine join_ (σ := Value × Value × Nat) 4 #[true, true, true, true, true, true, false, true, true, false, false, true, false] (fun s_ => [(47, s_.1), (50, s_.2.1), (14, .pointer (some ⟨s_.2.2, 0, none⟩))]) (fun s_ w' => (w'.cell? ⟨gb119, 0, none⟩ = some (.int .i64 a0_0) ∧ w'.cell? ⟨gb119, 1, none⟩ = some (.slice A0_1 l0_1.length c0_1) ∧ w'.cell? ⟨gb119, 2, none⟩ = some (.slice A0_2 l0_2.length c0_2)) ∧ (Kd.R (Kd.int .i64) 3 w' w.heap.size (fun _ => True) s_.2.1 y127) ∧ (w'.heap[gb119]? = some (.cells #[.int .i64 a0_0, .slice A0_1 l0_1.length c0_1, .slice A0_2 l0_2.length c0_2] 31 (0, 0))) ∧ (w'.heap[gb120]? = some (.cells #[.int .i64 0, .slice none 0 0, .slice none 0 0] 31 (0, 0))) ∧ (w'.heap[s_.2.2]? = some (.cells #[.int .i64 0, .slice none 0 0, .slice none 0 0] 31 (0, 0))) ∧ (w.heap.size ≤ s_.2.2) ∧ (w.heap.size ≤ s_.2.2) ∧ (gb119 ≠ s_.2.2) ∧ (s_.2.2 ≠ gb119) ∧ (gb120 ≠ s_.2.2) ∧ (s_.2.2 ≠ gb120) ∧ (Below w.heap.size w w')) ?_ ?_
          rotate_left
          ·intro hJ2_5_11
           refine join_ (σ := Value × Value × Nat) 4 #[true, true, true, true, true, false, true, true, true, false, false, true, false] (fun s_ => [(47, s_.1), (51, s_.2.1), (14, .pointer (some ⟨s_.2.2, 0, none⟩))]) (fun s_ w' => (w'.cell? ⟨gb119, 0, none⟩ = some (.int .i64 a0_0) ∧ w'.cell? ⟨gb119, 1, none⟩ = some (.slice A0_1 l0_1.length c0_1) ∧ w'.cell? ⟨gb119, 2, none⟩ = some (.slice A0_2 l0_2.length c0_2)) ∧ (Kd.R (Kd.int .i64) 3 w' w.heap.size (fun k_ => some k_ ≠ (s_.2.1 : Value).ownBlock) s_.1 y124) ∧ (Kd.R (Kd.int .i64) 3 w' w.heap.size (fun k_ => some k_ ≠ (s_.1 : Value).ownBlock) s_.2.1 y130) ∧ (w'.heap[gb119]? = some (.cells #[.int .i64 a0_0, .slice A0_1 l0_1.length c0_1, .slice A0_2 l0_2.length c0_2] 31 (0, 0))) ∧ (w'.heap[gb120]? = some (.cells #[.int .i64 0, .slice none 0 0, .slice none 0 0] 31 (0, 0))) ∧ (w'.heap[s_.2.2]? = some (.cells #[.int .i64 0, .slice none 0 0, .slice none 0 0] 31 (0, 0))) ∧ (w.heap.size ≤ s_.2.2) ∧ (w.heap.size ≤ s_.2.2) ∧ (gb119 ≠ s_.2.2) ∧ (s_.2.2 ≠ gb119) ∧ (gb120 ≠ s_.2.2) ∧ (s_.2.2 ≠ gb120) ∧ (Below w.heap.size w w')) ?_ ?_
           rotate_left
           ·intro hJ2_6_11
            refine join_ (σ := Value × Value) 5 #[true, true, true, true, true, true, false, true, true, false, false, false, false] (fun s_ => [(47, s_.1), (50, s_.2)]) (fun s_ w' => (w'.cell? ⟨gb119, 0, none⟩ = some (.int .i64 a0_0) ∧ w'.cell? ⟨gb119, 1, none⟩ = some (.slice A0_1 l0_1.length c0_1) ∧ w'.cell? ⟨gb119, 2, none⟩ = some (.slice A0_2 l0_2.length c0_2)) ∧ (Kd.R (Kd.int .i64) 3 w' w.heap.size (fun _ => True) s_.2 y127) ∧ (w'.heap[gb119]? = some (.cells #[.int .i64 a0_0, .slice A0_1 l0_1.length c0_1, .slice A0_2 l0_2.length c0_2] 31 (0, 0))) ∧ (w'.heap[gb120]? = some (.cells #[.int .i64 0, .slice none 0 0, .slice none 0 0] 31 (0, 0))) ∧ (Below w.heap.size w w')) ?_ ?_
            rotate_left
            ·intro hJ2_5
             refine join_ (σ := Value × Value) 5 #[true, true, true, true, true, false, true, true, true, false, false, false, false] (fun s_ => [(47, s_.1), (51, s_.2)]) (fun s_ w' => (w'.cell? ⟨gb119, 0, none⟩ = some (.int .i64 a0_0) ∧ w'.cell? ⟨gb119, 1, none⟩ = some (.slice A0_1 l0_1.length c0_1) ∧ w'.cell? ⟨gb119, 2, none⟩ = some (.slice A0_2 l0_2.length c0_2)) ∧ (Kd.R (Kd.int .i64) 3 w' w.heap.size (fun k_ => some k_ ≠ (s_.2 : Value).ownBlock) s_.1 y124) ∧ (Kd.R (Kd.int .i64) 3 w' w.heap.size (fun k_ => some k_ ≠ (s_.1 : Value).ownBlock) s_.2 y130) ∧ (w'.heap[gb119]? = some (.cells #[.int .i64 a0_0, .slice A0_1 l0_1.length c0_1, .slice A0_2 l0_2.length c0_2] 31 (0, 0))) ∧ (w'.heap[gb120]? = some (.cells #[.int .i64 0, .slice none 0 0, .slice none 0 0] 31 (0, 0))) ∧ (Below w.heap.size w w')) ?_ ?_
             rotate_left
             ·intro hJ2_6
              refine join_ (σ := Value × Nat) 5 #[true, true, true, true, true, false, false, true, true, false, false, true, false] (fun s_ => [(47, s_.1), (14, .pointer (some ⟨s_.2, 0, none⟩))]) (fun s_ w' => (w'.cell? ⟨gb119, 0, none⟩ = some (.int .i64 a0_0) ∧ w'.cell? ⟨gb119, 1, none⟩ = some (.slice A0_1 l0_1.length c0_1) ∧ w'.cell? ⟨gb119, 2, none⟩ = some (.slice A0_2 l0_2.length c0_2)) ∧ (Kd.R (Kd.int .i64) 3 w' w.heap.size (fun _ => True) s_.1 y124) ∧ (w'.heap[gb119]? = some (.cells #[.int .i64 a0_0, .slice A0_1 l0_1.length c0_1, .slice A0_2 l0_2.length c0_2] 31 (0, 0))) ∧ (w'.heap[gb120]? = some (.cells #[.int .i64 0, .slice none 0 0, .slice none 0 0] 31 (0, 0))) ∧ (w'.heap[s_.2]? = some (.cells #[.int .i64 0, .slice none 0 0, .slice none 0 0] 31 (0, 0))) ∧ (w.heap.size ≤ s_.2) ∧ (w.heap.size ≤ s_.2) ∧ (gb119 ≠ s_.2) ∧ (s_.2 ≠ gb119) ∧ (gb120 ≠ s_.2) ∧ (s_.2 ≠ gb120) ∧ (Below w.heap.size w w')) ?_ ?_
              rotate_left
              ·intro hJ2_11
               refine join_ (σ := Value × Nat) 5 #[true, true, false, true, true, false, true, true, true, false, false, true, false] (fun s_ => [(51, s_.1), (14, .pointer (some ⟨s_.2, 0, none⟩))]) (fun s_ w' => (w'.cell? ⟨gb119, 0, none⟩ = some (.int .i64 a0_0) ∧ w'.cell? ⟨gb119, 1, none⟩ = some (.slice A0_1 l0_1.length c0_1) ∧ w'.cell? ⟨gb119, 2, none⟩ = some (.slice A0_2 l0_2.length c0_2)) ∧ (Kd.R (Kd.int .i64) 3 w' w.heap.size (fun _ => True) s_.1 y130) ∧ (w'.heap[gb119]? = some (.cells #[.int .i64 a0_0, .slice A0_1 l0_1.length c0_1, .slice A0_2 l0_2.length c0_2] 31 (0, 0))) ∧ (w'.heap[gb120]? = some (.cells #[.int .i64 0, .slice none 0 0, .slice none 0 0] 31 (0, 0))) ∧ (w'.heap[s_.2]? = some (.cells #[.int .i64 0, .slice none 0 0, .slice none 0 0] 31 (0, 0))) ∧ (w.heap.size ≤ s_.2) ∧ (w.heap.size ≤ s_.2) ∧ (gb119 ≠ s_.2) ∧ (s_.2 ≠ gb119) ∧ (gb120 ≠ s_.2) ∧ (s_.2 ≠ gb120) ∧ (Below w.heap.size w w')) ?_ ?_
               rotate_left
               ·intro hJ6_11
                refine join_ (σ := Value) 6 #[true, true, true, true, true, false, false, true, true, false, false, false, false] (fun s_ => [(47, s_)]) (fun s_ w' => (w'.cell? ⟨gb119, 0, none⟩ = some (.int .i64 a0_0) ∧ w'.cell? ⟨gb119, 1, none⟩ = some (.slice A0_1 l0_1.length c0_1) ∧ w'.cell? ⟨gb119, 2, none⟩ = some (.slice A0_2 l0_2.length c0_2)) ∧ (Kd.R (Kd.int .i64) 3 w' w.heap.size (fun _ => True) s_ y124) ∧ (w'.heap[gb119]? = some (.cells #[.int .i64 a0_0, .slice A0_1 l0_1.length c0_1, .slice A0_2 l0_2.length c0_2] 31 (0, 0))) ∧ (w'.heap[gb120]? = some (.cells #[.int .i64 0, .slice none 0 0, .slice none 0 0] 31 (0, 0))) ∧ (Below w.heap.size w w')) ?_ ?_
                rotate_left
                ·intro hJ2
                 refine join_ (σ := Value) 6 #[true, true, false, true, true, false, true, true, true, false, false, false, false] (fun s_ => [(51, s_)]) (fun s_ w' => (w'.cell? ⟨gb119, 0, none⟩ = some (.int .i64 a0_0) ∧ w'.cell? ⟨gb119, 1, none⟩ = some (.slice A0_1 l0_1.length c0_1) ∧ w'.cell? ⟨gb119, 2, none⟩ = some (.slice A0_2 l0_2.length c0_2)) ∧ (Kd.R (Kd.int .i64) 3 w' w.heap.size (fun _ => True) s_ y130) ∧ (w'.heap[gb119]? = some (.cells #[.int .i64 a0_0, .slice A0_1 l0_1.length c0_1, .slice A0_2 l0_2.length c0_2] 31 (0, 0))) ∧ (w'.heap[gb120]? = some (.cells #[.int .i64 0, .slice none 0 0, .slice none 0 0] 31 (0, 0))) ∧ (Below w.heap.size w w')) ?_ ?_
                 rotate_left
                 ·intro hJ6
                  refine join_ (σ := Nat) 6 #[true, true, false, true, true, false, false, true, true, false, false, true, false] (fun s_ => [(14, .pointer (some ⟨s_, 0, none⟩))]) (fun s_ w' => (w'.cell? ⟨gb119, 0, none⟩ = some (.int .i64 a0_0) ∧ w'.cell? ⟨gb119, 1, none⟩ = some (.slice A0_1 l0_1.length c0_1) ∧ w'.cell? ⟨gb119, 2, none⟩ = some (.slice A0_2 l0_2.length c0_2)) ∧ (w'.heap[gb119]? = some (.cells #[.int .i64 a0_0, .slice A0_1 l0_1.length c0_1, .slice A0_2 l0_2.length c0_2] 31 (0, 0))) ∧ (w'.heap[gb120]? = some (.cells #[.int .i64 0, .slice none 0 0, .slice none 0 0] 31 (0, 0))) ∧ (w'.heap[s_]? = some (.cells #[.int .i64 0, .slice none 0 0, .slice none 0 0] 31 (0, 0))) ∧ (w.heap.size ≤ s_) ∧ (w.heap.size ≤ s_) ∧ (gb119 ≠ s_) ∧ (s_ ≠ gb119) ∧ (gb120 ≠ s_) ∧ (s_ ≠ gb120) ∧ (Below w.heap.size w w')) ?_ ?_
                  rotate_left
                  ·intro hJ11
                   refine three_ (i := 2) (j := 6) (k := 11) (Ni := some 47) (Nj := some 51) (Nk := some 14) #[true, true, true, true, true, false, false, true, true, false, false, false, false] #[true, true, false, true, true, false, true, true, true, false, false, false, false] #[true, true, false, true, true, false, false, true, true, false, false, true, false] rfl rfl rfl rfl rfl rfl (three_of HT_.out (by kernel_rfl)) (by decide) (by decide) (by decide) (fun K hK => ?_) (fun K hK => ?_) (fun K hK => ?_)
                   ·skip
                    refine Kd.R_lit_step (Kd.int .i64) _ 3 ?hg (N := 47) ?hd (xs := ([] : List Int)) (inner := []) (ok := fun _ => True) (okp := fun _ => True) ?hr ?hp (fun _ hk => hk) trivial (Below.refl _ _) (Nat.le_refl _) (by simp) ?_; (case hd => rfl); (case hg => rfl); (case hr => first | (go_simp; done) | (go_simp; rfl)); (case hp => exact (Reps.none _ _))
                    intro v125 w33 ho34 hb hg_ hnew_
                    clear hg_ hnew_
                    (first | rw [← Ny124.out] at ho34 | (simp only [Int.reduceToNat] at ho34; rw [← Ny124.out] at ho34))
                    have HO126 := a_ (Kd.R_lower ho34 (bs HB.out))
                    replace BK119 := a_ (blk_below (pk BK119.out) hb)
                    replace BK120 := a_ (blk_below (pk BK120.out) hb)
                    replace HB := a_ (below_step (by repeat (with_reducible first | exact HB.out | refine bz ?_ (by assumption) | apply bA | apply bN | apply bD)) hb)
                    clear hb ho34
                    refine hK.out _ _ ⟨(blk_cell BK119.out 0).trans rfl, (blk_cell BK119.out 1).trans rfl, (blk_cell BK119.out 2).trans rfl⟩ (fun hHeld => ?_)
                    clear hK K
                    refine norm_ (a' := ?_) ?_ ?_
                    rotate_left
                    ·show Act.put _ (some 47) _ = _
                     simp only [Act.put, sB, sC, sD, i64_w, i32_w]
                     rfl
                    exact norm_ (by first | (simp only [putAll, Act.put, sB, sC, sD]; done) | (simp only [putAll, Act.put, sB, sC, sD]; rfl)) (hJ2 (v125) _ ⟨hHeld, (rk HO126.out), (pk BK119.out), (pk BK120.out), (by repeat (with_reducible first | exact HB.out | refine bz ?_ (by assumption) | apply bA | apply bN | apply bD))⟩)
                   ·skip
                    refine Kd.R_lit_step (Kd.int .i64) _ 3 ?hg (N := 51) ?hd (xs := ([] : List Int)) (inner := []) (ok := fun _ => True) (okp := fun _ => True) ?hr ?hp (fun _ hk => hk) trivial (Below.refl _ _) (Nat.le_refl _) (by simp) ?_; (case hd => rfl); (case hg => rfl); (case hr => first | (go_simp; done) | (go_simp; rfl)); (case hp => exact (Reps.none _ _))
                    intro v131 w33 ho34 hb hg_ hnew_
                    clear hg_ hnew_
                    (first | rw [← Ny130.out] at ho34 | (simp only [Int.reduceToNat] at ho34; rw [← Ny130.out] at ho34))
                    have HO132 := a_ (Kd.R_lower ho34 (bs HB.out))
                    replace BK119 := a_ (blk_below (pk BK119.out) hb)
                    replace BK120 := a_ (blk_below (pk BK120.out) hb)
                    replace HB := a_ (below_step (by repeat (with_reducible first | exact HB.out | refine bz ?_ (by assumption) | apply bA | apply bN | apply bD)) hb)
                    clear hb ho34
                    refine hK.out _ _ ⟨(blk_cell BK119.out 0).trans rfl, (blk_cell BK119.out 1).trans rfl, (blk_cell BK119.out 2).trans rfl⟩ (fun hHeld => ?_)
                    clear hK K
                    refine norm_ (a' := ?_) ?_ ?_
                    rotate_left
                    ·show Act.put _ (some 51) _ = _
                     simp only [Act.put, sB, sC, sD, i64_w, i32_w]
                     rfl
                    exact norm_ (by first | (simp only [putAll, Act.put, sB, sC, sD]; done) | (simp only [putAll, Act.put, sB, sC, sD]; rfl)) (hJ6 (v131) _ ⟨hHeld, (rk HO132.out), (pk BK119.out), (pk BK120.out), (by repeat (with_reducible first | exact HB.out | refine bz ?_ (by assumption) | apply bA | apply bN | apply bD))⟩)
                   ·skip
                    refine box_step ?hg (N := 14) ?hd (cs := #[.int .i64 0, .slice none 0 0, .slice none 0 0]) (t := 31) ?hr ?_; (case hd => rfl); (case hg => rfl); (case hr => first | (go_simp; done) | (go_simp; rfl))
                    intro gb136 hg w33 hbox hb
                    have BK136 := a_ (hbox)
                    have GW136 := a_ (bsg hg HB.out)
                    have GE136 := a_ (bsg hg HB.out)
                    replace HB := a_ (below_step (by repeat (with_reducible first | exact HB.out | refine bz ?_ (by assumption) | apply bA | apply bN | apply bD)) hb)
                    have NB119_136 := a_ (nel hg BK119.out)
                    have NB136_119 := a_ (nle hg BK119.out)
                    replace BK119 := a_ (blk_below (pk BK119.out) hb)
                    have NB120_136 := a_ (nel hg BK120.out)
                    have NB136_120 := a_ (nle hg BK120.out)
                    replace BK120 := a_ (blk_below (pk BK120.out) hb)
                    clear hb hbox hg
                    refine hK.out _ _ ⟨(blk_cell BK119.out 0).trans rfl, (blk_cell BK119.out 1).trans rfl, (blk_cell BK119.out 2).trans rfl⟩ (fun hHeld => ?_)
                    clear hK K
                    refine norm_ (a' := ?_) ?_ ?_
                    rotate_left
                    ·show Act.put _ (some 14) _ = _
                     simp only [Act.put, sB, sC, sD, i64_w, i32_w]
                     rfl
                    exact norm_ (by first | (simp only [putAll, Act.put, sB, sC, sD]; done) | (simp only [putAll, Act.put, sB, sC, sD]; rfl)) (hJ11 (gb136) _ ⟨hHeld, (pk BK119.out), (pk BK120.out), (pk BK136.out), GW136.out, GE136.out, NB119_136.out, NB136_119.out, NB120_136.out, NB136_120.out, (by repeat (with_reducible first | exact HB.out | refine bz ?_ (by assumption) | apply bA | apply bN | apply bD))⟩)
                  ·skip
                   rintro gb136 w34 ⟨hS_, h0_, h1_, h2_, h3_, h4_, h5_, h6_, h7_, h8_, h9_⟩
                   have n0_ : Aside0 (w34.heap[gb119]? = some (.cells #[.int .i64 a0_0, .slice A0_1 l0_1.length c0_1, .slice A0_2 l0_2.length c0_2] 31 (0, 0))) := ⟨h0_⟩
                   have n1_ : Aside0 (w34.heap[gb120]? = some (.cells #[.int .i64 0, .slice none 0 0, .slice none 0 0] 31 (0, 0))) := ⟨h1_⟩
                   have n2_ : Aside0 (w34.heap[gb136]? = some (.cells #[.int .i64 0, .slice none 0 0, .slice none 0 0] 31 (0, 0))) := ⟨h2_⟩
                   have n3_ : Aside0 (w.heap.size ≤ gb136) := ⟨h3_⟩
                   have n4_ : Aside0 (w.heap.size ≤ gb136) := ⟨h4_⟩
                   have n5_ : Aside0 (gb119 ≠ gb136) := ⟨h5_⟩
                   have n6_ : Aside0 (gb136 ≠ gb119) := ⟨h6_⟩
                   have n7_ : Aside0 (gb120 ≠ gb136) := ⟨h7_⟩
                   have n8_ : Aside0 (gb136 ≠ gb120) := ⟨h8_⟩
                   have n9_ : Aside0 (Below w.heap.size w w34) := ⟨h9_⟩
                   clear BK119
                   clear BK120
                   clear HB
                   clear h0_ h1_ h2_ h3_ h4_ h5_ h6_ h7_ h8_ h9_
                   have BK119 := n0_
                   have BK120 := n1_
                   have BK136 := n2_
                   have GW136 := n3_
                   have GE136 := n4_
                   have NB119_136 := n5_
                   have NB136_119 := n6_
                   have NB120_136 := n7_
                   have NB136_120 := n8_
                   have HB := n9_
                   clear n0_ n1_ n2_ n3_ n4_ n5_ n6_ n7_ n8_ n9_
                   have hHeld : w34.cell? ⟨gb119, 0, none⟩ = some (.int .i64 a0_0) ∧ w34.cell? ⟨gb119, 1, none⟩ = some (.slice A0_1 l0_1.length c0_1) ∧ w34.cell? ⟨gb119, 2, none⟩ = some (.slice A0_2 l0_2.length c0_2) := hS_
                   refine norm_ (a' := ?_) ?_ ?_
                   rotate_left
                   ·simp only [putAll, Act.put, sB, sC, sD]
                    rfl
                   refine two_ (i := 2) (j := 6) (Ni := some 47) (Nj := some 51) #[true, true, true, true, true, false, false, true, true, false, false, true, false] #[true, true, false, true, true, false, true, true, true, false, false, true, false] rfl rfl rfl rfl (two_of HT_.out (by kernel_rfl)) (by decide) (by decide) (fun K hK => ?_) (fun K hK => ?_)
                   ·skip
                    refine Kd.R_lit_step (Kd.int .i64) _ 3 ?hg (N := 47) ?hd (xs := ([] : List Int)) (inner := []) (ok := fun _ => True) (okp := fun _ => True) ?hr ?hp (fun _ hk => hk) trivial (Below.refl _ _) (Nat.le_refl _) (by simp) ?_; (case hd => rfl); (case hg => rfl); (case hr => first | (go_simp; done) | (go_simp; rfl)); (case hp => exact (Reps.none _ _))
                    intro v125 w35 ho36 hb hg_ hnew_
                    clear hg_ hnew_
                    (first | rw [← Ny124.out] at ho36 | (simp only [Int.reduceToNat] at ho36; rw [← Ny124.out] at ho36))
                    have HO126 := a_ (Kd.R_lower ho36 (bs HB.out))
                    replace BK119 := a_ (blk_below (pk BK119.out) hb)
                    replace BK120 := a_ (blk_below (pk BK120.out) hb)
                    replace BK136 := a_ (blk_below (pk BK136.out) hb)
                    replace HB := a_ (below_step (by repeat (with_reducible first | exact HB.out | refine bz ?_ (by assumption) | apply bA | apply bN | apply bD)) hb)
                    clear hb ho36
                    refine hK.out _ _ ⟨(blk_cell BK119.out 0).trans rfl, (blk_cell BK119.out 1).trans rfl, (blk_cell BK119.out 2).trans rfl⟩ (fun hHeld => ?_)
                    clear hK K
                    refine norm_ (a' := ?_) ?_ ?_
                    rotate_left
                    ·show Act.put _ (some 47) _ = _
                     simp only [Act.put, sB, sC, sD, i64_w, i32_w]
                     rfl
                    exact norm_ (by first | (simp only [putAll, Act.put, sB, sC, sD]; done) | (simp only [putAll, Act.put, sB, sC, sD]; rfl)) (hJ2_11 (v125, gb136) _ ⟨hHeld, (rk HO126.out), (pk BK119.out), (pk BK120.out), (pk BK136.out), GW136.out, GE136.out, NB119_136.out, NB136_119.out, NB120_136.out, NB136_120.out, (by repeat (with_reducible first | exact HB.out | refine bz ?_ (by assumption) | apply bA | apply bN | apply bD))⟩)
                   ·skip
                    refine Kd.R_lit_step (Kd.int .i64) _ 3 ?hg (N := 51) ?hd (xs := ([] : List Int)) (inner := []) (ok := fun _ => True) (okp := fun _ => True) ?hr ?hp (fun _ hk => hk) trivial (Below.refl _ _) (Nat.le_refl _) (by simp) ?_; (case hd => rfl); (case hg => rfl); (case hr => first | (go_simp; done) | (go_simp; rfl)); (case hp => exact (Reps.none _ _))
                    intro v131 w35 ho36 hb hg_ hnew_
                    clear hg_ hnew_
                    (first | rw [← Ny130.out] at ho36 | (simp only [Int.reduceToNat] at ho36; rw [← Ny130.out] at ho36))
                    have HO132 := a_ (Kd.R_lower ho36 (bs HB.out))
                    replace BK119 := a_ (blk_below (pk BK119.out) hb)
                    replace BK120 := a_ (blk_below (pk BK120.out) hb)
                    replace BK136 := a_ (blk_below (pk BK136.out) hb)
                    replace HB := a_ (below_step (by repeat (with_reducible first | exact HB.out | refine bz ?_ (by assumption) | apply bA | apply bN | apply bD)) hb)
                    clear hb ho36
                    refine hK.out _ _ ⟨(blk_cell BK119.out 0).trans rfl, (blk_cell BK119.out 1).trans rfl, (blk_cell BK119.out 2).trans rfl⟩ (fun hHeld => ?_)
                    clear hK K
                    refine norm_ (a' := ?_) ?_ ?_
                    rotate_left
                    ·show Act.put _ (some 51) _ = _
                     simp only [Act.put, sB, sC, sD, i64_w, i32_w]
                     rfl
                    exact norm_ (by first | (simp only [putAll, Act.put, sB, sC, sD]; done) | (simp only [putAll, Act.put, sB, sC, sD]; rfl)) (hJ6_11 (v131, gb136) _ ⟨hHeld, (rk HO132.out), (pk BK119.out), (pk BK120.out), (pk BK136.out), GW136.out, GE136.out, NB119_136.out, NB136_119.out, NB120_136.out, NB136_120.out, (by repeat (with_reducible first | exact HB.out | refine bz ?_ (by assumption) | apply bA | apply bN | apply bD))⟩)
                 ·skip
                  rintro v131 w35 ⟨hS_, h0_, h1_, h2_, h3_⟩
                  have n0_ : Aside0 (Kd.R (Kd.int .i64) 3 w35 w.heap.size (fun _ => True) v131 y130) := ⟨h0_⟩
                  have n1_ : Aside0 (w35.heap[gb119]? = some (.cells #[.int .i64 a0_0, .slice A0_1 l0_1.length c0_1, .slice A0_2 l0_2.length c0_2] 31 (0, 0))) := ⟨h1_⟩
                  have n2_ : Aside0 (w35.heap[gb120]? = some (.cells #[.int .i64 0, .slice none 0 0, .slice none 0 0] 31 (0, 0))) := ⟨h2_⟩
                  have n3_ : Aside0 (Below w.heap.size w w35) := ⟨h3_⟩
                  clear BK119
                  clear BK120
                  clear HB
                  clear h0_ h1_ h2_ h3_
                  have HO132 := n0_
                  have BK119 := n1_
                  have BK120 := n2_
                  have HB := n3_
                  clear n0_ n1_ n2_ n3_
                  have hHeld : w35.cell? ⟨gb119, 0, none⟩ = some (.int .i64 a0_0) ∧ w35.cell? ⟨gb119, 1, none⟩ = some (.slice A0_1 l0_1.length c0_1) ∧ w35.cell? ⟨gb119, 2, none⟩ = some (.slice A0_2 l0_2.length c0_2) := hS_
                  refine norm_ (a' := ?_) ?_ ?_
                  rotate_left
                  ·simp only [putAll, Act.put, sB, sC, sD]
                   rfl
                  refine two_ (i := 2) (j := 11) (Ni := some 47) (Nj := some 14) #[true, true, true, true, true, false, true, true, true, false, false, false, false] #[true, true, false, true, true, false, true, true, true, false, false, true, false] rfl rfl rfl rfl (two_of HT_.out (by kernel_rfl)) (by decide) (by decide) (fun K hK => ?_) (fun K hK => ?_)
                  ·skip
                   refine Kd.R_lit_step (Kd.int .i64) _ 3 ?hg (N := 47) ?hd (xs := ([] : List Int)) (inner := []) (ok := fun _ => True) (okp := fun _ => True) ?hr ?hp (fun _ hk => hk) trivial (Below.refl _ _) (Nat.le_refl _) (by simp) ?_; (case hd => rfl); (case hg => rfl); (case hr => first | (go_simp; done) | (go_simp; rfl)); (case hp => exact (Reps.none _ _))
                   intro v125 w36 ho37 hb hg_ hnew_
                   clear hg_ hnew_
                   (first | rw [← Ny124.out] at ho37 | (simp only [Int.reduceToNat] at ho37; rw [← Ny124.out] at ho37))
                   have HO126 := a_ (Kd.R_lower (nw ho37 HO132.out) (bs HB.out))
                   replace HO132 := a_ (Kd.R_elder' (rk HO132.out) (Kd.R_base ho37) hb)
                   replace BK119 := a_ (blk_below (pk BK119.out) hb)
                   replace BK120 := a_ (blk_below (pk BK120.out) hb)
                   replace HB := a_ (below_step (by repeat (with_reducible first | exact HB.out | refine bz ?_ (by assumption) | apply bA | apply bN | apply bD)) hb)
                   clear hb ho37
                   refine hK.out _ _ ⟨(blk_cell BK119.out 0).trans rfl, (blk_cell BK119.out 1).trans rfl, (blk_cell BK119.out 2).trans rfl⟩ (fun hHeld => ?_)
                   clear hK K
                   refine norm_ (a' := ?_) ?_ ?_
                   rotate_left
                   ·show Act.put _ (some 47) _ = _
                    simp only [Act.put, sB, sC, sD, i64_w, i32_w]
                    rfl
                   exact norm_ (by first | (simp only [putAll, Act.put, sB, sC, sD]; done) | (simp only [putAll, Act.put, sB, sC, sD]; rfl)) (hJ2_6 (v125, v131) _ ⟨hHeld, (rk (Kd.R_mono HO126.out (fun _ hk => hk.2))), (rk (Kd.R_mono HO132.out (fun _ hk => hk.2))), (pk BK119.out), (pk BK120.out), (by repeat (with_reducible first | exact HB.out | refine bz ?_ (by assumption) | apply bA | apply bN | apply bD))⟩)
                  ·skip
                   refine box_step ?hg (N := 14) ?hd (cs := #[.int .i64 0, .slice none 0 0, .slice none 0 0]) (t := 31) ?hr ?_; (case hd => rfl); (case hg => rfl); (case hr => first | (go_simp; done) | (go_simp; rfl))
                   intro gb136 hg w36 hbox hb
                   replace HO132 := a_ (Kd.R_below (rk HO132.out) hb)
                   have BK136 := a_ (hbox)
                   have GW136 := a_ (bsg hg HB.out)
                   have GE136 := a_ (bsg hg HB.out)
                   replace HB := a_ (below_step (by repeat (with_reducible first | exact HB.out | refine bz ?_ (by assumption) | apply bA | apply bN | apply bD)) hb)
                   have NB119_136 := a_ (nel hg BK119.out)
                   have NB136_119 := a_ (nle hg BK119.out)
                   replace BK119 := a_ (blk_below (pk BK119.out) hb)
                   have NB120_136 := a_ (nel hg BK120.out)
                   have NB136_120 := a_ (nle hg BK120.out)
                   replace BK120 := a_ (blk_below (pk BK120.out) hb)
                   clear hb hbox hg
                   refine hK.out _ _ ⟨(blk_cell BK119.out 0).trans rfl, (blk_cell BK119.out 1).trans rfl, (blk_cell BK119.out 2).trans rfl⟩ (fun hHeld => ?_)
                   clear hK K
                   refine norm_ (a' := ?_) ?_ ?_
                   rotate_left
                   ·show Act.put _ (some 14) _ = _
                    simp only [Act.put, sB, sC, sD, i64_w, i32_w]
                    rfl
                   exact norm_ (by first | (simp only [putAll, Act.put, sB, sC, sD]; done) | (simp only [putAll, Act.put, sB, sC, sD]; rfl)) (hJ6_11 (v131, gb136) _ ⟨hHeld, (rk HO132.out), (pk BK119.out), (pk BK120.out), (pk BK136.out), GW136.out, GE136.out, NB119_136.out, NB136_119.out, NB120_136.out, NB136_120.out, (by repeat (with_reducible first | exact HB.out | refine bz ?_ (by assumption) | apply bA | apply bN | apply bD))⟩)
                ·skip
                 rintro v125 w35 ⟨hS_, h0_, h1_, h2_, h3_⟩
                 have n0_ : Aside0 (Kd.R (Kd.int .i64) 3 w35 w.heap.size (fun _ => True) v125 y124) := ⟨h0_⟩
                 have n1_ : Aside0 (w35.heap[gb119]? = some (.cells #[.int .i64 a0_0, .slice A0_1 l0_1.length c0_1, .slice A0_2 l0_2.length c0_2] 31 (0, 0))) := ⟨h1_⟩
                 have n2_ : Aside0 (w35.heap[gb120]? = some (.cells #[.int .i64 0, .slice none 0 0, .slice none 0 0] 31 (0, 0))) := ⟨h2_⟩
                 have n3_ : Aside0 (Below w.heap.size w w35) := ⟨h3_⟩
                 clear BK119
                 clear BK120
                 clear HB
                 clear h0_ h1_ h2_ h3_
                 have HO126 := n0_
                 have BK119 := n1_
                 have BK120 := n2_
                 have HB := n3_
                 clear n0_ n1_ n2_ n3_
                 have hHeld : w35.cell? ⟨gb119, 0, none⟩ = some (.int .i64 a0_0) ∧ w35.cell? ⟨gb119, 1, none⟩ = some (.slice A0_1 l0_1.length c0_1) ∧ w35.cell? ⟨gb119, 2, none⟩ = some (.slice A0_2 l0_2.length c0_2) := hS_
                 refine norm_ (a' := ?_) ?_ ?_
                 rotate_left
                 ·simp only [putAll, Act.put, sB, sC, sD]
                  rfl
                 refine three_ (i := 5) (j := 6) (k := 11) (Ni := some 50) (Nj := some 51) (Nk := some 14) #[true, true, true, true, true, true, false, true, true, false, false, false, false] #[true, true, true, true, true, false, true, true, true, false, false, false, false] #[true, true, true, true, true, false, false, true, true, false, false, true, false] rfl rfl rfl rfl rfl rfl (three_of HT_.out (by kernel_rfl)) (by decide) (by decide) (by decide) (fun K hK => ?_) (fun K hK => ?_) (fun K hK => ?_)
                 ·skip
                  refine Kd.R_append_rows_step (Kd.int .i64) (w0 := w) w.heap.size (by rfl) (.tmp 47) (.tmp 49) 27 3 (.int .i64 0) 8 rfl Try.underlying27 info3 rfl (by decide) (by omega) v125 y124 l0_1 _ _ _ (fun _ => True) (fun _ => False) (by first | rfl | exact ev_tmp_3 e47) (by first | rfl | exact ev_tmp_3 e49) ?aO ?aR (fun _ _ h => h) (fun _ h => h.elim) ?aF ?aB ?aS ?aL ?_
                  (case aR => exact Kd.C_below HR0_1.out (un HB.out))
                  (case aB => exact (by repeat (with_reducible first | exact HB.out | refine bz ?_ (by assumption) | apply bA | apply bN | apply bD)))
                  (case aF => exact (fun _ _ => trivial))
                  (case aO => exact (rk HO126.out))
                  (case aS => exact (bs HB.out))
                  (case aL => have := LMc29.out; omega)
                  intro v128 w36 ho hb hg hat
                  rw [← Ny127.out] at ho
                  replace BK119 := a_ (blk_grown (pk BK119.out) hg (Kd.R_ne HO126.out BK119.out (by decide)))
                  replace BK120 := a_ (blk_grown (pk BK120.out) hg (Kd.R_ne HO126.out BK120.out (by decide)))
                  replace HB := a_ (hb)
                  have HO129 := a_ (ho)
                  clear HO126 ho hb hg hat
                  refine hK.out _ _ ⟨(blk_cell BK119.out 0).trans rfl, (blk_cell BK119.out 1).trans rfl, (blk_cell BK119.out 2).trans rfl⟩ (fun hHeld => ?_)
                  clear hK K
                  refine norm_ (a' := ?_) ?_ ?_
                  rotate_left
                  ·show Act.put _ (some 50) _ = _
                   simp only [Act.put, sB, sC, sD, i64_w, i32_w]
                   rfl
                  exact norm_ (by first | (simp only [putAll, Act.put, sB, sC, sD]; done) | (simp only [putAll, Act.put, sB, sC, sD]; rfl)) (hJ2_5 (v125, v128) _ ⟨hHeld, (rk HO129.out), (pk BK119.out), (pk BK120.out), (by repeat (with_reducible first | exact HB.out | refine bz ?_ (by assumption) | apply bA | apply bN | apply bD))⟩)
                 ·skip
                  refine Kd.R_lit_step (Kd.int .i64) _ 3 ?hg (N := 51) ?hd (xs := ([] : List Int)) (inner := []) (ok := fun _ => True) (okp := fun _ => True) ?hr ?hp (fun _ hk => hk) trivial (Below.refl _ _) (Nat.le_refl _) (by simp) ?_; (case hd => rfl); (case hg => rfl); (case hr => first | (go_simp; done) | (go_simp; rfl)); (case hp => exact (Reps.none _ _))
                  intro v131 w36 ho37 hb hg_ hnew_
                  clear hg_ hnew_
                  (first | rw [← Ny130.out] at ho37 | (simp only [Int.reduceToNat] at ho37; rw [← Ny130.out] at ho37))
                  have HO132 := a_ (Kd.R_lower (nw ho37 HO126.out) (bs HB.out))
                  replace HO126 := a_ (Kd.R_elder' (rk HO126.out) (Kd.R_base ho37) hb)
                  replace BK119 := a_ (blk_below (pk BK119.out) hb)
                  replace BK120 := a_ (blk_below (pk BK120.out) hb)
                  replace HB := a_ (below_step (by repeat (with_reducible first | exact HB.out | refine bz ?_ (by assumption) | apply bA | apply bN | apply bD)) hb)
                  clear hb ho37
                  refine hK.out _ _ ⟨(blk_cell BK119.out 0).trans rfl, (blk_cell BK119.out 1).trans rfl, (blk_cell BK119.out 2).trans rfl⟩ (fun hHeld => ?_)
                  clear hK K
                  refine norm_ (a' := ?_) ?_ ?_
                  rotate_left
                  ·show Act.put _ (some 51) _ = _
                   simp only [Act.put, sB, sC, sD, i64_w, i32_w]
                   rfl
                  exact norm_ (by first | (simp only [putAll, Act.put, sB, sC, sD]; done) | (simp only [putAll, Act.put, sB, sC, sD]; rfl)) (hJ2_6 (v125, v131) _ ⟨hHeld, (rk (Kd.R_mono HO126.out (fun _ hk => hk.2))), (rk (Kd.R_mono HO132.out (fun _ hk => hk.2))), (pk BK119.out), (pk BK120.out), (by repeat (with_reducible first | exact HB.out | refine bz ?_ (by assumption) | apply bA | apply bN | apply bD))⟩)
                 ·skip
                  refine box_step ?hg (N := 14) ?hd (cs := #[.int .i64 0, .slice none 0 0, .slice none 0 0]) (t := 31) ?hr ?_; (case hd => rfl); (case hg => rfl); (case hr => first | (go_simp; done) | (go_simp; rfl))
                  intro gb136 hg w36 hbox hb
                  replace HO126 := a_ (Kd.R_below (rk HO126.out) hb)
                  have BK136 := a_ (hbox)
                  have GW136 := a_ (bsg hg HB.out)
                  have GE136 := a_ (bsg hg HB.out)
                  replace HB := a_ (below_step (by repeat (with_reducible first | exact HB.out | refine bz ?_ (by assumption) | apply bA | apply bN | apply bD)) hb)
                  have NB119_136 := a_ (nel hg BK119.out)
                  have NB136_119 := a_ (nle hg BK119.out)
                  replace BK119 := a_ (blk_below (pk BK119.out) hb)
                  have NB120_136 := a_ (nel hg BK120.out)
                  have NB136_120 := a_ (nle hg BK120.out)
                  replace BK120 := a_ (blk_below (pk BK120.out) hb)
                  clear hb hbox hg
                  refine hK.out _ _ ⟨(blk_cell BK119.out 0).trans rfl, (blk_cell BK119.out 1).trans rfl, (blk_cell BK119.out 2).trans rfl⟩ (fun hHeld => ?_)
                  clear hK K
                  refine norm_ (a' := ?_) ?_ ?_
                  rotate_left
                  ·show Act.put _ (some 14) _ = _
                   simp only [Act.put, sB, sC, sD, i64_w, i32_w]
                   rfl
                  exact norm_ (by first | (simp only [putAll, Act.put, sB, sC, sD]; done) | (simp only [putAll, Act.put, sB, sC, sD]; rfl)) (hJ2_11 (v125, gb136) _ ⟨hHeld, (rk HO126.out), (pk BK119.out), (pk BK120.out), (pk BK136.out), GW136.out, GE136.out, NB119_136.out, NB136_119.out, NB120_136.out, NB136_120.out, (by repeat (with_reducible first | exact HB.out | refine bz ?_ (by assumption) | apply bA | apply bN | apply bD))⟩)
               ·skip
                rintro ⟨v131, gb136⟩ w36 ⟨hS_, h0_, h1_, h2_, h3_, h4_, h5_, h6_, h7_, h8_, h9_, h10_⟩
                have n0_ : Aside0 (Kd.R (Kd.int .i64) 3 w36 w.heap.size (fun _ => True) v131 y130) := ⟨h0_⟩
                have n1_ : Aside0 (w36.heap[gb119]? = some (.cells #[.int .i64 a0_0, .slice A0_1 l0_1.length c0_1, .slice A0_2 l0_2.length c0_2] 31 (0, 0))) := ⟨h1_⟩
                have n2_ : Aside0 (w36.heap[gb120]? = some (.cells #[.int .i64 0, .slice none 0 0, .slice none 0 0] 31 (0, 0))) := ⟨h2_⟩
                have n3_ : Aside0 (w36.heap[gb136]? = some (.cells #[.int .i64 0, .slice none 0 0, .slice none 0 0] 31 (0, 0))) := ⟨h3_⟩
                have n4_ : Aside0 (w.heap.size ≤ gb136) := ⟨h4_⟩
                have n5_ : Aside0 (w.heap.size ≤ gb136) := ⟨h5_⟩
                have n6_ : Aside0 (gb119 ≠ gb136) := ⟨h6_⟩
                have n7_ : Aside0 (gb136 ≠ gb119) := ⟨h7_⟩
                have n8_ : Aside0 (gb120 ≠ gb136) := ⟨h8_⟩
                have n9_ : Aside0 (gb136 ≠ gb120) := ⟨h9_⟩
                have n10_ : Aside0 (Below w.heap.size w w36) := ⟨h10_⟩
                clear BK119
                clear BK120
                clear HB
                clear h0_ h1_ h2_ h3_ h4_ h5_ h6_ h7_ h8_ h9_ h10_
                have HO132 := n0_
                have BK119 := n1_
                have BK120 := n2_
                have BK136 := n3_
                have GW136 := n4_
                have GE136 := n5_
                have NB119_136 := n6_
                have NB136_119 := n7_
                have NB120_136 := n8_
                have NB136_120 := n9_
                have HB := n10_
                clear n0_ n1_ n2_ n3_ n4_ n5_ n6_ n7_ n8_ n9_ n10_
                have hHeld : w36.cell? ⟨gb119, 0, none⟩ = some (.int .i64 a0_0) ∧ w36.cell? ⟨gb119, 1, none⟩ = some (.slice A0_1 l0_1.length c0_1) ∧ w36.cell? ⟨gb119, 2, none⟩ = some (.slice A0_2 l0_2.length c0_2) := hS_
                refine norm_ (a' := ?_) ?_ ?_
                rotate_left
                ·simp only [putAll, Act.put, sB, sC, sD]
                 rfl
                refine one_ (i := 2) (N := some 47) #[true, true, true, true, true, false, true, true, true, false, false, true, false] rfl rfl (one_of HT_.out (by kernel_rfl)) (by decide) (fun K hK => ?_)
                refine Kd.R_lit_step (Kd.int .i64) _ 3 ?hg (N := 47) ?hd (xs := ([] : List Int)) (inner := []) (ok := fun _ => True) (okp := fun _ => True) ?hr ?hp (fun _ hk => hk) trivial (Below.refl _ _) (Nat.le_refl _) (by simp) ?_; (case hd => rfl); (case hg => rfl); (case hr => first | (go_simp; done) | (go_simp; rfl)); (case hp => exact (Reps.none _ _))
                intro v125 w37 ho38 hb hg_ hnew_
                clear hg_ hnew_
                (first | rw [← Ny124.out] at ho38 | (simp only [Int.reduceToNat] at ho38; rw [← Ny124.out] at ho38))
                have HO126 := a_ (Kd.R_lower (nw ho38 HO132.out) (bs HB.out))
                replace HO132 := a_ (Kd.R_elder' (rk HO132.out) (Kd.R_base ho38) hb)
                replace BK119 := a_ (blk_below (pk BK119.out) hb)
                replace BK120 := a_ (blk_below (pk BK120.out) hb)
                replace BK136 := a_ (blk_below (pk BK136.out) hb)
                replace HB := a_ (below_step (by repeat (with_reducible first | exact HB.out | refine bz ?_ (by assumption) | apply bA | apply bN | apply bD)) hb)
                clear hb ho38
                refine hK.out _ _ ⟨(blk_cell BK119.out 0).trans rfl, (blk_cell BK119.out 1).trans rfl, (blk_cell BK119.out 2).trans rfl⟩ (fun hHeld => ?_)
                clear hK K
                refine norm_ (a' := ?_) ?_ ?_
                rotate_left
                ·show Act.put _ (some 47) _ = _
                 simp only [Act.put, sB, sC, sD, i64_w, i32_w]
                 rfl
                exact norm_ (by first | (simp only [putAll, Act.put, sB, sC, sD]; done) | (simp only [putAll, Act.put, sB, sC, sD]; rfl)) (hJ2_6_11 (v125, v131, gb136) _ ⟨hHeld, (rk (Kd.R_mono HO126.out (fun _ hk => hk.2))), (rk (Kd.R_mono HO132.out (fun _ hk => hk.2))), (pk BK119.out), (pk BK120.out), (pk BK136.out), GW136.out, GE136.out, NB119_136.out, NB136_119.out, NB120_136.out, NB136_120.out, (by repeat (with_reducible first | exact HB.out | refine bz ?_ (by assumption) | apply bA | apply bN | apply bD))⟩)
              ·skip
               rintro ⟨v125, gb136⟩ w36 ⟨hS_, h0_, h1_, h2_, h3_, h4_, h5_, h6_, h7_, h8_, h9_, h10_⟩
               have n0_ : Aside0 (Kd.R (Kd.int .i64) 3 w36 w.heap.size (fun _ => True) v125 y124) := ⟨h0_⟩
               have n1_ : Aside0 (w36.heap[gb119]? = some (.cells #[.int .i64 a0_0, .slice A0_1 l0_1.length c0_1, .slice A0_2 l0_2.length c0_2] 31 (0, 0))) := ⟨h1_⟩
               have n2_ : Aside0 (w36.heap[gb120]? = some (.cells #[.int .i64 0, .slice none 0 0, .slice none 0 0] 31 (0, 0))) := ⟨h2_⟩
               have n3_ : Aside0 (w36.heap[gb136]? = some (.cells #[.int .i64 0, .slice none 0 0, .slice none 0 0] 31 (0, 0))) := ⟨h3_⟩
               have n4_ : Aside0 (w.heap.size ≤ gb136) := ⟨h4_⟩
               have n5_ : Aside0 (w.heap.size ≤ gb136) := ⟨h5_⟩
               have n6_ : Aside0 (gb119 ≠ gb136) := ⟨h6_⟩
               have n7_ : Aside0 (gb136 ≠ gb119) := ⟨h7_⟩
               have n8_ : Aside0 (gb120 ≠ gb136) := ⟨h8_⟩
               have n9_ : Aside0 (gb136 ≠ gb120) := ⟨h9_⟩
               have n10_ : Aside0 (Below w.heap.size w w36) := ⟨h10_⟩
               clear BK119
               clear BK120
               clear HB
               clear h0_ h1_ h2_ h3_ h4_ h5_ h6_ h7_ h8_ h9_ h10_
               have HO126 := n0_
               have BK119 := n1_
               have BK120 := n2_
               have BK136 := n3_
               have GW136 := n4_
               have GE136 := n5_
               have NB119_136 := n6_
               have NB136_119 := n7_
               have NB120_136 := n8_
               have NB136_120 := n9_
               have HB := n10_
               clear n0_ n1_ n2_ n3_ n4_ n5_ n6_ n7_ n8_ n9_ n10_
               have hHeld : w36.cell? ⟨gb119, 0, none⟩ = some (.int .i64 a0_0) ∧ w36.cell? ⟨gb119, 1, none⟩ = some (.slice A0_1 l0_1.length c0_1) ∧ w36.cell? ⟨gb119, 2, none⟩ = some (.slice A0_2 l0_2.length c0_2) := hS_
               refine norm_ (a' := ?_) ?_ ?_
               rotate_left
               ·simp only [putAll, Act.put, sB, sC, sD]
                rfl
               refine two_ (i := 5) (j := 6) (Ni := some 50) (Nj := some 51) #[true, true, true, true, true, true, false, true, true, false, false, true, false] #[true, true, true, true, true, false, true, true, true, false, false, true, false] rfl rfl rfl rfl (two_of HT_.out (by kernel_rfl)) (by decide) (by decide) (fun K hK => ?_) (fun K hK => ?_)
               ·skip
                refine Kd.R_append_rows_step (Kd.int .i64) (w0 := w) w.heap.size (by rfl) (.tmp 47) (.tmp 49) 27 3 (.int .i64 0) 8 rfl Try.underlying27 info3 rfl (by decide) (by omega) v125 y124 l0_1 _ _ _ (fun _ => True) (fun _ => False) (by first | rfl | exact ev_tmp_3 e47) (by first | rfl | exact ev_tmp_3 e49) ?aO ?aR (fun _ _ h => h) (fun _ h => h.elim) ?aF ?aB ?aS ?aL ?_
                (case aR => exact Kd.C_below HR0_1.out (un HB.out))
                (case aB => exact (by repeat (with_reducible first | exact HB.out | refine bz ?_ (by assumption) | apply bA | apply bN | apply bD)))
                (case aF => exact (fun _ _ => trivial))
                (case aO => exact (rk HO126.out))
                (case aS => exact (bs HB.out))
                (case aL => have := LMc29.out; omega)
                intro v128 w37 ho hb hg hat
                rw [← Ny127.out] at ho
                replace BK119 := a_ (blk_grown (pk BK119.out) hg (Kd.R_ne HO126.out BK119.out (by decide)))
                replace BK120 := a_ (blk_grown (pk BK120.out) hg (Kd.R_ne HO126.out BK120.out (by decide)))
                replace BK136 := a_ (blk_grown (pk BK136.out) hg (Kd.R_ne HO126.out BK136.out (by decide)))
                replace HB := a_ (hb)
                have HO129 := a_ (ho)
                clear HO126 ho hb hg hat
                refine hK.out _ _ ⟨(blk_cell BK119.out 0).trans rfl, (blk_cell BK119.out 1).trans rfl, (blk_cell BK119.out 2).trans rfl⟩ (fun hHeld => ?_)
                clear hK K
                refine norm_ (a' := ?_) ?_ ?_
                rotate_left
                ·show Act.put _ (some 50) _ = _
                 simp only [Act.put, sB, sC, sD, i64_w, i32_w]
                 rfl
                exact norm_ (by first | (simp only [putAll, Act.put, sB, sC, sD]; done) | (simp only [putAll, Act.put, sB, sC, sD]; rfl)) (hJ2_5_11 (v125, v128, gb136) _ ⟨hHeld, (rk HO129.out), (pk BK119.out), (pk BK120.out), (pk BK136.out), GW136.out, GE136.out, NB119_136.out, NB136_119.out, NB120_136.out, NB136_120.out, (by repeat (with_reducible first | exact HB.out | refine bz ?_ (by assumption) | apply bA | apply bN | apply bD))⟩)
               ·skip
                refine Kd.R_lit_step (Kd.int .i64) _ 3 ?hg (N := 51) ?hd (xs := ([] : List Int)) (inner := []) (ok := fun _ => True) (okp := fun _ => True) ?hr ?hp (fun _ hk => hk) trivial (Below.refl _ _) (Nat.le_refl _) (by simp) ?_; (case hd => rfl); (case hg => rfl); (case hr => first | (go_simp; done) | (go_simp; rfl)); (case hp => exact (Reps.none _ _))
                intro v131 w37 ho38 hb hg_ hnew_
                clear hg_ hnew_
                (first | rw [← Ny130.out] at ho38 | (simp only [Int.reduceToNat] at ho38; rw [← Ny130.out] at ho38))
                have HO132 := a_ (Kd.R_lower (nw ho38 HO126.out) (bs HB.out))
                replace HO126 := a_ (Kd.R_elder' (rk HO126.out) (Kd.R_base ho38) hb)
                replace BK119 := a_ (blk_below (pk BK119.out) hb)
                replace BK120 := a_ (blk_below (pk BK120.out) hb)
                replace BK136 := a_ (blk_below (pk BK136.out) hb)
                replace HB := a_ (below_step (by repeat (with_reducible first | exact HB.out | refine bz ?_ (by assumption) | apply bA | apply bN | apply bD)) hb)
                clear hb ho38
                refine hK.out _ _ ⟨(blk_cell BK119.out 0).trans rfl, (blk_cell BK119.out 1).trans rfl, (blk_cell BK119.out 2).trans rfl⟩ (fun hHeld => ?_)
                clear hK K
                refine norm_ (a' := ?_) ?_ ?_
                rotate_left
                ·show Act.put _ (some 51) _ = _
                 simp only [Act.put, sB, sC, sD, i64_w, i32_w]
                 rfl
                exact norm_ (by first | (simp only [putAll, Act.put, sB, sC, sD]; done) | (simp only [putAll, Act.put, sB, sC, sD]; rfl)) (hJ2_6_11 (v125, v131, gb136) _ ⟨hHeld, (rk (Kd.R_mono HO126.out (fun _ hk => hk.2))), (rk (Kd.R_mono HO132.out (fun _ hk => hk.2))), (pk BK119.out), (pk BK120.out), (pk BK136.out), GW136.out, GE136.out, NB119_136.out, NB136_119.out, NB120_136.out, NB136_120.out, (by repeat (with_reducible first | exact HB.out | refine bz ?_ (by assumption) | apply bA | apply bN | apply bD))⟩)
             ·skip
              rintro ⟨v125, v131⟩ w37 ⟨hS_, h0_, h1_, h2_, h3_, h4_⟩
              have n0_ : Aside0 (Kd.R (Kd.int .i64) 3 w37 w.heap.size (fun k_ => N_ v131 k_) v125 y124) := ⟨h0_⟩
              have n1_ : Aside0 (Kd.R (Kd.int .i64) 3 w37 w.heap.size (fun k_ => N_ v125 k_) v131 y130) := ⟨h1_⟩
              have n2_ : Aside0 (w37.heap[gb119]? = some (.cells #[.int .i64 a0_0, .slice A0_1 l0_1.length c0_1, .slice A0_2 l0_2.length c0_2] 31 (0, 0))) := ⟨h2_⟩
              have n3_ : Aside0 (w37.heap[gb120]? = some (.cells #[.int .i64 0, .slice none 0 0, .slice none 0 0] 31 (0, 0))) := ⟨h3_⟩
              have n4_ : Aside0 (Below w.heap.size w w37) := ⟨h4_⟩
              clear BK119
              clear BK120
              clear HB
              clear h0_ h1_ h2_ h3_ h4_
              have HO126 := n0_
              have HO132 := n1_
              have BK119 := n2_
              have BK120 := n3_
              have HB := n4_
              clear n0_ n1_ n2_ n3_ n4_
              have hHeld : w37.cell? ⟨gb119, 0, none⟩ = some (.int .i64 a0_0) ∧ w37.cell? ⟨gb119, 1, none⟩ = some (.slice A0_1 l0_1.length c0_1) ∧ w37.cell? ⟨gb119, 2, none⟩ = some (.slice A0_2 l0_2.length c0_2) := hS_
              refine norm_ (a' := ?_) ?_ ?_
              rotate_left
              ·simp only [putAll, Act.put, sB, sC, sD]
               rfl
              refine two_ (i := 5) (j := 11) (Ni := some 50) (Nj := some 14) #[true, true, true, true, true, true, true, true, true, false, false, false, false] #[true, true, true, true, true, false, true, true, true, false, false, true, false] rfl rfl rfl rfl (two_of HT_.out (by kernel_rfl)) (by decide) (by decide) (fun K hK => ?_) (fun K hK => ?_)
              ·skip
               refine Kd.R_append_rows_step (Kd.int .i64) (w0 := w) w.heap.size (by rfl) (.tmp 47) (.tmp 49) 27 3 (.int .i64 0) 8 rfl Try.underlying27 info3 rfl (by decide) (by omega) v125 y124 l0_1 _ _ _ (fun k_ => N_ v131 k_) (fun _ => False) (by first | rfl | exact ev_tmp_3 e47) (by first | rfl | exact ev_tmp_3 e49) ?aO ?aR (fun _ _ h => h) (fun _ h => h.elim) ?aF ?aB ?aS ?aL ?_
               (case aR => exact Kd.C_below HR0_1.out (un HB.out))
               (case aB => exact (by repeat (with_reducible first | exact HB.out | refine bz ?_ (by assumption) | apply bA | apply bN | apply bD)))
               (case aF => exact (fun k_ hk => Kd.fresh' (Kd.R_lt (rk HO132.out)) k_ hk))
               (case aO => exact (rk HO126.out))
               (case aS => exact (bs HB.out))
               (case aL => have := LMc29.out; omega)
               intro v128 w38 ho hb hg hat
               rw [← Ny127.out] at ho
               replace BK119 := a_ (blk_grown (pk BK119.out) hg (Kd.R_ne HO126.out BK119.out (by decide)))
               replace BK120 := a_ (blk_grown (pk BK120.out) hg (Kd.R_ne HO126.out BK120.out (by decide)))
               replace HO132 := a_ (Kd.R_after (ok := (fun _ => True)) (rk (Kd.R_mono HO132.out (fun _ hk => ⟨trivial, hk⟩))) hg hat)
               replace HB := a_ (hb)
               have HO129 := a_ (ho)
               clear HO126 ho hb hg hat
               refine hK.out _ _ ⟨(blk_cell BK119.out 0).trans rfl, (blk_cell BK119.out 1).trans rfl, (blk_cell BK119.out 2).trans rfl⟩ (fun hHeld => ?_)
               clear hK K
               refine norm_ (a' := ?_) ?_ ?_
               rotate_left
               ·show Act.put _ (some 50) _ = _
                simp only [Act.put, sB, sC, sD, i64_w, i32_w]
                rfl
               exact norm_ (by first | (simp only [putAll, Act.put, sB, sC, sD]; done) | (simp only [putAll, Act.put, sB, sC, sD]; rfl)) (hJ2_5_6 (v125, v128, v131) _ ⟨hHeld, (rk HO129.out), (rk (Kd.R_mono HO132.out (fun _ hk => hk.2))), (pk BK119.out), (pk BK120.out), (by repeat (with_reducible first | exact HB.out | refine bz ?_ (by assumption) | apply bA | apply bN | apply bD))⟩)
              ·skip
               refine box_step ?hg (N := 14) ?hd (cs := #[.int .i64 0, .slice none 0 0, .slice none 0 0]) (t := 31) ?hr ?_; (case hd => rfl); (case hg => rfl); (case hr => first | (go_simp; done) | (go_simp; rfl))
               intro gb136 hg w38 hbox hb
               replace HO126 := a_ (Kd.R_below (rk HO126.out) hb)
               replace HO132 := a_ (Kd.R_below (rk HO132.out) hb)
               have BK136 := a_ (hbox)
               have GW136 := a_ (bsg hg HB.out)
               have GE136 := a_ (bsg hg HB.out)
               replace HB := a_ (below_step (by repeat (with_reducible first | exact HB.out | refine bz ?_ (by assumption) | apply bA | apply bN | apply bD)) hb)
               have NB119_136 := a_ (nel hg BK119.out)
               have NB136_119 := a_ (nle hg BK119.out)
               replace BK119 := a_ (blk_below (pk BK119.out) hb)
               have NB120_136 := a_ (nel hg BK120.out)
               have NB136_120 := a_ (nle hg BK120.out)
               replace BK120 := a_ (blk_below (pk BK120.out) hb)
               clear hb hbox hg
               refine hK.out _ _ ⟨(blk_cell BK119.out 0).trans rfl, (blk_cell BK119.out 1).trans rfl, (blk_cell BK119.out 2).trans rfl⟩ (fun hHeld => ?_)
               clear hK K
               refine norm_ (a' := ?_) ?_ ?_
               rotate_left
               ·show Act.put _ (some 14) _ = _
                simp only [Act.put, sB, sC, sD, i64_w, i32_w]
                rfl
               exact norm_ (by first | (simp only [putAll, Act.put, sB, sC, sD]; done) | (simp only [putAll, Act.put, sB, sC, sD]; rfl)) (hJ2_6_11 (v125, v131, gb136) _ ⟨hHeld, (rk HO126.out), (rk HO132.out), (pk BK119.out), (pk BK120.out), (pk BK136.out), GW136.out, GE136.out, NB119_136.out, NB136_119.out, NB120_136.out, NB136_120.out, (by repeat (with_reducible first | exact HB.out | refine bz ?_ (by assumption) | apply bA | apply bN | apply bD))⟩)
            ·skip
             rintro ⟨v125, v128⟩ w36 ⟨hS_, h0_, h1_, h2_, h3_⟩
             have n0_ : Aside0 (Kd.R (Kd.int .i64) 3 w36 w.heap.size (fun _ => True) v128 y127) := ⟨h0_⟩
             have n1_ : Aside0 (w36.heap[gb119]? = some (.cells #[.int .i64 a0_0, .slice A0_1 l0_1.length c0_1, .slice A0_2 l0_2.length c0_2] 31 (0, 0))) := ⟨h1_⟩
             have n2_ : Aside0 (w36.heap[gb120]? = some (.cells #[.int .i64 0, .slice none 0 0, .slice none 0 0] 31 (0, 0))) := ⟨h2_⟩
             have n3_ : Aside0 (Below w.heap.size w w36) := ⟨h3_⟩
             clear BK119
             clear BK120
             clear HB
             clear h0_ h1_ h2_ h3_
             have HO129 := n0_
             have BK119 := n1_
             have BK120 := n2_
             have HB := n3_
             clear n0_ n1_ n2_ n3_
             have hHeld : w36.cell? ⟨gb119, 0, none⟩ = some (.int .i64 a0_0) ∧ w36.cell? ⟨gb119, 1, none⟩ = some (.slice A0_1 l0_1.length c0_1) ∧ w36.cell? ⟨gb119, 2, none⟩ = some (.slice A0_2 l0_2.length c0_2) := hS_
             refine norm_ (a' := ?_) ?_ ?_
             rotate_left
             ·simp only [putAll, Act.put, sB, sC, sD]
              rfl
             refine two_ (i := 6) (j := 11) (Ni := some 51) (Nj := some 14) #[true, true, true, true, true, true, true, true, true, false, false, false, false] #[true, true, true, true, true, true, false, true, true, false, false, true, false] rfl rfl rfl rfl (two_of HT_.out (by kernel_rfl)) (by decide) (by decide) (fun K hK => ?_) (fun K hK => ?_)
             ·skip
              refine Kd.R_lit_step (Kd.int .i64) _ 3 ?hg (N := 51) ?hd (xs := ([] : List Int)) (inner := []) (ok := fun _ => True) (okp := fun _ => True) ?hr ?hp (fun _ hk => hk) trivial (Below.refl _ _) (Nat.le_refl _) (by simp) ?_; (case hd => rfl); (case hg => rfl); (case hr => first | (go_simp; done) | (go_simp; rfl)); (case hp => exact (Reps.none _ _))
              intro v131 w37 ho38 hb hg_ hnew_
              clear hg_ hnew_
              (first | rw [← Ny130.out] at ho38 | (simp only [Int.reduceToNat] at ho38; rw [← Ny130.out] at ho38))
              have HO132 := a_ (Kd.R_lower (nw ho38 HO129.out) (bs HB.out))
              replace HO129 := a_ (Kd.R_elder' (rk HO129.out) (Kd.R_base ho38) hb)
              replace BK119 := a_ (blk_below (pk BK119.out) hb)
              replace BK120 := a_ (blk_below (pk BK120.out) hb)
              replace HB := a_ (below_step (by repeat (with_reducible first | exact HB.out | refine bz ?_ (by assumption) | apply bA | apply bN | apply bD)) hb)
              clear hb ho38
              refine hK.out _ _ ⟨(blk_cell BK119.out 0).trans rfl, (blk_cell BK119.out 1).trans rfl, (blk_cell BK119.out 2).trans rfl⟩ (fun hHeld => ?_)
              clear hK K
              refine norm_ (a' := ?_) ?_ ?_
              rotate_left
              ·show Act.put _ (some 51) _ = _
               simp only [Act.put, sB, sC, sD, i64_w, i32_w]
               rfl
              exact norm_ (by first | (simp only [putAll, Act.put, sB, sC, sD]; done) | (simp only [putAll, Act.put, sB, sC, sD]; rfl)) (hJ2_5_6 (v125, v128, v131) _ ⟨hHeld, (rk (Kd.R_mono HO129.out (fun _ hk => hk.2))), (rk (Kd.R_mono HO132.out (fun _ hk => hk.2))), (pk BK119.out), (pk BK120.out), (by repeat (with_reducible first | exact HB.out | refine bz ?_ (by assumption) | apply bA | apply bN | apply bD))⟩)
             ·skip
              refine box_step ?hg (N := 14) ?hd (cs := #[.int .i64 0, .slice none 0 0, .slice none 0 0]) (t := 31) ?hr ?_; (case hd => rfl); (case hg => rfl); (case hr => first | (go_simp; done) | (go_simp; rfl))
              intro gb136 hg w37 hbox hb
              replace HO129 := a_ (Kd.R_below (rk HO129.out) hb)
              have BK136 := a_ (hbox)
              have GW136 := a_ (bsg hg HB.out)
              have GE136 := a_ (bsg hg HB.out)
              replace HB := a_ (below_step (by repeat (with_reducible first | exact HB.out | refine bz ?_ (by assumption) | apply bA | apply bN | apply bD)) hb)
              have NB119_136 := a_ (nel hg BK119.out)
              have NB136_119 := a_ (nle hg BK119.out)
              replace BK119 := a_ (blk_below (pk BK119.out) hb)
              have NB120_136 := a_ (nel hg BK120.out)
              have NB136_120 := a_ (nle hg BK120.out)
              replace BK120 := a_ (blk_below (pk BK120.out) hb)
              clear hb hbox hg
              refine hK.out _ _ ⟨(blk_cell BK119.out 0).trans rfl, (blk_cell BK119.out 1).trans rfl, (blk_cell BK119.out 2).trans rfl⟩ (fun hHeld => ?_)
              clear hK K
              refine norm_ (a' := ?_) ?_ ?_
              rotate_left
              ·show Act.put _ (some 14) _ = _
               simp only [Act.put, sB, sC, sD, i64_w, i32_w]
               rfl
              exact norm_ (by first | (simp only [putAll, Act.put, sB, sC, sD]; done) | (simp only [putAll, Act.put, sB, sC, sD]; rfl)) (hJ2_5_11 (v125, v128, gb136) _ ⟨hHeld, (rk HO129.out), (pk BK119.out), (pk BK120.out), (pk BK136.out), GW136.out, GE136.out, NB119_136.out, NB136_119.out, NB120_136.out, NB136_120.out, (by repeat (with_reducible first | exact HB.out | refine bz ?_ (by assumption) | apply bA | apply bN | apply bD))⟩)
           ·skip
            rintro ⟨v125, v131, gb136⟩ w38 ⟨hS_, h0_, h1_, h2_, h3_, h4_, h5_, h6_, h7_, h8_, h9_, h10_, h11_⟩
            have n0_ : Aside0 (Kd.R (Kd.int .i64) 3 w38 w.heap.size (fun k_ => N_ v131 k_) v125 y124) := ⟨h0_⟩
            have n1_ : Aside0 (Kd.R (Kd.int .i64) 3 w38 w.heap.size (fun k_ => N_ v125 k_) v131 y130) := ⟨h1_⟩
            have n2_ : Aside0 (w38.heap[gb119]? = some (.cells #[.int .i64 a0_0, .slice A0_1 l0_1.length c0_1, .slice A0_2 l0_2.length c0_2] 31 (0, 0))) := ⟨h2_⟩
            have n3_ : Aside0 (w38.heap[gb120]? = some (.cells #[.int .i64 0, .slice none 0 0, .slice none 0 0] 31 (0, 0))) := ⟨h3_⟩
            have n4_ : Aside0 (w38.heap[gb136]? = some (.cells #[.int .i64 0, .slice none 0 0, .slice none 0 0] 31 (0, 0))) := ⟨h4_⟩
            have n5_ : Aside0 (w.heap.size ≤ gb136) := ⟨h5_⟩
            have n6_ : Aside0 (w.heap.size ≤ gb136) := ⟨h6_⟩
            have n7_ : Aside0 (gb119 ≠ gb136) := ⟨h7_⟩
            have n8_ : Aside0 (gb136 ≠ gb119) := ⟨h8_⟩
            have n9_ : Aside0 (gb120 ≠ gb136) := ⟨h9_⟩
            have n10_ : Aside0 (gb136 ≠ gb120) := ⟨h10_⟩
            have n11_ : Aside0 (Below w.heap.size w w38) := ⟨h11_⟩
            clear BK119
            clear BK120
            clear HB
            clear h0_ h1_ h2_ h3_ h4_ h5_ h6_ h7_ h8_ h9_ h10_ h11_
            have HO126 := n0_
            have HO132 := n1_
            have BK119 := n2_
            have BK120 := n3_
            have BK136 := n4_
            have GW136 := n5_
            have GE136 := n6_
            have NB119_136 := n7_
            have NB136_119 := n8_
            have NB120_136 := n9_
            have NB136_120 := n10_
            have HB := n11_
            clear n0_ n1_ n2_ n3_ n4_ n5_ n6_ n7_ n8_ n9_ n10_ n11_
            have hHeld : w38.cell? ⟨gb119, 0, none⟩ = some (.int .i64 a0_0) ∧ w38.cell? ⟨gb119, 1, none⟩ = some (.slice A0_1 l0_1.length c0_1) ∧ w38.cell? ⟨gb119, 2, none⟩ = some (.slice A0_2 l0_2.length c0_2) := hS_
            refine norm_ (a' := ?_) ?_ ?_
            rotate_left
            ·simp only [putAll, Act.put, sB, sC, sD]
             rfl
            refine one_ (i := 5) (N := some 50) #[true, true, true, true, true, true, true, true, true, false, false, true, false] rfl rfl (one_of HT_.out (by kernel_rfl)) (by decide) (fun K hK => ?_)
            refine Kd.R_append_rows_step (Kd.int .i64) (w0 := w) w.heap.size (by rfl) (.tmp 47) (.tmp 49) 27 3 (.int .i64 0) 8 rfl Try.underlying27 info3 rfl (by decide) (by omega) v125 y124 l0_1 _ _ _ (fun k_ => N_ v131 k_) (fun _ => False) (by first | rfl | exact ev_tmp_3 e47) (by first | rfl | exact ev_tmp_3 e49) ?aO ?aR (fun _ _ h => h) (fun _ h => h.elim) ?aF ?aB ?aS ?aL ?_
            (case aR => exact Kd.C_below HR0_1.out (un HB.out))
            (case aB => exact (by repeat (with_reducible first | exact HB.out | refine bz ?_ (by assumption) | apply bA | apply bN | apply bD)))
            (case aF => exact (fun k_ hk => Kd.fresh' (Kd.R_lt (rk HO132.out)) k_ hk))
            (case aO => exact (rk HO126.out))
            (case aS => exact (bs HB.out))
            (case aL => have := LMc29.out; omega)
            intro v128 w39 ho hb hg hat
            rw [← Ny127.out] at ho
            replace BK119 := a_ (blk_grown (pk BK119.out) hg (Kd.R_ne HO126.out BK119.out (by decide)))
            replace BK120 := a_ (blk_grown (pk BK120.out) hg (Kd.R_ne HO126.out BK120.out (by decide)))
            replace HO132 := a_ (Kd.R_after (ok := (fun _ => True)) (rk (Kd.R_mono HO132.out (fun _ hk => ⟨trivial, hk⟩))) hg hat)
            replace BK136 := a_ (blk_grown (pk BK136.out) hg (Kd.R_ne HO126.out BK136.out (by decide)))
            replace HB := a_ (hb)
            have HO129 := a_ (ho)
            clear HO126 ho hb hg hat
            refine hK.out _ _ ⟨(blk_cell BK119.out 0).trans rfl, (blk_cell BK119.out 1).trans rfl, (blk_cell BK119.out 2).trans rfl⟩ (fun hHeld => ?_)
            clear hK K
            refine norm_ (a' := ?_) ?_ ?_
            rotate_left
            ·show Act.put _ (some 50) _ = _
             simp only [Act.put, sB, sC, sD, i64_w, i32_w]
             rfl
            exact norm_ (by first | (simp only [putAll, Act.put, sB, sC, sD]; done) | (simp only [putAll, Act.put, sB, sC, sD]; rfl)) (hJ2_5_6_11 (v125, v128, v131, gb136) _ ⟨hHeld, (rk HO129.out), (rk (Kd.R_mono HO132.out (fun _ hk => hk.2))), (pk BK119.out), (pk BK120.out), (pk BK136.out), GW136.out, GE136.out, NB119_136.out, NB136_119.out, NB120_136.out, NB136_120.out, (by repeat (with_reducible first | exact HB.out | refine bz ?_ (by assumption) | apply bA | apply bN | apply bD))⟩)
          ·skip
           rintro ⟨v125, v128, gb136⟩ w37 ⟨hS_, h0_, h1_, h2_, h3_, h4_, h5_, h6_, h7_, h8_, h9_, h10_⟩
           have n0_ : Aside0 (Kd.R (Kd.int .i64) 3 w37 w.heap.size (fun _ => True) v128 y127) := ⟨h0_⟩
           have n1_ : Aside0 (w37.heap[gb119]? = some (.cells #[.int .i64 a0_0, .slice A0_1 l0_1.length c0_1, .slice A0_2 l0_2.length c0_2] 31 (0, 0))) := ⟨h1_⟩
           have n2_ : Aside0 (w37.heap[gb120]? = some (.cells #[.int .i64 0, .slice none 0 0, .slice none 0 0] 31 (0, 0))) := ⟨h2_⟩
           have n3_ : Aside0 (w37.heap[gb136]? = some (.cells #[.int .i64 0, .slice none 0 0, .slice none 0 0] 31 (0, 0))) := ⟨h3_⟩
           have n4_ : Aside0 (w.heap.size ≤ gb136) := ⟨h4_⟩
           have n5_ : Aside0 (w.heap.size ≤ gb136) := ⟨h5_⟩
           have n6_ : Aside0 (gb119 ≠ gb136) := ⟨h6_⟩
           have n7_ : Aside0 (gb136 ≠ gb119) := ⟨h7_⟩
           have n8_ : Aside0 (gb120 ≠ gb136) := ⟨h8_⟩
           have n9_ : Aside0 (gb136 ≠ gb120) := ⟨h9_⟩
           have n10_ : Aside0 (Below w.heap.size w w37) := ⟨h10_⟩
           clear BK119
           clear BK120
           clear HB
           clear h0_ h1_ h2_ h3_ h4_ h5_ h6_ h7_ h8_ h9_ h10_
           have HO129 := n0_
           have BK119 := n1_
           have BK120 := n2_
           have BK136 := n3_
           have GW136 := n4_
           have GE136 := n5_
           have NB119_136 := n6_
           have NB136_119 := n7_
           have NB120_136 := n8_
           have NB136_120 := n9_
           have HB := n10_
           clear n0_ n1_ n2_ n3_ n4_ n5_ n6_ n7_ n8_ n9_ n10_
           have hHeld : w37.cell? ⟨gb119, 0, none⟩ = some (.int .i64 a0_0) ∧ w37.cell? ⟨gb119, 1, none⟩ = some (.slice A0_1 l0_1.length c0_1) ∧ w37.cell? ⟨gb119, 2, none⟩ = some (.slice A0_2 l0_2.length c0_2) := hS_
           refine norm_ (a' := ?_) ?_ ?_
           rotate_left
           ·simp only [putAll, Act.put, sB, sC, sD]
            rfl
           refine one_ (i := 6) (N := some 51) #[true, true, true, true, true, true, true, true, true, false, false, true, false] rfl rfl (one_of HT_.out (by kernel_rfl)) (by decide) (fun K hK => ?_)
           refine Kd.R_lit_step (Kd.int .i64) _ 3 ?hg (N := 51) ?hd (xs := ([] : List Int)) (inner := []) (ok := fun _ => True) (okp := fun _ => True) ?hr ?hp (fun _ hk => hk) trivial (Below.refl _ _) (Nat.le_refl _) (by simp) ?_; (case hd => rfl); (case hg => rfl); (case hr => first | (go_simp; done) | (go_simp; rfl)); (case hp => exact (Reps.none _ _))
           intro v131 w38 ho39 hb hg_ hnew_
           clear hg_ hnew_
           (first | rw [← Ny130.out] at ho39 | (simp only [Int.reduceToNat] at ho39; rw [← Ny130.out] at ho39))
           have HO132 := a_ (Kd.R_lower (nw ho39 HO129.out) (bs HB.out))
           replace HO129 := a_ (Kd.R_elder' (rk HO129.out) (Kd.R_base ho39) hb)
           replace BK119 := a_ (blk_below (pk BK119.out) hb)
           replace BK120 := a_ (blk_below (pk BK120.out) hb)
           replace BK136 := a_ (blk_below (pk BK136.out) hb)
           replace HB := a_ (below_step (by repeat (with_reducible first | exact HB.out | refine bz ?_ (by assumption) | apply bA | apply bN | apply bD)) hb)
           clear hb ho39
           refine hK.out _ _ ⟨(blk_cell BK119.out 0).trans rfl, (blk_cell BK119.out 1).trans rfl, (blk_cell BK119.out 2).trans rfl⟩ (fun hHeld => ?_)
           clear hK K
           refine norm_ (a' := ?_) ?_ ?_
           rotate_left
           ·show Act.put _ (some 51) _ = _
            simp only [Act.put, sB, sC, sD, i64_w, i32_w]
            rfl
           exact norm_ (by first | (simp only [putAll, Act.put, sB, sC, sD]; done) | (simp only [putAll, Act.put, sB, sC, sD]; rfl)) (hJ2_5_6_11 (v125, v128, v131, gb136) _ ⟨hHeld, (rk (Kd.R_mono HO129.out (fun _ hk => hk.2))), (rk (Kd.R_mono HO132.out (fun _ hk => hk.2))), (pk BK119.out), (pk BK120.out), (pk BK136.out), GW136.out, GE136.out, NB119_136.out, NB136_119.out, NB120_136.out, NB136_120.out, (by repeat (with_reducible first | exact HB.out | refine bz ?_ (by assumption) | apply bA | apply bN | apply bD))⟩)
         ·skip
          rintro ⟨v125, v128, v131⟩ w38 ⟨hS_, h0_, h1_, h2_, h3_, h4_⟩
          have n0_ : Aside0 (Kd.R (Kd.int .i64) 3 w38 w.heap.size (fun k_ => N_ v131 k_) v128 y127) := ⟨h0_⟩
          have n1_ : Aside0 (Kd.R (Kd.int .i64) 3 w38 w.heap.size (fun k_ => N_ v128 k_) v131 y130) := ⟨h1_⟩
          have n2_ : Aside0 (w38.heap[gb119]? = some (.cells #[.int .i64 a0_0, .slice A0_1 l0_1.length c0_1, .slice A0_2 l0_2.length c0_2] 31 (0, 0))) := ⟨h2_⟩
          have n3_ : Aside0 (w38.heap[gb120]? = some (.cells #[.int .i64 0, .slice none 0 0, .slice none 0 0] 31 (0, 0))) := ⟨h3_⟩
          have n4_ : Aside0 (Below w.heap.size w w38) := ⟨h4_⟩
          clear BK119
          clear BK120
          clear HB
          clear h0_ h1_ h2_ h3_ h4_
          have HO129 := n0_
          have HO132 := n1_
          have BK119 := n2_
          have BK120 := n3_
          have HB := n4_
          clear n0_ n1_ n2_ n3_ n4_
          have hHeld : w38.cell? ⟨gb119, 0, none⟩ = some (.int .i64 a0_0) ∧ w38.cell? ⟨gb119, 1, none⟩ = some (.slice A0_1 l0_1.length c0_1) ∧ w38.cell? ⟨gb119, 2, none⟩ = some (.slice A0_2 l0_2.length c0_2) := hS_
          refine norm_ (a' := ?_) ?_ ?_
          rotate_left
          ·simp only [putAll, Act.put, sB, sC, sD]
           rfl
          refine two_ (i := 9) (j := 11) (Ni := some 54) (Nj := some 14) #[true, true, true, true, true, true, true, true, true, true, false, false, false] #[true, true, true, true, true, true, true, true, true, false, false, true, false] rfl rfl rfl rfl (two_of HT_.out (by kernel_rfl)) (by decide) (by decide) (fun K hK => ?_) (fun K hK => ?_)
          ·skip
           refine Kd.R_append_rows_step (Kd.int .i64) (w0 := w) w.heap.size (by rfl) (.tmp 51) (.tmp 53) 27 3 (.int .i64 0) 8 rfl Try.underlying27 info3 rfl (by decide) (by omega) v131 y130 l0_2 _ _ _ (fun k_ => N_ v128 k_) (fun _ => False) (by first | rfl | exact ev_tmp_3 e51) (by first | rfl | exact ev_tmp_3 e53) ?aO ?aR (fun _ _ h => h) (fun _ h => h.elim) ?aF ?aB ?aS ?aL ?_
           (case aR => exact Kd.C_below HR0_2.out (un HB.out))
           (case aB => exact (by repeat (with_reducible first | exact HB.out | refine bz ?_ (by assumption) | apply bA | apply bN | apply bD)))
           (case aF => exact (fun k_ hk => Kd.fresh' (Kd.R_lt (rk HO129.out)) k_ hk))
           (case aO => exact (rk HO132.out))
           (case aS => exact (bs HB.out))
           (case aL => have := LMc30.out; omega)
           intro v134 w39 ho hb hg hat
           rw [← Ny133.out] at ho
           replace BK119 := a_ (blk_grown (pk BK119.out) hg (Kd.R_ne HO132.out BK119.out (by decide)))
           replace BK120 := a_ (blk_grown (pk BK120.out) hg (Kd.R_ne HO132.out BK120.out (by decide)))
           replace HO129 := a_ (Kd.R_after (ok := (fun _ => True)) (rk (Kd.R_mono HO129.out (fun _ hk => ⟨trivial, hk⟩))) hg hat)
           replace HB := a_ (hb)
           have HO135 := a_ (ho)
           clear HO132 ho hb hg hat
           obtain ⟨Ao40, co40, eo40⟩ := Kd.R_slice HO135.out
           (first | subst eo40 | (injection eo40 with f1_ f2_ f3_; obtain rfl := f1_.symm; obtain rfl := f3_.symm))
           obtain ⟨Ao41, co41, eo41⟩ := Kd.R_slice HO129.out
           (first | subst eo41 | (injection eo41 with f1_ f2_ f3_; obtain rfl := f1_.symm; obtain rfl := f3_.symm))
           refine hK.out _ _ ⟨(blk_cell BK119.out 0).trans rfl, (blk_cell BK119.out 1).trans rfl, (blk_cell BK119.out 2).trans rfl⟩ (fun hHeld => ?_)
           clear hK K
           refine norm_ (a' := ?_) ?_ ?_
           rotate_left
           ·show Act.put _ (some 54) _ = _
            simp only [Act.put, sB, sC, sD, i64_w, i32_w]
            rfl
           refine pure_ (i := 10) (N := some 55) (v := ?_) (a' := ?_) #[true, true, true, true, true, true, true, true, true, true, true, false, false] rfl rfl (any_of HT_.out (by kernel_rfl)) (fun _ _ _ h => h) (Or.inl ⟨by rfl, ?_⟩) ?_ ?_
           rotate_left
           ·intro w'
            go_simp
            with_reducible rfl
           rotate_left
           ·simp only [Act.put, sB, sC, sD, i64_w, i32_w]
            rfl
           exact norm_ (by first | (simp only [putAll, Act.put, sB, sC, sD]; done) | (simp only [putAll, Act.put, sB, sC, sD]; rfl)) (hJ2_5_6_9 (v125, .slice Ao41 y127.length co41, v131, .slice Ao40 y133.length co40) _ ⟨hHeld, (rk (Kd.R_mono HO129.out (fun _ hk => hk.2))), (rk HO135.out), (pk BK119.out), (pk BK120.out), (by repeat (with_reducible first | exact HB.out | refine bz ?_ (by assumption) | apply bA | apply bN | apply bD))⟩)
          ·skip
           refine box_step ?hg (N := 14) ?hd (cs := #[.int .i64 0, .slice none 0 0, .slice none 0 0]) (t := 31) ?hr ?_; (case hd => rfl); (case hg => rfl); (case hr => first | (go_simp; done) | (go_simp; rfl))
           intro gb136 hg w39 hbox hb
           replace HO129 := a_ (Kd.R_below (rk HO129.out) hb)
           replace HO132 := a_ (Kd.R_below (rk HO132.out) hb)
           have BK136 := a_ (hbox)
           have GW136 := a_ (bsg hg HB.out)
           have GE136 := a_ (bsg hg HB.out)
           replace HB := a_ (below_step (by repeat (with_reducible first | exact HB.out | refine bz ?_ (by assumption) | apply bA | apply bN | apply bD)) hb)
           have NB119_136 := a_ (nel hg BK119.out)
           have NB136_119 := a_ (nle hg BK119.out)
           replace BK119 := a_ (blk_below (pk BK119.out) hb)
           have NB120_136 := a_ (nel hg BK120.out)
           have NB136_120 := a_ (nle hg BK120.out)
           replace BK120 := a_ (blk_below (pk BK120.out) hb)
           clear hb hbox hg
           refine hK.out _ _ ⟨(blk_cell BK119.out 0).trans rfl, (blk_cell BK119.out 1).trans rfl, (blk_cell BK119.out 2).trans rfl⟩ (fun hHeld => ?_)
           clear hK K
           refine norm_ (a' := ?_) ?_ ?_
           rotate_left
           ·show Act.put _ (some 14) _ = _
            simp only [Act.put, sB, sC, sD, i64_w, i32_w]
            rfl
           exact norm_ (by first | (simp only [putAll, Act.put, sB, sC, sD]; done) | (simp only [putAll, Act.put, sB, sC, sD]; rfl)) (hJ2_5_6_11 (v125, v128, v131, gb136) _ ⟨hHeld, (rk HO129.out), (rk HO132.out), (pk BK119.out), (pk BK120.out), (pk BK136.out), GW136.out, GE136.out, NB119_136.out, NB136_119.out, NB120_136.out, NB136_120.out, (by repeat (with_reducible first | exact HB.out | refine bz ?_ (by assumption) | apply bA | apply bN | apply bD))⟩)
        ·skip
         rintro ⟨v125, v128, v131, gb136⟩ w39 ⟨hS_, h0_, h1_, h2_, h3_, h4_, h5_, h6_, h7_, h8_, h9_, h10_, h11_⟩
         have n0_ : Aside0 (Kd.R (Kd.int .i64) 3 w39 w.heap.size (fun k_ => N_ v131 k_) v128 y127) := ⟨h0_⟩
         have n1_ : Aside0 (Kd.R (Kd.int .i64) 3 w39 w.heap.size (fun k_ => N_ v128 k_) v131 y130) := ⟨h1_⟩
         have n2_ : Aside0 (w39.heap[gb119]? = some (.cells #[.int .i64 a0_0, .slice A0_1 l0_1.length c0_1, .slice A0_2 l0_2.length c0_2] 31 (0, 0))) := ⟨h2_⟩
         have n3_ : Aside0 (w39.heap[gb120]? = some (.cells #[.int .i64 0, .slice none 0 0, .slice none 0 0] 31 (0, 0))) := ⟨h3_⟩
         have n4_ : Aside0 (w39.heap[gb136]? = some (.cells #[.int .i64 0, .slice none 0 0, .slice none 0 0] 31 (0, 0))) := ⟨h4_⟩
         have n5_ : Aside0 (w.heap.size ≤ gb136) := ⟨h5_⟩
         have n6_ : Aside0 (w.heap.size ≤ gb136) := ⟨h6_⟩
         have n7_ : Aside0 (gb119 ≠ gb136) := ⟨h7_⟩
         have n8_ : Aside0 (gb136 ≠ gb119) := ⟨h8_⟩
         have n9_ : Aside0 (gb120 ≠ gb136) := ⟨h9_⟩
         have n10_ : Aside0 (gb136 ≠ gb120) := ⟨h10_⟩
         have n11_ : Aside0 (Below w.heap.size w w39) := ⟨h11_⟩
         clear BK119
         clear BK120
         clear HB
         clear h0_ h1_ h2_ h3_ h4_ h5_ h6_ h7_ h8_ h9_ h10_ h11_
         have HO129 := n0_
         have HO132 := n1_
         have BK119 := n2_
         have BK120 := n3_
         have BK136 := n4_
         have GW136 := n5_
         have GE136 := n6_
         have NB119_136 := n7_
         have NB136_119 := n8_
         have NB120_136 := n9_
         have NB136_120 := n10_
         have HB := n11_
         clear n0_ n1_ n2_ n3_ n4_ n5_ n6_ n7_ n8_ n9_ n10_ n11_
         have hHeld : w39.cell? ⟨gb119, 0, none⟩ = some (.int .i64 a0_0) ∧ w39.cell? ⟨gb119, 1, none⟩ = some (.slice A0_1 l0_1.length c0_1) ∧ w39.cell? ⟨gb119, 2, none⟩ = some (.slice A0_2 l0_2.length c0_2) := hS_
         refine norm_ (a' := ?_) ?_ ?_
         rotate_left
         ·simp only [putAll, Act.put, sB, sC, sD]
          rfl
         refine one_ (i := 9) (N := some 54) #[true, true, true, true, true, true, true, true, true, true, false, true, false] rfl rfl (one_of HT_.out (by kernel_rfl)) (by decide) (fun K hK => ?_)
         refine Kd.R_append_rows_step (Kd.int .i64) (w0 := w) w.heap.size (by rfl) (.tmp 51) (.tmp 53) 27 3 (.int .i64 0) 8 rfl Try.underlying27 info3 rfl (by decide) (by omega) v131 y130 l0_2 _ _ _ (fun k_ => N_ v128 k_) (fun _ => False) (by first | rfl | exact ev_tmp_3 e51) (by first | rfl | exact ev_tmp_3 e53) ?aO ?aR (fun _ _ h => h) (fun _ h => h.elim) ?aF ?aB ?aS ?aL ?_
         (case aR => exact Kd.C_below HR0_2.out (un HB.out))
         (case aB => exact (by repeat (with_reducible first | exact HB.out | refine bz ?_ (by assumption) | apply bA | apply bN | apply bD)))
         (case aF => exact (fun k_ hk => Kd.fresh' (Kd.R_lt (rk HO129.out)) k_ hk))
         (case aO => exact (rk HO132.out))
         (case aS => exact (bs HB.out))
         (case aL => have := LMc30.out; omega)
         intro v134 w40 ho hb hg hat
         rw [← Ny133.out] at ho
         replace BK119 := a_ (blk_grown (pk BK119.out) hg (Kd.R_ne HO132.out BK119.out (by decide)))
         replace BK120 := a_ (blk_grown (pk BK120.out) hg (Kd.R_ne HO132.out BK120.out (by decide)))
         replace HO129 := a_ (Kd.R_after (ok := (fun _ => True)) (rk (Kd.R_mono HO129.out (fun _ hk => ⟨trivial, hk⟩))) hg hat)
         replace BK136 := a_ (blk_grown (pk BK136.out) hg (Kd.R_ne HO132.out BK136.out (by decide)))
         replace HB := a_ (hb)
         have HO135 := a_ (ho)
         clear HO132 ho hb hg hat
         obtain ⟨Ao41, co41, eo41⟩ := Kd.R_slice HO135.out
         (first | subst eo41 | (injection eo41 with f1_ f2_ f3_; obtain rfl := f1_.symm; obtain rfl := f3_.symm))
         obtain ⟨Ao42, co42, eo42⟩ := Kd.R_slice HO129.out
         (first | subst eo42 | (injection eo42 with f1_ f2_ f3_; obtain rfl := f1_.symm; obtain rfl := f3_.symm))
         refine hK.out _ _ ⟨(blk_cell BK119.out 0).trans rfl, (blk_cell BK119.out 1).trans rfl, (blk_cell BK119.out 2).trans rfl⟩ (fun hHeld => ?_)
         clear hK K
         refine norm_ (a' := ?_) ?_ ?_
         rotate_left
         ·show Act.put _ (some 54) _ = _
          simp only [Act.put, sB, sC, sD, i64_w, i32_w]
          rfl
         refine pure_ (i := 10) (N := some 55) (v := ?_) (a' := ?_) #[true, true, true, true, true, true, true, true, true, true, true, true, false] rfl rfl (any_of HT_.out (by kernel_rfl)) (fun _ _ _ h => h) (Or.inl ⟨by rfl, ?_⟩) ?_ ?_
         rotate_left
         ·intro w'
          go_simp
          with_reducible rfl
         rotate_left
         ·simp only [Act.put, sB, sC, sD, i64_w, i32_w]
          rfl
         exact norm_ (by first | (simp only [putAll, Act.put, sB, sC, sD]; done) | (simp only [putAll, Act.put, sB, sC, sD]; rfl)) (hJ2_5_6_9_11 (v125, .slice Ao42 y127.length co42, v131, .slice Ao41 y133.length co41, gb136) _ ⟨hHeld, (rk (Kd.R_mono HO129.out (fun _ hk => hk.2))), (rk HO135.out), (pk BK119.out), (pk BK120.out), (pk BK136.out), GW136.out, GE136.out, NB119_136.out, NB136_119.out, NB120_136.out, NB136_120.out, (by repeat (with_reducible first | exact HB.out | refine bz ?_ (by assumption) | apply bA | apply bN | apply bD))⟩)
       ·skip
        rintro ⟨v125, v128, v131, v134⟩ w41 ⟨hS_, h0_, h1_, h2_, h3_, h4_⟩
        have n0_ : Aside0 (Kd.R (Kd.int .i64) 3 w41 w.heap.size (fun k_ => N_ v134 k_) v128 y127) := ⟨h0_⟩
        have n1_ : Aside0 (Kd.R (Kd.int .i64) 3 w41 w.heap.size (fun k_ => N_ v128 k_) v134 y133) := ⟨h1_⟩
        have n2_ : Aside0 (w41.heap[gb119]? = some (.cells #[.int .i64 a0_0, .slice A0_1 l0_1.length c0_1, .slice A0_2 l0_2.length c0_2] 31 (0, 0))) := ⟨h2_⟩
        have n3_ : Aside0 (w41.heap[gb120]? = some (.cells #[.int .i64 0, .slice none 0 0, .slice none 0 0] 31 (0, 0))) := ⟨h3_⟩
        have n4_ : Aside0 (Below w.heap.size w w41) := ⟨h4_⟩
        clear BK119
        clear BK120
        clear HB
        clear h0_ h1_ h2_ h3_ h4_
        have HO129 := n0_
        have HO135 := n1_
        have BK119 := n2_
        have BK120 := n3_
        have HB := n4_
        clear n0_ n1_ n2_ n3_ n4_
        have hHeld : w41.cell? ⟨gb119, 0, none⟩ = some (.int .i64 a0_0) ∧ w41.cell? ⟨gb119, 1, none⟩ = some (.slice A0_1 l0_1.length c0_1) ∧ w41.cell? ⟨gb119, 2, none⟩ = some (.slice A0_2 l0_2.length c0_2) := hS_
        obtain ⟨Ao42, co42, eo42⟩ := Kd.R_slice HO135.out
        (first | subst eo42 | (injection eo42 with f1_ f2_ f3_; obtain rfl := f1_.symm; obtain rfl := f3_.symm))
        obtain ⟨Ao43, co43, eo43⟩ := Kd.R_slice HO129.out
        (first | subst eo43 | (injection eo43 with f1_ f2_ f3_; obtain rfl := f1_.symm; obtain rfl := f3_.symm))
        refine norm_ (a' := ?_) ?_ ?_
        rotate_left
        ·simp only [putAll, Act.put, sB, sC, sD]
         rfl
        refine one_ (i := 11) (N := some 14) #[true, true, true, true, true, true, true, true, true, true, true, true, false] rfl rfl (one_of HT_.out (by kernel_rfl)) (by decide) (fun K hK => ?_)
        refine box_step ?hg (N := 14) ?hd (cs := #[.int .i64 0, .slice none 0 0, .slice none 0 0]) (t := 31) ?hr ?_; (case hd => rfl); (case hg => rfl); (case hr => first | (go_simp; done) | (go_simp; rfl))
        intro gb136 hg w44 hbox hb
        replace HO129 := a_ (Kd.R_below (rk HO129.out) hb)
        replace HO135 := a_ (Kd.R_below (rk HO135.out) hb)
        have BK136 := a_ (hbox)
        have GW136 := a_ (bsg hg HB.out)
        have GE136 := a_ (bsg hg HB.out)
        replace HB := a_ (below_step (by repeat (with_reducible first | exact HB.out | refine bz ?_ (by assumption) | apply bA | apply bN | apply bD)) hb)
        have NB119_136 := a_ (nel hg BK119.out)
        have NB136_119 := a_ (nle hg BK119.out)
        replace BK119 := a_ (blk_below (pk BK119.out) hb)
        have NB120_136 := a_ (nel hg BK120.out)
        have NB136_120 := a_ (nle hg BK120.out)
        replace BK120 := a_ (blk_below (pk BK120.out) hb)
        clear hb hbox hg
        refine hK.out _ _ ⟨(blk_cell BK119.out 0).trans rfl, (blk_cell BK119.out 1).trans rfl, (blk_cell BK119.out 2).trans rfl⟩ (fun hHeld => ?_)
        clear hK K
        refine norm_ (a' := ?_) ?_ ?_
        rotate_left
        ·show Act.put _ (some 14) _ = _
         simp only [Act.put, sB, sC, sD, i64_w, i32_w]
         rfl
        exact norm_ (by first | (simp only [putAll, Act.put, sB, sC, sD]; done) | (simp only [putAll, Act.put, sB, sC, sD]; rfl)) (hJ2_5_6_9_11 (v125, .slice Ao43 y127.length co43, v131, .slice Ao42 y133.length co42, gb136) _ ⟨hHeld, (rk HO129.out), (rk HO135.out), (pk BK119.out), (pk BK120.out), (pk BK136.out), GW136.out, GE136.out, NB119_136.out, NB136_119.out, NB120_136.out, NB136_120.out, (by repeat (with_reducible first | exact HB.out | refine bz ?_ (by assumption) | apply bA | apply bN | apply bD))⟩)
      rintro ⟨v125, v128, v131, v134, gb136⟩ w42 ⟨hS_, h0_, h1_, h2_, h3_, h4_, h5_, h6_, h7_, h8_, h9_, h10_, h11_⟩
      have n0_ : Aside0 (Kd.R (Kd.int .i64) 3 w42 w.heap.size (fun k_ => N_ v134 k_) v128 y127) := ⟨h0_⟩
      have n1_ : Aside0 (Kd.R (Kd.int .i64) 3 w42 w.heap.size (fun k_ => N_ v128 k_) v134 y133) := ⟨h1_⟩
      have n2_ : Aside0 (w42.heap[gb119]? = some (.cells #[.int .i64 a0_0, .slice A0_1 l0_1.length c0_1, .slice A0_2 l0_2.length c0_2] 31 (0, 0))) := ⟨h2_⟩
      have n3_ : Aside0 (w42.heap[gb120]? = some (.cells #[.int .i64 0, .slice none 0 0, .slice none 0 0] 31 (0, 0))) := ⟨h3_⟩
      have n4_ : Aside0 (w42.heap[gb136]? = some (.cells #[.int .i64 0, .slice none 0 0, .slice none 0 0] 31 (0, 0))) := ⟨h4_⟩
      have n5_ : Aside0 (w.heap.size ≤ gb136) := ⟨h5_⟩
      have n6_ : Aside0 (w.heap.size ≤ gb136) := ⟨h6_⟩
      have n7_ : Aside0 (gb119 ≠ gb136) := ⟨h7_⟩
      have n8_ : Aside0 (gb136 ≠ gb119) := ⟨h8_⟩
      have n9_ : Aside0 (gb120 ≠ gb136) := ⟨h9_⟩
      have n10_ : Aside0 (gb136 ≠ gb120) := ⟨h10_⟩
      have n11_ : Aside0 (Below w.heap.size w w42) := ⟨h11_⟩
      clear BK119
      clear BK120
      clear HB
      clear h0_ h1_ h2_ h3_ h4_ h5_ h6_ h7_ h8_ h9_ h10_ h11_
      have HO129 := n0_
      have HO135 := n1_
      have BK119 := n2_
      have BK120 := n3_
      have BK136 := n4_
      have GW136 := n5_
      have GE136 := n6_
      have NB119_136 := n7_
      have NB136_119 := n8_
      have NB120_136 := n9_
      have NB136_120 := n10_
      have HB := n11_
      clear n0_ n1_ n2_ n3_ n4_ n5_ n6_ n7_ n8_ n9_ n10_ n11_
      have hHeld : w42.cell? ⟨gb119, 0, none⟩ = some (.int .i64 a0_0) ∧ w42.cell? ⟨gb119, 1, none⟩ = some (.slice A0_1 l0_1.length c0_1) ∧ w42.cell? ⟨gb119, 2, none⟩ = some (.slice A0_2 l0_2.length c0_2) := hS_
      obtain ⟨Ao43, co43, eo43⟩ := Kd.R_slice HO135.out
      (first | subst eo43 | (injection eo43 with f1_ f2_ f3_; obtain rfl := f1_.symm; obtain rfl := f3_.symm))
      obtain ⟨Ao44, co44, eo44⟩ := Kd.R_slice HO129.out
      (first | subst eo44 | (injection eo44 with f1_ f2_ f3_; obtain rfl := f1_.symm; obtain rfl := f3_.symm))
      refine norm_ (a' := ?_) ?_ ?_
      rotate_left
      ·simp only [putAll, Act.put, sB, sC, sD]
       rfl
      refine one_ (i := 12) (N := none) #[true, true, true, true, true, true, true, true, true, true, true, true, true] rfl rfl (one_of HT_.out (by kernel_rfl)) (by decide) (fun K hK => ?_)
      have hs45 : w42.cell? ⟨gb136, 0, none⟩ = some (.int .i64 0) := (blk_cell BK136.out 0).trans rfl
      have hfs45 := blk_frozen BK136.out 0
      have hns45_0 := NB119_136.out
      have hns45_1 := NB120_136.out
      have hms45_0 := NB136_119.out
      have hms45_1 := NB136_120.out
      have hs46 : w42.cell? ⟨gb136, 1, none⟩ = some (.slice none 0 0) := (blk_cell BK136.out 1).trans rfl
      have hfs46 := blk_frozen BK136.out 1
      have hns46_0 := NB119_136.out
      have hns46_1 := NB120_136.out
      have hms46_0 := NB136_119.out
      have hms46_1 := NB136_120.out
      have hs47 : w42.cell? ⟨gb136, 2, none⟩ = some (.slice none 0 0) := (blk_cell BK136.out 2).trans rfl
      have hfs47 := blk_frozen BK136.out 2
      have hns47_0 := NB119_136.out
      have hns47_1 := NB120_136.out
      have hms47_0 := NB136_119.out
      have hms47_1 := NB136_120.out
      refine skip_ (w1 := ?_) ?_ ?_ ?_ ?_
      rotate_left
      ·rfl
      ·rfl
      ·go_simp
       rfl
      refine hK.out _ _ ⟨((cell_far (p := ⟨gb136, _, none⟩) NB119_136.out _).trans (((cell_far (p := ⟨gb136, _, none⟩) NB119_136.out _).trans (((cell_far (p := ⟨gb136, _, none⟩) NB119_136.out _).trans (hHeld.1)))))), ((cell_far (p := ⟨gb136, _, none⟩) NB119_136.out _).trans (((cell_far (p := ⟨gb136, _, none⟩) NB119_136.out _).trans (((cell_far (p := ⟨gb136, _, none⟩) NB119_136.out _).trans (hHeld.2.1)))))), ((cell_far (p := ⟨gb136, _, none⟩) NB119_136.out _).trans (((cell_far (p := ⟨gb136, _, none⟩) NB119_136.out _).trans (((cell_far (p := ⟨gb136, _, none⟩) NB119_136.out _).trans (hHeld.2.2))))))⟩ (fun hHeld => ?_)
      clear hK K
      refine done_ (done_of HT_.out (by kernel_rfl)) ?_
      try go_wp2_with (first | ((with_reducible refine gate_callee (f := 6) rfl ?_); refine goesL_ (some 60) rfl rfl Try.func6 (by kernel_rfl) rfl #[.int .i64 a1, .int .i64 a2, .int .i64 a3, .int .i64 a4] rfl (by (try simp only [lA, lB, lC]); first | done | rfl | (simp only [lD, lE]; rfl)) ?_; (with_reducible refine (spec_LineCells.calls kj6 a1 a2 a3 a4 t137 _ A31.out).mono ?_); rintro e w48 ⟨v138, rfl, ho0, hb⟩; refine ⟨_, rfl, ?_⟩; have HO139 := a_ (Kd.S_lower (Kd.S_new' (Kd.S_new' ho0 (Kd.R_lt (rk (Kd.R_mono (fr3 HO129.out BK136.out (by decide) 0 (.int .i64 a0_0) 1 (.slice Ao44 y127.length co44) 2 (.slice Ao43 y133.length co43)) (fun _ h_ => h_.1))))) (Kd.R_lt (rk (Kd.R_mono (fr3 HO135.out BK136.out (by decide) 0 (.int .i64 a0_0) 1 (.slice Ao44 y127.length co44) 2 (.slice Ao43 y133.length co43)) (fun _ h_ => h_.1))))) (bs HB.out)); replace HO129 := a_ (Kd.R_below (rk (Kd.R_mono (fr3 HO129.out BK136.out (by decide) 0 (.int .i64 a0_0) 1 (.slice Ao44 y127.length co44) 2 (.slice Ao43 y133.length co43)) (fun _ h_ => h_.1))) hb); replace HO135 := a_ (Kd.R_below (rk (Kd.R_mono (fr3 HO135.out BK136.out (by decide) 0 (.int .i64 a0_0) 1 (.slice Ao44 y127.length co44) 2 (.slice Ao43 y133.length co43)) (fun _ h_ => h_.1))) hb); replace BK119 := a_ (blk_below (g := gb119) (o := .cells #[.int .i64 a0_0, .slice A0_1 l0_1.length c0_1, .slice A0_2 l0_2.length c0_2] 31 (0, 0)) (by refine pk ?_; refine blk_far ?_ NB119_136.out _; refine pk ?_; refine blk_far ?_ NB119_136.out _; refine pk ?_; refine blk_far ?_ NB119_136.out _; refine pk ?_; exact BK119.out) hb); replace BK120 := a_ (blk_below (g := gb120) (o := .cells #[.int .i64 0, .slice none 0 0, .slice none 0 0] 31 (0, 0)) (by refine pk ?_; refine blk_far ?_ NB120_136.out _; refine pk ?_; refine blk_far ?_ NB120_136.out _; refine pk ?_; refine blk_far ?_ NB120_136.out _; refine pk ?_; exact BK120.out) hb); replace BK136 := a_ (blk_below (g := gb136) (o := .cells #[.int .i64 a0_0, .slice Ao44 y127.length co44, .slice Ao43 y133.length co43] 31 (0, 0)) (by refine pk ?_; refine blk_put (cs := #[.int .i64 a0_0, .slice Ao44 y127.length co44, .slice none 0 0]) ?_ 2 _ rfl; refine pk ?_; refine blk_put (cs := #[.int .i64 a0_0, .slice none 0 0, .slice none 0 0]) ?_ 1 _ rfl; refine pk ?_; refine blk_put (cs := #[.int .i64 0, .slice none 0 0, .slice none 0 0]) ?_ 0 _ rfl; refine pk ?_; exact BK136.out) hb); replace HB := a_ (below_step (by repeat (with_reducible first | exact HB.out | refine bz ?_ (by assumption) | apply bA | apply bN | apply bD)) hb); clear hb ho0; obtain ⟨Ao49, co49, eo49⟩ := Kd.S_slice HO139.out; subst eo49))
      go_loopg [63] kj6 (fun kq v63 w' => ∃ (x63_2 : Int) (x137001_2 : List Int) (x137002_2 : List Int) (u137001 : Value) (u137002 : Value), v63 = .int .i64 x63_2 ∧ Aside0 (spec_AddRay.l0 kq a5 t137 t137 (t137.length : Int) x63_2 a0_0 l0_1 l0_2 a0_0 x137001_2 x137002_2 = some (r1, r2, r3, r4)) ∧ Aside0 (kq ≤ kj6) ∧ Aside0 (Kd.S (Kd.slice 3 (Kd.int .i64)) 27 w' w.heap.size (fun k_ => some k_ ≠ (u137001 : Value).ownBlock ∧ some k_ ≠ (u137002 : Value).ownBlock) (.slice Ao49 t137.length co49) t137) ∧ Aside0 (Kd.S (Kd.slice 3 (Kd.int .i64)) 27 w' w.heap.size (fun k_ => some k_ ≠ (u137001 : Value).ownBlock ∧ some k_ ≠ (u137002 : Value).ownBlock) (.slice Ao49 t137.length co49) t137) ∧ Aside0 (Kd.R (Kd.int .i64) 3 w' w.heap.size (fun k_ => some k_ ≠ (u137002 : Value).ownBlock) u137001 x137001_2) ∧ Aside0 (Kd.R (Kd.int .i64) 3 w' w.heap.size (fun k_ => some k_ ≠ (u137001 : Value).ownBlock) u137002 x137002_2) ∧ Aside0 (w'.heap[gb119]? = some (.cells #[.int .i64 a0_0, (.slice A0_1 l0_1.length c0_1), (.slice A0_2 l0_2.length c0_2)] 31 (0, 0))) ∧ Aside0 (w'.heap[gb120]? = some (.cells #[.int .i64 0, (.slice none 0 0), (.slice none 0 0)] 31 (0, 0))) ∧ Aside0 (w'.heap[gb136]? = some (.cells #[.int .i64 a0_0, u137001, u137002] 31 (0, 0))) ∧ Aside0 (Below w.heap.size w w'))
      case atStart => exact ⟨(0), (y127), (y133), (.slice Ao44 y127.length co44), (.slice Ao43 y133.length co43), (by first | rfl | (simp; done) | (simp [*]; done)), H', ⟨Nat.le_refl _⟩, ⟨by (with_reducible repeat (first | apply Kd.S_alloc | apply Kd.S_drewN | apply Kd.S_drew)); exact Kd.S_mono HO139.out (fun _ hk => ⟨hk.1.2, hk.2⟩)⟩, ⟨by (with_reducible repeat (first | apply Kd.S_alloc | apply Kd.S_drewN | apply Kd.S_drew)); exact Kd.S_mono HO139.out (fun _ hk => ⟨hk.1.2, hk.2⟩)⟩, ⟨rk (HO129.out)⟩, ⟨rk (HO135.out)⟩, ⟨pk BK119.out⟩, ⟨pk BK120.out⟩, ⟨pk BK136.out⟩, ⟨by repeat (with_reducible first | exact HB.out | refine bz ?_ (by assumption) | apply bA | apply bN | apply bD)⟩⟩
      case round =>
       clear H'
       try clear c2; try clear p2; try clear c3; try clear c6; try clear c29; try clear c30
       obtain ⟨x63_2, x137001_2, x137002_2, u137001, u137002, rfl, HA, HK2, HO_15, HO_61, HO_137001, HO_137002, BK119, BK120, BK136, HB⟩ := hrel
       cases gk with
       | zero => exact absurd HA.out (by simp [spec_AddRay.l0])
       | succ k2 =>
        have H := HA.out
        clear HA
        simp only [spec_AddRay.l0] at H
        by_cases c50 : x63_2 < (t137.length : Int)
        ·rw [if_pos c50] at H
         have c50b0 : decide (x63_2 < (t137.length : Int)) = true := decide_eq_true c50
         clear c50
         by_cases c51 : 0 ≤ x63_2
         ·rw [if_pos c51] at H
          have c51b0 : decide (0 ≤ x63_2) = true := decide_eq_true c51
          clear c51
          by_cases c52 : x63_2 < (t137.length : Int)
          ·rw [if_pos c52] at H
           have c52b0 : decide (x63_2 < (t137.length : Int)) = true := decide_eq_true c52
           clear c52
           by_cases c53 : 1 < ((rd_L1 t137 x63_2).length : Int)
           ·rw [if_pos c53] at H
            have c53b0 : decide (1 < ((rd_L1 t137 x63_2).length : Int)) = true := decide_eq_true c53
            have c53b1 : decide (1 < (rd_L1 t137 x63_2).length) = true := decide_eq_true (by omega)
            clear c53
            by_cases c54 : 0 < ((rd_L1 t137 x63_2).length : Int)
            ·rw [if_pos c54] at H
             have c54b0 : decide (0 < ((rd_L1 t137 x63_2).length : Int)) = true := decide_eq_true c54
             have c54b1 : decide (0 < (rd_L1 t137 x63_2).length) = true := decide_eq_true (by omega)
             clear c54
             by_cases c55 : x63_2 = (wrap64 ((t137.length : Int) - 1))
             ·rw [if_pos c55] at H
              have c55b0 : (x63_2 == (wrap64 ((t137.length : Int) - 1))) = true := beq_iff_eq.mpr c55
              have c55b1 : (x63_2 != (wrap64 ((t137.length : Int) - 1))) = false := bne_eq_false_iff_eq.mpr c55
              clear c55
              by_cases c56 : a5 = true
              ·subst c56
               have H1 : (if 0 ≤ (wrap64 ((wrap64 ((rd (rd_L1 t137 x63_2) 1) * a0_0)) + (rd (rd_L1 t137 x63_2) 0))) then (if (wrap64 ((wrap64 ((rd (rd_L1 t137 x63_2) 1) * a0_0)) + (rd (rd_L1 t137 x63_2) 0))) < (x137001_2.length : Int) then (spec_AddRay.l0 k2 true t137 t137 (t137.length : Int) (wrap64 (x63_2 + 1)) a0_0 l0_1 l0_2 a0_0 (x137001_2.set ((wrap64 ((wrap64 ((rd (rd_L1 t137 x63_2) 1) * a0_0)) + (rd (rd_L1 t137 x63_2) 0))) : Int).toNat (wrap64 ((rd x137001_2 (wrap64 ((wrap64 ((rd (rd_L1 t137 x63_2) 1) * a0_0)) + (rd (rd_L1 t137 x63_2) 0)))) + 1))) x137002_2) else (none)) else (none)) = some (r1, r2, r3, r4) := by rw [if_pos rfl] at H; exact H
               clear H
               have H := H1
               clear H1
               obtain ⟨ji57, hji57⟩ : ∃ j_ : Int, (wrap64 ((wrap64 ((rd (rd_L1 t137 x63_2) 1) * a0_0)) + (rd (rd_L1 t137 x63_2) 0))) = j_ := ⟨_, rfl⟩
               replace H : (if 0 ≤ (ji57) then (if (ji57) < (x137001_2.length : Int) then (spec_AddRay.l0 k2 true t137 t137 (t137.length : Int) (wrap64 (x63_2 + 1)) a0_0 l0_1 l0_2 a0_0 (x137001_2.set ((ji57) : Int).toNat (wrap64 ((rd x137001_2 (ji57)) + 1))) x137002_2) else (none)) else (none)) = some (r1, r2, r3, r4) := by first | (rw [hji57] at H; exact H) | (simp only [hji57] at H ⊢; exact H)
               have hji57w : (IntKind.i64.wrap ((wrap64 ((rd (rd_L1 t137 x63_2) 1) * a0_0)) + (rd (rd_L1 t137 x63_2) 0))) = ji57 := (i64_w _).trans hji57
               by_cases c58 : 0 ≤ (ji57)
               ·rw [if_pos c58] at H
                have c58b0 : decide (0 ≤ (ji57)) = true := decide_eq_true c58
                clear c58
                by_cases c59 : (ji57) < (x137001_2.length : Int)
                ·rw [if_pos c59] at H
                 have c59b0 : decide ((ji57) < (x137001_2.length : Int)) = true := decide_eq_true c59
                 clear c59
                 obtain ⟨y144, hy144⟩ : ∃ y_ : List Int, y_ = (x137001_2.set ((ji57) : Int).toNat (wrap64 ((rd x137001_2 (ji57)) + 1))) := ⟨_, rfl⟩
                 replace H : (spec_AddRay.l0 k2 true t137 t137 (t137.length : Int) (wrap64 (x63_2 + 1)) a0_0 l0_1 l0_2 a0_0 y144 x137002_2) = some (r1, r2, r3, r4) := by first | (rw [hy144]; with_reducible exact H) | (have H2_ := (Option.bind_some _ _).symm.trans H; rw [hy144]; with_reducible exact H2_) | (have H2_ := (Option.bind_some _ _).symm.trans H; with_reducible exact H2_) | with_reducible exact H | (rw [hy144]; exact H) | exact H
                 have Ny144 := Aside0.mk hy144
                 clear hy144
                 have H' := Aside0.mk H
                 clear H
                 have p140 : 0 ≤ (x63_2 : Int) := of_decide_eq_true (by first | (with_reducible assumption) | assumption)
                 have q140 : x63_2 < (t137.length : Int) := of_decide_eq_true (by first | (with_reducible assumption) | assumption)
                 obtain ⟨ad140, A140_0, c140_0, e140, hx140_0, hl140_0, hi140_0⟩ := at_L1 (Kd.S_reads' HO_61.out).2.2 x63_2 p140 q140
                 cases e140
                 obtain ⟨ce140, hce140, hMe140, hcc140⟩ := Kd.S_get HO_61.out [] x63_2 p140 (by first | exact q140 | exact of_decide_eq_true (by first | (with_reducible assumption) | assumption) | (have e_ := (Kd.S_reads' HO_61.out).1; omega))
                 obtain ⟨ve140_0, rfl, ge140_0⟩ := hMe140
                 have hv140_0 := hcc140 0 _ rfl
                 rw [Nat.add_zero, show ((Kd.slice 3 (Kd.int .i64))).sz = 1 from rfl, Nat.mul_one] at hv140_0
                 replace hv140_0 := Option.some.inj (hv140_0.symm.trans hx140_0)
                 rw [hv140_0] at ge140_0
                 have HL140_0 := a_ (show Kd.R (Kd.int .i64) 3 _ _ _ _ (rd_L1 t137 x63_2) from ge140_0)
                 clear hv140_0 ge140_0
                 clear hcc140 hce140
                 have HR140_0 := Aside0.mk hi140_0
                 have HC140_0 := Aside0.mk hl140_0
                 clear hi140_0 hl140_0
                 replace p140 := eq_true p140
                 replace q140 := eq_true q140
                 try go_wp2
                 replace HO_15 := a_ (Kd.S_drew HO_15.out)
                 replace HO_61 := a_ (Kd.S_drew HO_61.out)
                 replace HO_137001 := a_ (Kd.R_drew HO_137001.out)
                 replace HO_137002 := a_ (Kd.R_drew HO_137002.out)
                 replace HL140_0 := a_ (Kd.R_drew HL140_0.out)
                 replace BK119 := a_ (blk_drew BK119.out)
                 replace BK120 := a_ (blk_drew BK120.out)
                 replace BK136 := a_ (blk_drew BK136.out)
                 replace HR140_0 := a_ (Kd.C_drew HR140_0.out)
                 replace HB := a_ (below_drew1 HB.out)
                 have p141 : 0 ≤ (1 : Int) := (by omega)
                 have q141 : 1 < ((rd_L1 t137 x63_2).length : Int) := of_decide_eq_true (by first | (with_reducible assumption) | assumption)
                 obtain ⟨ad141, e141, hx141_0⟩ := Kd.at_int (by repeat (first | (with_reducible exact HR140_0.out) | (with_reducible refine Kd.C_alloc ?_ _) | (with_reducible refine Kd.C_drewN ?_ _) | (with_reducible refine Kd.C_drew ?_) | exact HR140_0.out)) 1 p141 q141
                 cases e141
                 (try simp only [show (1 : Int).toNat = 1 from rfl, Nat.reduceMul, Nat.reduceEqDiff, Go.Addr.add, ↓reduceIte] at hx141_0)
                 have qi141 : (1 < (rd_L1 t137 x63_2).length) = True := eq_true (by omega)
                 (try rw [show ((1 : Int)).toNat = 1 from rfl] at hx141_0)
                 replace p141 := eq_true p141
                 replace q141 := eq_true q141
                 have p142 : 0 ≤ (0 : Int) := (by omega)
                 have q142 : 0 < ((rd_L1 t137 x63_2).length : Int) := of_decide_eq_true (by first | (with_reducible assumption) | assumption)
                 obtain ⟨ad142, e142, hx142_0⟩ := Kd.at_int (by repeat (first | (with_reducible exact HR140_0.out) | (with_reducible refine Kd.C_alloc ?_ _) | (with_reducible refine Kd.C_drewN ?_ _) | (with_reducible refine Kd.C_drew ?_) | exact HR140_0.out)) 0 p142 q142
                 obtain rfl : ad141 = ad142 := (by injection e142)
                 have qi142 : (0 < (rd_L1 t137 x63_2).length) = True := eq_true (by omega)
                 (try rw [show ((0 : Int)).toNat = 0 from rfl] at hx142_0)
                 (try rw [Addr.add_zero'] at hx142_0)
                 replace p142 := eq_true p142
                 replace q142 := eq_true q142
                 refine start_ (n := 11) (S := fun w' => w'.cell? ⟨gb119, 0, none⟩ = some (.int .i64 a0_0) ∧ w'.cell? ⟨gb119, 1, none⟩ = some (.slice A0_1 l0_1.length c0_1) ∧ w'.cell? ⟨gb119, 2, none⟩ = some (.slice A0_2 l0_2.length c0_2) ∧ w'.cell? ⟨ad141.block, ad141.off + 1, none⟩ = some (.int .i64 (rd (rd_L1 t137 x63_2) 1)) ∧ w'.cell? ad141 = some (.int .i64 (rd (rd_L1 t137 x63_2) 0))) (ds := []) #[false, false, false, false, false, false, false, false, false, false, false] (by kernel_rfl) rfl rfl ⟨(blk_cell BK119.out 0).trans rfl, (blk_cell BK119.out 1).trans rfl, (blk_cell BK119.out 2).trans rfl, hx141_0, hx142_0⟩ (fun hHeld => ?_); refine with_tabW spec_AddRay.tab8 spec_AddRay.bits8 (fun HT_ HW_ => ?_)
                 generalize wr.drew = w61 at HO_15 HO_61 HO_137001 HO_137002 HL140_0 BK119 BK120 BK136 HR140_0 HB hx141_0 hx142_0 hHeld ⊢
                 refine pure_ (i := 0) (N := some 68) (v := ?_) (a' := ?_) #[true, false, false, false, false, false, false, false, false, false, false] rfl rfl (any_of HT_.out (by kernel_rfl)) (fun _ _ _ h => h) (Or.inl ⟨by rfl, ?_⟩) ?_ ?_
                 rotate_left
                 ·intro w'
                  go_simp
                  with_reducible rfl
                 rotate_left
                 ·simp only [Act.put, sB, sC, sD, i64_w, i32_w]
                  rfl
                 refine pure_ (i := 1) (N := some 69) (v := ?_) (a' := ?_) #[true, true, false, false, false, false, false, false, false, false, false] rfl rfl (any_of HT_.out (by kernel_rfl)) (fun _ _ _ h => h) (Or.inl ⟨by rfl, ?_⟩) ?_ ?_
                 rotate_left
                 ·intro w'
                  go_simp
                  with_reducible rfl
                 rotate_left
                 ·simp only [Act.put, sB, sC, sD, i64_w, i32_w]
                  rfl
                 refine pure_ (i := 3) (N := some 71) (v := ?_) (a' := ?_) #[true, true, false, true, false, false, false, false, false, false, false] rfl rfl (any_of HT_.out (by kernel_rfl)) (fun _ _ _ h => h) (Or.inl ⟨by rfl, ?_⟩) ?_ ?_
                 rotate_left
                 ·intro w'
                  go_simp
                  with_reducible rfl
                 rotate_left
                 ·simp only [Act.put, sB, sC, sD, i64_w, i32_w]
                  rfl
                 refine pure_ (i := 6) (N := some 74) (v := ?_) (a' := ?_) #[true, true, false, true, false, false, true, false, false, false, false] rfl rfl (any_of HT_.out (by kernel_rfl)) (fun _ _ _ h => h) (Or.inl ⟨by rfl, ?_⟩) ?_ ?_
                 rotate_left
                 ·intro w'
                  go_simp
                  with_reducible rfl
                 rotate_left
                 ·simp only [Act.put, sB, sC, sD, i64_w, i32_w]
                  rfl
                 refine pure_ (i := 7) (N := some 75) (v := ?_) (a' := ?_) #[true, true, false, true, false, false, true, true, false, false, false] rfl rfl (any_of HT_.out (by kernel_rfl)) (fun _ _ _ h => h) (Or.inl ⟨by rfl, ?_⟩) ?_ ?_
                 rotate_left
                 ·intro w'
                  go_simp
                  with_reducible rfl
                 rotate_left
                 ·simp only [Act.put, sB, sC, sD, i64_w, i32_w]
                  rfl
                 refine take_ (i := 2) (N := some 70) (v := ?_) (a' := ?_) #[true, true, true, true, false, false, true, true, false, false, false] rfl rfl (take_ofW HT_.out HW_.out (by kernel_rfl)) (fun _ _ _ h => h) (Or.inl ⟨by rfl, ?_⟩) hHeld ?_ ?_
                 rotate_left
                 ·rintro w' ⟨s0, s1, s2, s3, s4⟩
                  go_simp
                  with_reducible rfl
                 rotate_left
                 ·simp only [Act.put, sB, sC, sD, i64_w, i32_w]
                  rfl
                 refine take_ (i := 4) (N := some 72) (v := ?_) (a' := ?_) #[true, true, true, true, true, false, true, true, false, false, false] rfl rfl (take_ofW HT_.out HW_.out (by kernel_rfl)) (fun _ _ _ h => h) (Or.inl ⟨by rfl, ?_⟩) hHeld ?_ ?_
                 rotate_left
                 ·rintro w' ⟨s0, s1, s2, s3, s4⟩
                  go_simp
                  with_reducible rfl
                 rotate_left
                 ·simp only [Act.put, sB, sC, sD, i64_w, i32_w]
                  rfl
                 refine pure_ (i := 5) (N := some 73) (v := ?_) (a' := ?_) #[true, true, true, true, true, true, true, true, false, false, false] rfl rfl (any_of HT_.out (by kernel_rfl)) (fun _ _ _ h => h) (Or.inl ⟨by rfl, ?_⟩) ?_ ?_
                 rotate_left
                 ·intro w'
                  go_simp
                  with_reducible rfl
                 rotate_left
                 ·simp only [Act.put, sB, sC, sD, i64_w, i32_w]
                  rfl
                 refine take_ (i := 8) (N := some 76) (v := ?_) (a' := ?_) #[true, true, true, true, true, true, true, true, true, false, false] rfl rfl (take_ofW HT_.out HW_.out (by kernel_rfl)) (fun _ _ _ h => h) (Or.inl ⟨by rfl, ?_⟩) hHeld ?_ ?_
                 rotate_left
                 ·rintro w' ⟨s0, s1, s2, s3, s4⟩
                  go_simp
                  with_reducible rfl
                 rotate_left
                 ·simp only [Act.put, sB, sC, sD, i64_w, i32_w]
                  rfl
                 refine pure_ (i := 9) (N := some 77) (v := ?_) (a' := ?_) #[true, true, true, true, true, true, true, true, true, true, false] rfl rfl (any_of HT_.out (by kernel_rfl)) (fun _ _ _ h => h) (Or.inl ⟨by rfl, ?_⟩) ?_ ?_
                 rotate_left
                 ·intro w'
                  go_simp
                  with_reducible rfl
                 rotate_left
                 ·simp only [Act.put, sB, sC, sD, i64_w, i32_w]
                  rfl
                 refine pure_ (i := 10) (N := some 18) (v := ?_) (a' := ?_) #[true, true, true, true, true, true, true, true, true, true, true] rfl rfl (any_of HT_.out (by kernel_rfl)) (fun _ _ _ h => h) (Or.inl ⟨by rfl, ?_⟩) ?_ ?_
                 rotate_left
                 ·intro w'
                  go_simp
                  with_reducible rfl
                 rotate_left
                 ·simp only [Act.put, sB, sC, sD, i64_w, i32_w]
                  rfl
                 refine done_ (done_of HT_.out (by kernel_rfl)) ?_
                 have hnb62 := NB136_119.out
                 have hnc62 := NB119_136.out
                 have hnb63 := NB136_120.out
                 have hnc63 := NB120_136.out
                 have hcz64_0 : _ = some (Value.int .i64 a0_0) := (blk_cell BK136.out 0).trans rfl
                 have hcz64_1 : w61.cell? ⟨gb136, 1, none⟩ = some (u137001) := (blk_cell BK136.out 1).trans rfl
                 have hcz64_2 : w61.cell? ⟨gb136, 2, none⟩ = some (u137002) := (blk_cell BK136.out 2).trans rfl
                 have hfz64_0 := blk_frozen BK136.out 0
                 have hfz64_1 := blk_frozen BK136.out 1
                 have hfz64_2 := blk_frozen BK136.out 2
                 obtain ⟨Ao65, co65, eo65⟩ := Kd.R_slice HO_137001.out
                 subst eo65
                 have p143 : 0 ≤ ((ji57) : Int) := of_decide_eq_true (by first | (with_reducible assumption) | assumption)
                 have q143 : (ji57) < (x137001_2.length : Int) := of_decide_eq_true (by first | (with_reducible assumption) | assumption)
                 obtain ⟨ad143, e143, hx143_0⟩ := Kd.at_int (Kd.R_reads' HO_137001.out).2.2 (ji57) p143 q143
                 cases e143
                 replace p143 := eq_true p143
                 replace q143 := eq_true q143
                 have p60 : 0 ≤ ((ji57) : Int) := of_decide_eq_true (by first | (with_reducible assumption) | assumption)
                 have q60 : ((ji57) : Int) < ((x137001_2.length : Int) : Int) := of_decide_eq_true (by first | (with_reducible assumption) | assumption)
                 obtain ⟨go60, co60, eo60, gb60, gl60, cl60, HG60⟩ := Kd.R_form HO_137001.out (by omega)
                 (first | cases eo60 | (injection eo60 with ea_ en_ ec_; (first | subst ea_ | (injection ea_ with ea_; subst ea_)); subst ec_; clear en_))
                 have GB60 := Aside0.mk gb60
                 have GG60 := Aside0.mk HG60
                 clear gb60 gl60 HG60
                 (first | simp only [add_plain] at hx143_0 | skip)
                 obtain ⟨hx60_0, hf60_0⟩ := Kd.R_celln 0 HO_137001.out ((ji57) : Int) p60 q60
                 replace p60 := eq_true p60
                 replace q60 := eq_true q60
                 obtain ⟨hy66_, hz66_⟩ := Kd.R_celln 0 HO_137001.out ((ji57) : Int) (of_decide_eq_true (by first | (with_reducible assumption) | assumption)) (of_decide_eq_true (by first | (with_reducible assumption) | assumption))
                 have HP66 := Kd.R_putg HO_137001.out ((ji57) : Int) (wrap64 ((rd x137001_2 (ji57)) + 1))
                 try go_wp2_with (first | ((with_reducible refine gate_store (t := 3) (p := 92) rfl ?_); refine store_event (t := 3) (p := 92) (v := ?vo_w67) (w1 := (w61.setCell ⟨go60, ((ji57) : Int).toNat, none⟩ (.int .i64 (wrap64 ((rd x137001_2 (ji57)) + 1))))) ?hg ?ho ?hn ?hr ?_; (case ho => rfl); (case hg => rfl); (case hn => rfl); (case hr => first | (go_simp; done) | (go_simp; rfl)); intro w67 hw; have hg : w61.grownBy w67 (some go60) := (by rw [hw]; exact HP66.2); have hp_ : Kd.R (Kd.int .i64) 3 w67 w.heap.size (fun k_ => some k_ ≠ (u137002 : Value).ownBlock) (.slice (some ⟨go60, 0, none⟩) x137001_2.length co65) y144 := (by rw [hw, Ny144.out]; exact HP66.1); clear HP66; replace HO_15 := a_ (Kd.S_after (v := (.slice (some ⟨go60, 0, none⟩) x137001_2.length co65)) (v1 := (.slice (some ⟨go60, 0, none⟩) x137001_2.length co65)) (ok := (fun k_ => some k_ ≠ (u137002 : Value).ownBlock)) (by (with_reducible repeat (first | apply Kd.S_alloc | apply Kd.S_drewN | apply Kd.S_drew)); exact Kd.S_mono HO_15.out (fun _ hk => ⟨hk.2, hk.1⟩)) hg (.inl rfl)); replace HO_61 := a_ (Kd.S_after (v := (.slice (some ⟨go60, 0, none⟩) x137001_2.length co65)) (v1 := (.slice (some ⟨go60, 0, none⟩) x137001_2.length co65)) (ok := (fun k_ => some k_ ≠ (u137002 : Value).ownBlock)) (by (with_reducible repeat (first | apply Kd.S_alloc | apply Kd.S_drewN | apply Kd.S_drew)); exact Kd.S_mono HO_61.out (fun _ hk => ⟨hk.2, hk.1⟩)) hg (.inl rfl)); replace HO_137002 := a_ (Kd.R_after (v := (.slice (some ⟨go60, 0, none⟩) x137001_2.length co65)) (v1 := (.slice (some ⟨go60, 0, none⟩) x137001_2.length co65)) (ok := (fun _ => True)) (rk (Kd.R_mono HO_137002.out (fun _ hk => ⟨trivial, hk⟩))) hg (.inl rfl)); replace BK119 := a_ (blk_grown (pk BK119.out) hg (Kd.R_ne HO_137001.out BK119.out (by decide))); replace BK120 := a_ (blk_grown (pk BK120.out) hg (Kd.R_ne HO_137001.out BK120.out (by decide))); replace BK136 := a_ (blk_grown (pk BK136.out) hg (Kd.R_ne HO_137001.out BK136.out (by decide))); replace HO_137001 := a_ (hp_); replace HL140_0 := a_ (Kd.R_after (v := (.slice (some ⟨go60, 0, none⟩) x137001_2.length co65)) (v1 := (.slice (some ⟨go60, 0, none⟩) x137001_2.length co65)) (ok := (fun k_ => some k_ ≠ (.slice (some ad140) t137.length co49 : Value).ownBlock ∧ some k_ ≠ (u137002 : Value).ownBlock)) (rk (Kd.R_mono HL140_0.out (fun _ hk => ⟨⟨hk.2, hk.1.2⟩, hk.1.1⟩))) hg (.inl rfl)); replace HB := a_ (by rw [hw]; exact below_set (HB.out) GB60.out : Below w.heap.size w w67); clear hg hw hp_))
                 go_roundg k2
                 case measure => have := HJ6.out; have := HK2.out; omega
                 case rel => exact ⟨(wrap64 (x63_2 + 1)), (y144), (x137002_2), (.slice (some ⟨go60, 0, none⟩) x137001_2.length co65), (u137002), (by first | rfl | (simp; done) | (simp [*]; done)), H', ⟨by have := HJ6.out; have := HK2.out; omega⟩, ⟨by (with_reducible repeat (first | apply Kd.S_alloc | apply Kd.S_drewN | apply Kd.S_drew)); exact Kd.S_mono HO_15.out (fun _ hk => ⟨hk.2, hk.1⟩)⟩, ⟨by (with_reducible repeat (first | apply Kd.S_alloc | apply Kd.S_drewN | apply Kd.S_drew)); exact Kd.S_mono HO_61.out (fun _ hk => ⟨hk.2, hk.1⟩)⟩, ⟨rk (HO_137001.out)⟩, ⟨rk (Kd.R_mono HO_137002.out (fun _ hk => hk.2))⟩, ⟨pk BK119.out⟩, ⟨pk BK120.out⟩, ⟨pk BK136.out⟩, ⟨by repeat (with_reducible first | exact HB.out | refine bz ?_ (by assumption) | apply bA | apply bN | apply bD)⟩⟩
                ·rw [if_neg c59] at H
                 exact absurd H (by simp)
               ·rw [if_neg c58] at H
                exact absurd H (by simp)
              ·replace c56 := Bool.eq_false_iff.mpr c56
               subst c56
               have H1 : (if 0 ≤ (wrap64 ((wrap64 ((rd (rd_L1 t137 x63_2) 1) * a0_0)) + (rd (rd_L1 t137 x63_2) 0))) then (if (wrap64 ((wrap64 ((rd (rd_L1 t137 x63_2) 1) * a0_0)) + (rd (rd_L1 t137 x63_2) 0))) < (x137002_2.length : Int) then (spec_AddRay.l0 k2 false t137 t137 (t137.length : Int) (wrap64 (x63_2 + 1)) a0_0 l0_1 l0_2 a0_0 x137001_2 (x137002_2.set ((wrap64 ((wrap64 ((rd (rd_L1 t137 x63_2) 1) * a0_0)) + (rd (rd_L1 t137 x63_2) 0))) : Int).toNat (wrap64 ((rd x137002_2 (wrap64 ((wrap64 ((rd (rd_L1 t137 x63_2) 1) * a0_0)) + (rd (rd_L1 t137 x63_2) 0)))) + 1)))) else (none)) else (none)) = some (r1, r2, r3, r4) := by rw [if_neg (show ¬ (false = true) by decide)] at H; exact H
               clear H
               have H := H1
               clear H1
               obtain ⟨ji68, hji68⟩ : ∃ j_ : Int, (wrap64 ((wrap64 ((rd (rd_L1 t137 x63_2) 1) * a0_0)) + (rd (rd_L1 t137 x63_2) 0))) = j_ := ⟨_, rfl⟩
               replace H : (if 0 ≤ (ji68) then (if (ji68) < (x137002_2.length : Int) then (spec_AddRay.l0 k2 false t137 t137 (t137.length : Int) (wrap64 (x63_2 + 1)) a0_0 l0_1 l0_2 a0_0 x137001_2 (x137002_2.set ((ji68) : Int).toNat (wrap64 ((rd x137002_2 (ji68)) + 1)))) else (none)) else (none)) = some (r1, r2, r3, r4) := by first | (rw [hji68] at H; exact H) | (simp only [hji68] at H ⊢; exact H)
               have hji68w : (IntKind.i64.wrap ((wrap64 ((rd (rd_L1 t137 x63_2) 1) * a0_0)) + (rd (rd_L1 t137 x63_2) 0))) = ji68 := (i64_w _).trans hji68
               by_cases c69 : 0 ≤ (ji68)
               ·rw [if_pos c69] at H
                have c69b0 : decide (0 ≤ (ji68)) = true := decide_eq_true c69
                clear c69
                by_cases c70 : (ji68) < (x137002_2.length : Int)
                ·rw [if_pos c70] at H
                 have c70b0 : decide ((ji68) < (x137002_2.length : Int)) = true := decide_eq_true c70
                 clear c70
                 obtain ⟨y146, hy146⟩ : ∃ y_ : List Int, y_ = (x137002_2.set ((ji68) : Int).toNat (wrap64 ((rd x137002_2 (ji68)) + 1))) := ⟨_, rfl⟩
                 replace H : (spec_AddRay.l0 k2 false t137 t137 (t137.length : Int) (wrap64 (x63_2 + 1)) a0_0 l0_1 l0_2 a0_0 x137001_2 y146) = some (r1, r2, r3, r4) := by first | (rw [hy146]; with_reducible exact H) | (have H2_ := (Option.bind_some _ _).symm.trans H; rw [hy146]; with_reducible exact H2_) | (have H2_ := (Option.bind_some _ _).symm.trans H; with_reducible exact H2_) | with_reducible exact H | (rw [hy146]; exact H) | exact H
                 have Ny146 := Aside0.mk hy146
                 clear hy146
                 have H' := Aside0.mk H
                 clear H
                 have p140 : 0 ≤ (x63_2 : Int) := of_decide_eq_true (by first | (with_reducible assumption) | assumption)
                 have q140 : x63_2 < (t137.length : Int) := of_decide_eq_true (by first | (with_reducible assumption) | assumption)
                 obtain ⟨ad140, A140_0, c140_0, e140, hx140_0, hl140_0, hi140_0⟩ := at_L1 (Kd.S_reads' HO_61.out).2.2 x63_2 p140 q140
                 cases e140
                 obtain ⟨ce140, hce140, hMe140, hcc140⟩ := Kd.S_get HO_61.out [] x63_2 p140 (by first | exact q140 | exact of_decide_eq_true (by first | (with_reducible assumption) | assumption) | (have e_ := (Kd.S_reads' HO_61.out).1; omega))
                 obtain ⟨ve140_0, rfl, ge140_0⟩ := hMe140
                 have hv140_0 := hcc140 0 _ rfl
                 rw [Nat.add_zero, show ((Kd.slice 3 (Kd.int .i64))).sz = 1 from rfl, Nat.mul_one] at hv140_0
                 replace hv140_0 := Option.some.inj (hv140_0.symm.trans hx140_0)
                 rw [hv140_0] at ge140_0
                 have HL140_0 := a_ (show Kd.R (Kd.int .i64) 3 _ _ _ _ (rd_L1 t137 x63_2) from ge140_0)
                 clear hv140_0 ge140_0
                 clear hcc140 hce140
                 have HR140_0 := Aside0.mk hi140_0
                 have HC140_0 := Aside0.mk hl140_0
                 clear hi140_0 hl140_0
                 replace p140 := eq_true p140
                 replace q140 := eq_true q140
                 try go_wp2
                 replace HO_15 := a_ (Kd.S_drew HO_15.out)
                 replace HO_61 := a_ (Kd.S_drew HO_61.out)
                 replace HO_137001 := a_ (Kd.R_drew HO_137001.out)
                 replace HO_137002 := a_ (Kd.R_drew HO_137002.out)
                 replace HL140_0 := a_ (Kd.R_drew HL140_0.out)
                 replace BK119 := a_ (blk_drew BK119.out)
                 replace BK120 := a_ (blk_drew BK120.out)
                 replace BK136 := a_ (blk_drew BK136.out)
                 replace HR140_0 := a_ (Kd.C_drew HR140_0.out)
                 replace HB := a_ (below_drew1 HB.out)
                 have p141 : 0 ≤ (1 : Int) := (by omega)
                 have q141 : 1 < ((rd_L1 t137 x63_2).length : Int) := of_decide_eq_true (by first | (with_reducible assumption) | assumption)
                 obtain ⟨ad141, e141, hx141_0⟩ := Kd.at_int (by repeat (first | (with_reducible exact HR140_0.out) | (with_reducible refine Kd.C_alloc ?_ _) | (with_reducible refine Kd.C_drewN ?_ _) | (with_reducible refine Kd.C_drew ?_) | exact HR140_0.out)) 1 p141 q141
                 cases e141
                 (try simp only [show (1 : Int).toNat = 1 from rfl, Nat.reduceMul, Nat.reduceEqDiff, Go.Addr.add, ↓reduceIte] at hx141_0)
                 have qi141 : (1 < (rd_L1 t137 x63_2).length) = True := eq_true (by omega)
                 (try rw [show ((1 : Int)).toNat = 1 from rfl] at hx141_0)
                 replace p141 := eq_true p141
                 replace q141 := eq_true q141
                 have p142 : 0 ≤ (0 : Int) := (by omega)
                 have q142 : 0 < ((rd_L1 t137 x63_2).length : Int) := of_decide_eq_true (by first | (with_reducible assumption) | assumption)
                 obtain ⟨ad142, e142, hx142_0⟩ := Kd.at_int (by repeat (first | (with_reducible exact HR140_0.out) | (with_reducible refine Kd.C_alloc ?_ _) | (with_reducible refine Kd.C_drewN ?_ _) | (with_reducible refine Kd.C_drew ?_) | exact HR140_0.out)) 0 p142 q142
                 obtain rfl : ad141 = ad142 := (by injection e142)
                 have qi142 : (0 < (rd_L1 t137 x63_2).length) = True := eq_true (by omega)
                 (try rw [show ((0 : Int)).toNat = 0 from rfl] at hx142_0)
                 (try rw [Addr.add_zero'] at hx142_0)
                 replace p142 := eq_true p142
                 replace q142 := eq_true q142
                 refine start_ (n := 11) (S := fun w' => w'.cell? ⟨gb119, 0, none⟩ = some (.int .i64 a0_0) ∧ w'.cell? ⟨gb119, 1, none⟩ = some (.slice A0_1 l0_1.length c0_1) ∧ w'.cell? ⟨gb119, 2, none⟩ = some (.slice A0_2 l0_2.length c0_2) ∧ w'.cell? ⟨ad141.block, ad141.off + 1, none⟩ = some (.int .i64 (rd (rd_L1 t137 x63_2) 1)) ∧ w'.cell? ad141 = some (.int .i64 (rd (rd_L1 t137 x63_2) 0))) (ds := []) #[false, false, false, false, false, false, false, false, false, false, false] (by kernel_rfl) rfl rfl ⟨(blk_cell BK119.out 0).trans rfl, (blk_cell BK119.out 1).trans rfl, (blk_cell BK119.out 2).trans rfl, hx141_0, hx142_0⟩ (fun hHeld => ?_); refine with_tabW spec_AddRay.tab8 spec_AddRay.bits8 (fun HT_ HW_ => ?_)
                 generalize wr.drew = w72 at HO_15 HO_61 HO_137001 HO_137002 HL140_0 BK119 BK120 BK136 HR140_0 HB hx141_0 hx142_0 hHeld ⊢
                 refine pure_ (i := 0) (N := some 68) (v := ?_) (a' := ?_) #[true, false, false, false, false, false, false, false, false, false, false] rfl rfl (any_of HT_.out (by kernel_rfl)) (fun _ _ _ h => h) (Or.inl ⟨by rfl, ?_⟩) ?_ ?_
                 rotate_left
                 ·intro w'
                  go_simp
                  with_reducible rfl
                 rotate_left
                 ·simp only [Act.put, sB, sC, sD, i64_w, i32_w]
                  rfl
                 refine pure_ (i := 1) (N := some 69) (v := ?_) (a' := ?_) #[true, true, false, false, false, false, false, false, false, false, false] rfl rfl (any_of HT_.out (by kernel_rfl)) (fun _ _ _ h => h) (Or.inl ⟨by rfl, ?_⟩) ?_ ?_
                 rotate_left
                 ·intro w'
                  go_simp
                  with_reducible rfl
                 rotate_left
                 ·simp only [Act.put, sB, sC, sD, i64_w, i32_w]
                  rfl
                 refine pure_ (i := 3) (N := some 71) (v := ?_) (a' := ?_) #[true, true, false, true, false, false, false, false, false, false, false] rfl rfl (any_of HT_.out (by kernel_rfl)) (fun _ _ _ h => h) (Or.inl ⟨by rfl, ?_⟩) ?_ ?_
                 rotate_left
                 ·intro w'
                  go_simp
                  with_reducible rfl
                 rotate_left
                 ·simp only [Act.put, sB, sC, sD, i64_w, i32_w]
                  rfl
                 refine pure_ (i := 6) (N := some 74) (v := ?_) (a' := ?_) #[true, true, false, true, false, false, true, false, false, false, false] rfl rfl (any_of HT_.out (by kernel_rfl)) (fun _ _ _ h => h) (Or.inl ⟨by rfl, ?_⟩) ?_ ?_
                 rotate_left
                 ·intro w'
                  go_simp
                  with_reducible rfl
                 rotate_left
                 ·simp only [Act.put, sB, sC, sD, i64_w, i32_w]
                  rfl
                 refine pure_ (i := 7) (N := some 75) (v := ?_) (a' := ?_) #[true, true, false, true, false, false, true, true, false, false, false] rfl rfl (any_of HT_.out (by kernel_rfl)) (fun _ _ _ h => h) (Or.inl ⟨by rfl, ?_⟩) ?_ ?_
                 rotate_left
                 ·intro w'
                  go_simp
                  with_reducible rfl
                 rotate_left
                 ·simp only [Act.put, sB, sC, sD, i64_w, i32_w]
                  rfl
                 refine take_ (i := 2) (N := some 70) (v := ?_) (a' := ?_) #[true, true, true, true, false, false, true, true, false, false, false] rfl rfl (take_ofW HT_.out HW_.out (by kernel_rfl)) (fun _ _ _ h => h) (Or.inl ⟨by rfl, ?_⟩) hHeld ?_ ?_
                 rotate_left
                 ·rintro w' ⟨s0, s1, s2, s3, s4⟩
                  go_simp
                  with_reducible rfl
                 rotate_left
                 ·simp only [Act.put, sB, sC, sD, i64_w, i32_w]
                  rfl
                 refine take_ (i := 4) (N := some 72) (v := ?_) (a' := ?_) #[true, true, true, true, true, false, true, true, false, false, false] rfl rfl (take_ofW HT_.out HW_.out (by kernel_rfl)) (fun _ _ _ h => h) (Or.inl ⟨by rfl, ?_⟩) hHeld ?_ ?_
                 rotate_left
                 ·rintro w' ⟨s0, s1, s2, s3, s4⟩
                  go_simp
                  with_reducible rfl
                 rotate_left
                 ·simp only [Act.put, sB, sC, sD, i64_w, i32_w]
                  rfl
                 refine pure_ (i := 5) (N := some 73) (v := ?_) (a' := ?_) #[true, true, true, true, true, true, true, true, false, false, false] rfl rfl (any_of HT_.out (by kernel_rfl)) (fun _ _ _ h => h) (Or.inl ⟨by rfl, ?_⟩) ?_ ?_
                 rotate_left
                 ·intro w'
                  go_simp
                  with_reducible rfl
                 rotate_left
                 ·simp only [Act.put, sB, sC, sD, i64_w, i32_w]
                  rfl
                 refine take_ (i := 8) (N := some 76) (v := ?_) (a' := ?_) #[true, true, true, true, true, true, true, true, true, false, false] rfl rfl (take_ofW HT_.out HW_.out (by kernel_rfl)) (fun _ _ _ h => h) (Or.inl ⟨by rfl, ?_⟩) hHeld ?_ ?_
                 rotate_left
                 ·rintro w' ⟨s0, s1, s2, s3, s4⟩
                  go_simp
                  with_reducible rfl
                 rotate_left
                 ·simp only [Act.put, sB, sC, sD, i64_w, i32_w]
                  rfl
                 refine pure_ (i := 9) (N := some 77) (v := ?_) (a' := ?_) #[true, true, true, true, true, true, true, true, true, true, false] rfl rfl (any_of HT_.out (by kernel_rfl)) (fun _ _ _ h => h) (Or.inl ⟨by rfl, ?_⟩) ?_ ?_
                 rotate_left
                 ·intro w'
                  go_simp
                  with_reducible rfl
                 rotate_left
                 ·simp only [Act.put, sB, sC, sD, i64_w, i32_w]
                  rfl
                 refine pure_ (i := 10) (N := some 18) (v := ?_) (a' := ?_) #[true, true, true, true, true, true, true, true, true, true, true] rfl rfl (any_of HT_.out (by kernel_rfl)) (fun _ _ _ h => h) (Or.inl ⟨by rfl, ?_⟩) ?_ ?_
                 rotate_left
                 ·intro w'
                  go_simp
                  with_reducible rfl
                 rotate_left
                 ·simp only [Act.put, sB, sC, sD, i64_w, i32_w]
                  rfl
                 refine done_ (done_of HT_.out (by kernel_rfl)) ?_
                 have hnb73 := NB136_119.out
                 have hnc73 := NB119_136.out
                 have hnb74 := NB136_120.out
                 have hnc74 := NB120_136.out
                 have hcz75_0 : _ = some (Value.int .i64 a0_0) := (blk_cell BK136.out 0).trans rfl
                 have hcz75_1 : w72.cell? ⟨gb136, 1, none⟩ = some (u137001) := (blk_cell BK136.out 1).trans rfl
                 have hcz75_2 : w72.cell? ⟨gb136, 2, none⟩ = some (u137002) := (blk_cell BK136.out 2).trans rfl
                 have hfz75_0 := blk_frozen BK136.out 0
                 have hfz75_1 := blk_frozen BK136.out 1
                 have hfz75_2 := blk_frozen BK136.out 2
                 obtain ⟨Ao76, co76, eo76⟩ := Kd.R_slice HO_137002.out
                 subst eo76
                 have p145 : 0 ≤ ((ji68) : Int) := of_decide_eq_true (by first | (with_reducible assumption) | assumption)
                 have q145 : (ji68) < (x137002_2.length : Int) := of_decide_eq_true (by first | (with_reducible assumption) | assumption)
                 obtain ⟨ad145, e145, hx145_0⟩ := Kd.at_int (Kd.R_reads' HO_137002.out).2.2 (ji68) p145 q145
                 cases e145
                 replace p145 := eq_true p145
                 replace q145 := eq_true q145
                 have p71 : 0 ≤ ((ji68) : Int) := of_decide_eq_true (by first | (with_reducible assumption) | assumption)
                 have q71 : ((ji68) : Int) < ((x137002_2.length : Int) : Int) := of_decide_eq_true (by first | (with_reducible assumption) | assumption)
                 obtain ⟨go71, co71, eo71, gb71, gl71, cl71, HG71⟩ := Kd.R_form HO_137002.out (by omega)
                 (first | cases eo71 | (injection eo71 with ea_ en_ ec_; (first | subst ea_ | (injection ea_ with ea_; subst ea_)); subst ec_; clear en_))
                 have GB71 := Aside0.mk gb71
                 have GG71 := Aside0.mk HG71
                 clear gb71 gl71 HG71
                 (first | simp only [add_plain] at hx145_0 | skip)
                 obtain ⟨hx71_0, hf71_0⟩ := Kd.R_celln 0 HO_137002.out ((ji68) : Int) p71 q71
                 replace p71 := eq_true p71
                 replace q71 := eq_true q71
                 obtain ⟨hy77_, hz77_⟩ := Kd.R_celln 0 HO_137002.out ((ji68) : Int) (of_decide_eq_true (by first | (with_reducible assumption) | assumption)) (of_decide_eq_true (by first | (with_reducible assumption) | assumption))
                 have HP77 := Kd.R_putg HO_137002.out ((ji68) : Int) (wrap64 ((rd x137002_2 (ji68)) + 1))
                 try go_wp2_with (first | ((with_reducible refine gate_store (t := 3) (p := 99) rfl ?_); refine store_event (t := 3) (p := 99) (v := ?vo_w78) (w1 := (w72.setCell ⟨go71, ((ji68) : Int).toNat, none⟩ (.int .i64 (wrap64 ((rd x137002_2 (ji68)) + 1))))) ?hg ?ho ?hn ?hr ?_; (case ho => rfl); (case hg => rfl); (case hn => rfl); (case hr => first | (go_simp; done) | (go_simp; rfl)); intro w78 hw; have hg : w72.grownBy w78 (some go71) := (by rw [hw]; exact HP77.2); have hp_ : Kd.R (Kd.int .i64) 3 w78 w.heap.size (fun k_ => some k_ ≠ (u137001 : Value).ownBlock) (.slice (some ⟨go71, 0, none⟩) x137002_2.length co76) y146 := (by rw [hw, Ny146.out]; exact HP77.1); clear HP77; replace HO_15 := a_ (Kd.S_after (v := (.slice (some ⟨go71, 0, none⟩) x137002_2.length co76)) (v1 := (.slice (some ⟨go71, 0, none⟩) x137002_2.length co76)) (ok := (fun k_ => some k_ ≠ (u137001 : Value).ownBlock)) (by (with_reducible repeat (first | apply Kd.S_alloc | apply Kd.S_drewN | apply Kd.S_drew)); exact HO_15.out) hg (.inl rfl)); replace HO_61 := a_ (Kd.S_after (v := (.slice (some ⟨go71, 0, none⟩) x137002_2.length co76)) (v1 := (.slice (some ⟨go71, 0, none⟩) x137002_2.length co76)) (ok := (fun k_ => some k_ ≠ (u137001 : Value).ownBlock)) (by (with_reducible repeat (first | apply Kd.S_alloc | apply Kd.S_drewN | apply Kd.S_drew)); exact HO_61.out) hg (.inl rfl)); replace HO_137001 := a_ (Kd.R_after (v := (.slice (some ⟨go71, 0, none⟩) x137002_2.length co76)) (v1 := (.slice (some ⟨go71, 0, none⟩) x137002_2.length co76)) (ok := (fun _ => True)) (rk (Kd.R_mono HO_137001.out (fun _ hk => ⟨trivial, hk⟩))) hg (.inl rfl)); replace BK119 := a_ (blk_grown (pk BK119.out) hg (Kd.R_ne HO_137002.out BK119.out (by decide))); replace BK120 := a_ (blk_grown (pk BK120.out) hg (Kd.R_ne HO_137002.out BK120.out (by decide))); replace BK136 := a_ (blk_grown (pk BK136.out) hg (Kd.R_ne HO_137002.out BK136.out (by decide))); replace HO_137002 := a_ (hp_); replace HL140_0 := a_ (Kd.R_after (v := (.slice (some ⟨go71, 0, none⟩) x137002_2.length co76)) (v1 := (.slice (some ⟨go71, 0, none⟩) x137002_2.length co76)) (ok := (fun k_ => some k_ ≠ (.slice (some ad140) t137.length co49 : Value).ownBlock ∧ some k_ ≠ (u137001 : Value).ownBlock)) (rk (Kd.R_mono HL140_0.out (fun _ hk => ⟨⟨hk.2, hk.1.1⟩, hk.1.2⟩))) hg (.inl rfl)); replace HB := a_ (by rw [hw]; exact below_set (HB.out) GB71.out : Below w.heap.size w w78); clear hg hw hp_))
                 go_roundg k2
                 case measure => have := HJ6.out; have := HK2.out; omega
                 case rel => exact ⟨(wrap64 (x63_2 + 1)), (x137001_2), (y146), (u137001), (.slice (some ⟨go71, 0, none⟩) x137002_2.length co76), (by first | rfl | (simp; done) | (simp [*]; done)), H', ⟨by have := HJ6.out; have := HK2.out; omega⟩, ⟨by (with_reducible repeat (first | apply Kd.S_alloc | apply Kd.S_drewN | apply Kd.S_drew)); exact HO_15.out⟩, ⟨by (with_reducible repeat (first | apply Kd.S_alloc | apply Kd.S_drewN | apply Kd.S_drew)); exact HO_61.out⟩, ⟨rk (Kd.R_mono HO_137001.out (fun _ hk => hk.2))⟩, ⟨rk (HO_137002.out)⟩, ⟨pk BK119.out⟩, ⟨pk BK120.out⟩, ⟨pk BK136.out⟩, ⟨by repeat (with_reducible first | exact HB.out | refine bz ?_ (by assumption) | apply bA | apply bN | apply bD)⟩⟩
                ·rw [if_neg c70] at H
                 exact absurd H (by simp)
               ·rw [if_neg c69] at H
                exact absurd H (by simp)
             ·rw [if_neg c55] at H
              have c55b0 : (x63_2 == (wrap64 ((t137.length : Int) - 1))) = false := beq_eq_false_iff_ne.mpr c55
              have c55b1 : (x63_2 != (wrap64 ((t137.length : Int) - 1))) = true := bne_iff_ne.mpr c55
              obtain ⟨ji79, hji79⟩ : ∃ j_ : Int, (wrap64 ((wrap64 ((rd (rd_L1 t137 x63_2) 1) * a0_0)) + (rd (rd_L1 t137 x63_2) 0))) = j_ := ⟨_, rfl⟩
              replace H : (if 0 ≤ (ji79) then (if (ji79) < (x137002_2.length : Int) then (spec_AddRay.l0 k2 a5 t137 t137 (t137.length : Int) (wrap64 (x63_2 + 1)) a0_0 l0_1 l0_2 a0_0 x137001_2 (x137002_2.set ((ji79) : Int).toNat (wrap64 ((rd x137002_2 (ji79)) + 1)))) else (none)) else (none)) = some (r1, r2, r3, r4) := by first | (rw [hji79] at H; exact H) | (simp only [hji79] at H ⊢; exact H)
              have hji79w : (IntKind.i64.wrap ((wrap64 ((rd (rd_L1 t137 x63_2) 1) * a0_0)) + (rd (rd_L1 t137 x63_2) 0))) = ji79 := (i64_w _).trans hji79
              by_cases c80 : 0 ≤ (ji79)
              ·rw [if_pos c80] at H
               have c80b0 : decide (0 ≤ (ji79)) = true := decide_eq_true c80
               clear c80
               by_cases c81 : (ji79) < (x137002_2.length : Int)
               ·rw [if_pos c81] at H
                have c81b0 : decide ((ji79) < (x137002_2.length : Int)) = true := decide_eq_true c81
                clear c81
                obtain ⟨y148, hy148⟩ : ∃ y_ : List Int, y_ = (x137002_2.set ((ji79) : Int).toNat (wrap64 ((rd x137002_2 (ji79)) + 1))) := ⟨_, rfl⟩
                replace H : (spec_AddRay.l0 k2 a5 t137 t137 (t137.length : Int) (wrap64 (x63_2 + 1)) a0_0 l0_1 l0_2 a0_0 x137001_2 y148) = some (r1, r2, r3, r4) := by first | (rw [hy148]; with_reducible exact H) | (have H2_ := (Option.bind_some _ _).symm.trans H; rw [hy148]; with_reducible exact H2_) | (have H2_ := (Option.bind_some _ _).symm.trans H; with_reducible exact H2_) | with_reducible exact H | (rw [hy148]; exact H) | exact H
                have Ny148 := Aside0.mk hy148
                clear hy148
                have H' := Aside0.mk H
                clear H
                have p140 : 0 ≤ (x63_2 : Int) := of_decide_eq_true (by first | (with_reducible assumption) | assumption)
                have q140 : x63_2 < (t137.length : Int) := of_decide_eq_true (by first | (with_reducible assumption) | assumption)
                obtain ⟨ad140, A140_0, c140_0, e140, hx140_0, hl140_0, hi140_0⟩ := at_L1 (Kd.S_reads' HO_61.out).2.2 x63_2 p140 q140
                cases e140
                obtain ⟨ce140, hce140, hMe140, hcc140⟩ := Kd.S_get HO_61.out [] x63_2 p140 (by first | exact q140 | exact of_decide_eq_true (by first | (with_reducible assumption) | assumption) | (have e_ := (Kd.S_reads' HO_61.out).1; omega))
                obtain ⟨ve140_0, rfl, ge140_0⟩ := hMe140
                have hv140_0 := hcc140 0 _ rfl
                rw [Nat.add_zero, show ((Kd.slice 3 (Kd.int .i64))).sz = 1 from rfl, Nat.mul_one] at hv140_0
                replace hv140_0 := Option.some.inj (hv140_0.symm.trans hx140_0)
                rw [hv140_0] at ge140_0
                have HL140_0 := a_ (show Kd.R (Kd.int .i64) 3 _ _ _ _ (rd_L1 t137 x63_2) from ge140_0)
                clear hv140_0 ge140_0
                clear hcc140 hce140
                have HR140_0 := Aside0.mk hi140_0
                have HC140_0 := Aside0.mk hl140_0
                clear hi140_0 hl140_0
                replace p140 := eq_true p140
                replace q140 := eq_true q140
                try go_wp2
                replace HO_15 := a_ (Kd.S_drew HO_15.out)
                replace HO_61 := a_ (Kd.S_drew HO_61.out)
                replace HO_137001 := a_ (Kd.R_drew HO_137001.out)
                replace HO_137002 := a_ (Kd.R_drew HO_137002.out)
                replace HL140_0 := a_ (Kd.R_drew HL140_0.out)
                replace BK119 := a_ (blk_drew BK119.out)
                replace BK120 := a_ (blk_drew BK120.out)
                replace BK136 := a_ (blk_drew BK136.out)
                replace HR140_0 := a_ (Kd.C_drew HR140_0.out)
                replace HB := a_ (below_drew1 HB.out)
                have p141 : 0 ≤ (1 : Int) := (by omega)
                have q141 : 1 < ((rd_L1 t137 x63_2).length : Int) := of_decide_eq_true (by first | (with_reducible assumption) | assumption)
                obtain ⟨ad141, e141, hx141_0⟩ := Kd.at_int (by repeat (first | (with_reducible exact HR140_0.out) | (with_reducible refine Kd.C_alloc ?_ _) | (with_reducible refine Kd.C_drewN ?_ _) | (with_reducible refine Kd.C_drew ?_) | exact HR140_0.out)) 1 p141 q141
                cases e141
                (try simp only [show (1 : Int).toNat = 1 from rfl, Nat.reduceMul, Nat.reduceEqDiff, Go.Addr.add, ↓reduceIte] at hx141_0)
                have qi141 : (1 < (rd_L1 t137 x63_2).length) = True := eq_true (by omega)
                (try rw [show ((1 : Int)).toNat = 1 from rfl] at hx141_0)
                replace p141 := eq_true p141
                replace q141 := eq_true q141
                have p142 : 0 ≤ (0 : Int) := (by omega)
                have q142 : 0 < ((rd_L1 t137 x63_2).length : Int) := of_decide_eq_true (by first | (with_reducible assumption) | assumption)
                obtain ⟨ad142, e142, hx142_0⟩ := Kd.at_int (by repeat (first | (with_reducible exact HR140_0.out) | (with_reducible refine Kd.C_alloc ?_ _) | (with_reducible refine Kd.C_drewN ?_ _) | (with_reducible refine Kd.C_drew ?_) | exact HR140_0.out)) 0 p142 q142
                obtain rfl : ad141 = ad142 := (by injection e142)
                have qi142 : (0 < (rd_L1 t137 x63_2).length) = True := eq_true (by omega)
                (try rw [show ((0 : Int)).toNat = 0 from rfl] at hx142_0)
                (try rw [Addr.add_zero'] at hx142_0)
                replace p142 := eq_true p142
                replace q142 := eq_true q142
                refine start_ (n := 11) (S := fun w' => w'.cell? ⟨gb119, 0, none⟩ = some (.int .i64 a0_0) ∧ w'.cell? ⟨gb119, 1, none⟩ = some (.slice A0_1 l0_1.length c0_1) ∧ w'.cell? ⟨gb119, 2, none⟩ = some (.slice A0_2 l0_2.length c0_2) ∧ w'.cell? ⟨ad141.block, ad141.off + 1, none⟩ = some (.int .i64 (rd (rd_L1 t137 x63_2) 1)) ∧ w'.cell? ad141 = some (.int .i64 (rd (rd_L1 t137 x63_2) 0))) (ds := []) #[false, false, false, false, false, false, false, false, false, false, false] (by kernel_rfl) rfl rfl ⟨(blk_cell BK119.out 0).trans rfl, (blk_cell BK119.out 1).trans rfl, (blk_cell BK119.out 2).trans rfl, hx141_0, hx142_0⟩ (fun hHeld => ?_); refine with_tabW spec_AddRay.tab8 spec_AddRay.bits8 (fun HT_ HW_ => ?_)
                generalize wr.drew = w83 at HO_15 HO_61 HO_137001 HO_137002 HL140_0 BK119 BK120 BK136 HR140_0 HB hx141_0 hx142_0 hHeld ⊢
                refine pure_ (i := 0) (N := some 68) (v := ?_) (a' := ?_) #[true, false, false, false, false, false, false, false, false, false, false] rfl rfl (any_of HT_.out (by kernel_rfl)) (fun _ _ _ h => h) (Or.inl ⟨by rfl, ?_⟩) ?_ ?_
                rotate_left
                ·intro w'
                 go_simp
                 with_reducible rfl
                rotate_left
                ·simp only [Act.put, sB, sC, sD, i64_w, i32_w]
                 rfl
                refine pure_ (i := 1) (N := some 69) (v := ?_) (a' := ?_) #[true, true, false, false, false, false, false, false, false, false, false] rfl rfl (any_of HT_.out (by kernel_rfl)) (fun _ _ _ h => h) (Or.inl ⟨by rfl, ?_⟩) ?_ ?_
                rotate_left
                ·intro w'
                 go_simp
                 with_reducible rfl
                rotate_left
                ·simp only [Act.put, sB, sC, sD, i64_w, i32_w]
                 rfl
                refine pure_ (i := 3) (N := some 71) (v := ?_) (a' := ?_) #[true, true, false, true, false, false, false, false, false, false, false] rfl rfl (any_of HT_.out (by kernel_rfl)) (fun _ _ _ h => h) (Or.inl ⟨by rfl, ?_⟩) ?_ ?_
                rotate_left
                ·intro w'
                 go_simp
                 with_reducible rfl
                rotate_left
                ·simp only [Act.put, sB, sC, sD, i64_w, i32_w]
                 rfl
                refine pure_ (i := 6) (N := some 74) (v := ?_) (a' := ?_) #[true, true, false, true, false, false, true, false, false, false, false] rfl rfl (any_of HT_.out (by kernel_rfl)) (fun _ _ _ h => h) (Or.inl ⟨by rfl, ?_⟩) ?_ ?_
                rotate_left
                ·intro w'
                 go_simp
                 with_reducible rfl
                rotate_left
                ·simp only [Act.put, sB, sC, sD, i64_w, i32_w]
                 rfl
                refine pure_ (i := 7) (N := some 75) (v := ?_) (a' := ?_) #[true, true, false, true, false, false, true, true, false, false, false] rfl rfl (any_of HT_.out (by kernel_rfl)) (fun _ _ _ h => h) (Or.inl ⟨by rfl, ?_⟩) ?_ ?_
                rotate_left
                ·intro w'
                 go_simp
                 with_reducible rfl
                rotate_left
                ·simp only [Act.put, sB, sC, sD, i64_w, i32_w]
                 rfl
                refine take_ (i := 2) (N := some 70) (v := ?_) (a' := ?_) #[true, true, true, true, false, false, true, true, false, false, false] rfl rfl (take_ofW HT_.out HW_.out (by kernel_rfl)) (fun _ _ _ h => h) (Or.inl ⟨by rfl, ?_⟩) hHeld ?_ ?_
                rotate_left
                ·rintro w' ⟨s0, s1, s2, s3, s4⟩
                 go_simp
                 with_reducible rfl
                rotate_left
                ·simp only [Act.put, sB, sC, sD, i64_w, i32_w]
                 rfl
                refine take_ (i := 4) (N := some 72) (v := ?_) (a' := ?_) #[true, true, true, true, true, false, true, true, false, false, false] rfl rfl (take_ofW HT_.out HW_.out (by kernel_rfl)) (fun _ _ _ h => h) (Or.inl ⟨by rfl, ?_⟩) hHeld ?_ ?_
                rotate_left
                ·rintro w' ⟨s0, s1, s2, s3, s4⟩
                 go_simp
                 with_reducible rfl
                rotate_left
                ·simp only [Act.put, sB, sC, sD, i64_w, i32_w]
                 rfl
                refine pure_ (i := 5) (N := some 73) (v := ?_) (a' := ?_) #[true, true, true, true, true, true, true, true, false, false, false] rfl rfl (any_of HT_.out (by kernel_rfl)) (fun _ _ _ h => h) (Or.inl ⟨by rfl, ?_⟩) ?_ ?_
                rotate_left
                ·intro w'
                 go_simp
                 with_reducible rfl
                rotate_left
                ·simp only [Act.put, sB, sC, sD, i64_w, i32_w]
                 rfl
                refine take_ (i := 8) (N := some 76) (v := ?_) (a' := ?_) #[true, true, true, true, true, true, true, true, true, false, false] rfl rfl (take_ofW HT_.out HW_.out (by kernel_rfl)) (fun _ _ _ h => h) (Or.inl ⟨by rfl, ?_⟩) hHeld ?_ ?_
                rotate_left
                ·rintro w' ⟨s0, s1, s2, s3, s4⟩
                 go_simp
                 with_reducible rfl
                rotate_left
                ·simp only [Act.put, sB, sC, sD, i64_w, i32_w]
                 rfl
                refine pure_ (i := 9) (N := some 77) (v := ?_) (a' := ?_) #[true, true, true, true, true, true, true, true, true, true, false] rfl rfl (any_of HT_.out (by kernel_rfl)) (fun _ _ _ h => h) (Or.inl ⟨by rfl, ?_⟩) ?_ ?_
                rotate_left
                ·intro w'
                 go_simp
                 with_reducible rfl
                rotate_left
                ·simp only [Act.put, sB, sC, sD, i64_w, i32_w]
                 rfl
                refine pure_ (i := 10) (N := some 18) (v := ?_) (a' := ?_) #[true, true, true, true, true, true, true, true, true, true, true] rfl rfl (any_of HT_.out (by kernel_rfl)) (fun _ _ _ h => h) (Or.inl ⟨by rfl, ?_⟩) ?_ ?_
                rotate_left
                ·intro w'
                 go_simp
                 with_reducible rfl
                rotate_left
                ·simp only [Act.put, sB, sC, sD, i64_w, i32_w]
                 rfl
                refine done_ (done_of HT_.out (by kernel_rfl)) ?_
                have hnb84 := NB136_119.out
                have hnc84 := NB119_136.out
                have hnb85 := NB136_120.out
                have hnc85 := NB120_136.out
                have hcz86_0 : _ = some (Value.int .i64 a0_0) := (blk_cell BK136.out 0).trans rfl
                have hcz86_1 : w83.cell? ⟨gb136, 1, none⟩ = some (u137001) := (blk_cell BK136.out 1).trans rfl
                have hcz86_2 : w83.cell? ⟨gb136, 2, none⟩ = some (u137002) := (blk_cell BK136.out 2).trans rfl
                have hfz86_0 := blk_frozen BK136.out 0
                have hfz86_1 := blk_frozen BK136.out 1
                have hfz86_2 := blk_frozen BK136.out 2
                obtain ⟨Ao87, co87, eo87⟩ := Kd.R_slice HO_137002.out
                subst eo87
                have p147 : 0 ≤ ((ji79) : Int) := of_decide_eq_true (by first | (with_reducible assumption) | assumption)
                have q147 : (ji79) < (x137002_2.length : Int) := of_decide_eq_true (by first | (with_reducible assumption) | assumption)
                obtain ⟨ad147, e147, hx147_0⟩ := Kd.at_int (Kd.R_reads' HO_137002.out).2.2 (ji79) p147 q147
                cases e147
                replace p147 := eq_true p147
                replace q147 := eq_true q147
                have p82 : 0 ≤ ((ji79) : Int) := of_decide_eq_true (by first | (with_reducible assumption) | assumption)
                have q82 : ((ji79) : Int) < ((x137002_2.length : Int) : Int) := of_decide_eq_true (by first | (with_reducible assumption) | assumption)
                obtain ⟨go82, co82, eo82, gb82, gl82, cl82, HG82⟩ := Kd.R_form HO_137002.out (by omega)
                (first | cases eo82 | (injection eo82 with ea_ en_ ec_; (first | subst ea_ | (injection ea_ with ea_; subst ea_)); subst ec_; clear en_))
                have GB82 := Aside0.mk gb82
                have GG82 := Aside0.mk HG82
                clear gb82 gl82 HG82
                (first | simp only [add_plain] at hx147_0 | skip)
                obtain ⟨hx82_0, hf82_0⟩ := Kd.R_celln 0 HO_137002.out ((ji79) : Int) p82 q82
                replace p82 := eq_true p82
                replace q82 := eq_true q82
                obtain ⟨hy88_, hz88_⟩ := Kd.R_celln 0 HO_137002.out ((ji79) : Int) (of_decide_eq_true (by first | (with_reducible assumption) | assumption)) (of_decide_eq_true (by first | (with_reducible assumption) | assumption))
                have HP88 := Kd.R_putg HO_137002.out ((ji79) : Int) (wrap64 ((rd x137002_2 (ji79)) + 1))
                try go_wp2_with (first | ((with_reducible refine gate_store (t := 3) (p := 99) rfl ?_); refine store_event (t := 3) (p := 99) (v := ?vo_w89) (w1 := (w83.setCell ⟨go82, ((ji79) : Int).toNat, none⟩ (.int .i64 (wrap64 ((rd x137002_2 (ji79)) + 1))))) ?hg ?ho ?hn ?hr ?_; (case ho => rfl); (case hg => rfl); (case hn => rfl); (case hr => first | (go_simp; done) | (go_simp; rfl)); intro w89 hw; have hg : w83.grownBy w89 (some go82) := (by rw [hw]; exact HP88.2); have hp_ : Kd.R (Kd.int .i64) 3 w89 w.heap.size (fun k_ => some k_ ≠ (u137001 : Value).ownBlock) (.slice (some ⟨go82, 0, none⟩) x137002_2.length co87) y148 := (by rw [hw, Ny148.out]; exact HP88.1); clear HP88; replace HO_15 := a_ (Kd.S_after (v := (.slice (some ⟨go82, 0, none⟩) x137002_2.length co87)) (v1 := (.slice (some ⟨go82, 0, none⟩) x137002_2.length co87)) (ok := (fun k_ => some k_ ≠ (u137001 : Value).ownBlock)) (by (with_reducible repeat (first | apply Kd.S_alloc | apply Kd.S_drewN | apply Kd.S_drew)); exact HO_15.out) hg (.inl rfl)); replace HO_61 := a_ (Kd.S_after (v := (.slice (some ⟨go82, 0, none⟩) x137002_2.length co87)) (v1 := (.slice (some ⟨go82, 0, none⟩) x137002_2.length co87)) (ok := (fun k_ => some k_ ≠ (u137001 : Value).ownBlock)) (by (with_reducible repeat (first | apply Kd.S_alloc | apply Kd.S_drewN | apply Kd.S_drew)); exact HO_61.out) hg (.inl rfl)); replace HO_137001 := a_ (Kd.R_after (v := (.slice (some ⟨go82, 0, none⟩) x137002_2.length co87)) (v1 := (.slice (some ⟨go82, 0, none⟩) x137002_2.length co87)) (ok := (fun _ => True)) (rk (Kd.R_mono HO_137001.out (fun _ hk => ⟨trivial, hk⟩))) hg (.inl rfl)); replace BK119 := a_ (blk_grown (pk BK119.out) hg (Kd.R_ne HO_137002.out BK119.out (by decide))); replace BK120 := a_ (blk_grown (pk BK120.out) hg (Kd.R_ne HO_137002.out BK120.out (by decide))); replace BK136 := a_ (blk_grown (pk BK136.out) hg (Kd.R_ne HO_137002.out BK136.out (by decide))); replace HO_137002 := a_ (hp_); replace HL140_0 := a_ (Kd.R_after (v := (.slice (some ⟨go82, 0, none⟩) x137002_2.length co87)) (v1 := (.slice (some ⟨go82, 0, none⟩) x137002_2.length co87)) (ok := (fun k_ => some k_ ≠ (.slice (some ad140) t137.length co49 : Value).ownBlock ∧ some k_ ≠ (u137001 : Value).ownBlock)) (rk (Kd.R_mono HL140_0.out (fun _ hk => ⟨⟨hk.2, hk.1.1⟩, hk.1.2⟩))) hg (.inl rfl)); replace HB := a_ (by rw [hw]; exact below_set (HB.out) GB82.out : Below w.heap.size w w89); clear hg hw hp_))
                go_roundg k2
                case measure => have := HJ6.out; have := HK2.out; omega
                case rel => exact ⟨(wrap64 (x63_2 + 1)), (x137001_2), (y148), (u137001), (.slice (some ⟨go82, 0, none⟩) x137002_2.length co87), (by first | rfl | (simp; done) | (simp [*]; done)), H', ⟨by have := HJ6.out; have := HK2.out; omega⟩, ⟨by (with_reducible repeat (first | apply Kd.S_alloc | apply Kd.S_drewN | apply Kd.S_drew)); exact HO_15.out⟩, ⟨by (with_reducible repeat (first | apply Kd.S_alloc | apply Kd.S_drewN | apply Kd.S_drew)); exact HO_61.out⟩, ⟨rk (Kd.R_mono HO_137001.out (fun _ hk => hk.2))⟩, ⟨rk (HO_137002.out)⟩, ⟨pk BK119.out⟩, ⟨pk BK120.out⟩, ⟨pk BK136.out⟩, ⟨by repeat (with_reducible first | exact HB.out | refine bz ?_ (by assumption) | apply bA | apply bN | apply bD)⟩⟩
               ·rw [if_neg c81] at H
                exact absurd H (by simp)
              ·rw [if_neg c80] at H
               exact absurd H (by simp)
            ·rw [if_neg c54] at H
             exact absurd H (by simp)
           ·rw [if_neg c53] at H
            exact absurd H (by simp)
          ·rw [if_neg c52] at H
           exact absurd H (by simp)
         ·rw [if_neg c51] at H
          exact absurd H (by simp)
        ·rw [if_neg c50] at H
         have c50b0 : decide (x63_2 < (t137.length : Int)) = false := decide_eq_false c50
         clear c50
         replace H := Option.bind_eq_some_iff.mp H
         obtain ⟨t149, A900, H⟩ := H
         replace H : (if t149 = true then (some (a0_0, x137001_2, x137002_2, true)) else (some (0, ([] : List Int), ([] : List Int), false))) = some (r1, r2, r3, r4) := H
         have A90 := Aside0.mk A900
         clear A900
         by_cases c91 : t149 = true
         ·subst c91
          have H1 : (some (a0_0, x137001_2, x137002_2, true)) = some (r1, r2, r3, r4) := by rw [if_pos rfl] at H; exact H
          clear H
          have H := H1
          clear H1
          simp only [Option.some.injEq, Prod.mk.injEq] at H
          obtain ⟨rfl, rfl, rfl, rfl⟩ := H
          have hnb92 := NB136_119.out
          have hnc92 := NB119_136.out
          have hnb93 := NB136_120.out
          have hnc93 := NB120_136.out
          have hcz94_0 : wr.cell? ⟨gb136, 0, none⟩ = some (.int .i64 a0_0) := (blk_cell BK136.out 0).trans rfl
          have hcz94_1 : wr.cell? ⟨gb136, 1, none⟩ = some (u137001) := (blk_cell BK136.out 1).trans rfl
          have hcz94_2 : wr.cell? ⟨gb136, 2, none⟩ = some (u137002) := (blk_cell BK136.out 2).trans rfl
          have hfz94_0 := blk_frozen BK136.out 0
          have hfz94_1 := blk_frozen BK136.out 1
          have hfz94_2 := blk_frozen BK136.out 2
          obtain ⟨Ao95, co95, eo95⟩ := Kd.R_slice HO_137001.out
          subst eo95
          obtain ⟨Ao96, co96, eo96⟩ := Kd.R_slice HO_137002.out
          subst eo96
          go_wp2_with (first | ((with_reducible refine gate_callee (f := 29) rfl ?_); refine goesL_ (some 102) rfl rfl Try.func29 (by kernel_rfl) rfl #[.agg #[.int .i64 a0_0, .slice Ao95 x137001_2.length co95, .slice Ao96 x137002_2.length co96]] rfl (by (try simp only [lA, lB, lC]); first | done | rfl | (simp only [lD, lE]; rfl)) ?_; (with_reducible refine (spec_GoodCounts.calls k2 a0_0 _ _ x137001_2 _ _ x137002_2 true _ ?side1 ?side2 ?side3 ?side4 A90.out).mono ?_); (case side1 => exact cu (Kd.R_reads' HO_137001.out).2.2); (case side2 => exact (Kd.R_reads' HO_137001.out).2.1); (case side3 => exact cu (Kd.R_reads' HO_137002.out).2.2); (case side4 => exact (Kd.R_reads' HO_137002.out).2.1); rintro e w97 ⟨rfl, hb⟩; refine ⟨_, rfl, ?_⟩; replace HO_15 := a_ (Kd.S_below (by (with_reducible repeat (first | apply Kd.S_alloc | apply Kd.S_drewN | apply Kd.S_drew)); exact HO_15.out) hb); replace HO_61 := a_ (Kd.S_below (by (with_reducible repeat (first | apply Kd.S_alloc | apply Kd.S_drewN | apply Kd.S_drew)); exact HO_61.out) hb); replace HO_137001 := a_ (Kd.R_below (rk HO_137001.out) hb); replace HO_137002 := a_ (Kd.R_below (rk HO_137002.out) hb); replace BK119 := a_ (blk_below (pk BK119.out) hb); replace BK120 := a_ (blk_below (pk BK120.out) hb); replace BK136 := a_ (blk_below (pk BK136.out) hb); replace HB := a_ (below_step (by repeat (with_reducible first | exact HB.out | refine bz ?_ (by assumption) | apply bA | apply bN | apply bD)) hb); clear hb; have hcz98_0 : _ = some (Value.int .i64 a0_0) := (blk_cell BK136.out 0).trans rfl; have hcz98_1 : _ = some (Value.slice Ao95 x137001_2.length co95) := (blk_cell BK136.out 1).trans rfl; have hcz98_2 : _ = some (Value.slice Ao96 x137002_2.length co96) := (blk_cell BK136.out 2).trans rfl; have hfz98_0 := blk_frozen BK136.out 0; have hfz98_1 := blk_frozen BK136.out 1; have hfz98_2 := blk_frozen BK136.out 2; have hnb99 := NB120_119.out; have hnc99 := NB119_120.out; have hcz100_0 : _ = some (Value.int .i64 0) := (blk_cell BK120.out 0).trans rfl; have hcz100_1 : _ = some (Value.slice none 0 0) := (blk_cell BK120.out 1).trans rfl; have hcz100_2 : _ = some (Value.slice none 0 0) := (blk_cell BK120.out 2).trans rfl; have hfz100_0 := blk_frozen BK120.out 0; have hfz100_1 := blk_frozen BK120.out 1; have hfz100_2 := blk_frozen BK120.out 2))
          refine bodyPost_ret (results_ct rfl _ _ gb120 31 #[.int .i64 a0_0, .slice Ao95 x137001_2.length co95, .slice Ao96 x137002_2.length co96] (0, 0) _ rfl (by refine pk ?_; refine blk_put (cs := #[.int .i64 a0_0, .slice Ao95 x137001_2.length co95, .slice none 0 0]) ?_ 2 _ rfl; refine pk ?_; refine blk_put (cs := #[.int .i64 a0_0, .slice none 0 0, .slice none 0 0]) ?_ 1 _ rfl; refine pk ?_; refine blk_put (cs := #[.int .i64 0, .slice none 0 0, .slice none 0 0]) ?_ 0 _ rfl; refine pk ?_; exact BK120.out) Try.underlying31 rfl (by kernel_rfl)) rfl ?_
          exact ⟨_, _, by first | rfl | (simp [errW_none, errW_some] <;> rfl) | (simp [*, errW_none, errW_some] <;> rfl), by refine rk ?_; exact Kd.R_mono (fr3 HO_137001.out BK120.out (by decide) 0 (.int .i64 a0_0) 1 (.slice Ao95 x137001_2.length co95) 2 (.slice Ao96 x137002_2.length co96)) (fun _ hk => hk.1), by refine rk ?_; exact Kd.R_mono (fr3 HO_137002.out BK120.out (by decide) 0 (.int .i64 a0_0) 1 (.slice Ao95 x137001_2.length co95) 2 (.slice Ao96 x137002_2.length co96)) (fun _ hk => hk.1), by repeat (with_reducible first | exact HB.out | refine bz ?_ (by assumption) | apply bA | apply bN | apply bD)⟩
         ·replace c91 := Bool.eq_false_iff.mpr c91
          subst c91
          have H1 : (some (0, ([] : List Int), ([] : List Int), false)) = some (r1, r2, r3, r4) := by rw [if_neg (show ¬ (false = true) by decide)] at H; exact H
          clear H
          have H := H1
          clear H1
          simp only [Option.some.injEq, Prod.mk.injEq] at H
          obtain ⟨rfl, rfl, rfl, rfl⟩ := H
          have hnb101 := NB136_119.out
          have hnc101 := NB119_136.out
          have hnb102 := NB136_120.out
          have hnc102 := NB120_136.out
          have hcz103_0 : wr.cell? ⟨gb136, 0, none⟩ = some (.int .i64 a0_0) := (blk_cell BK136.out 0).trans rfl
          have hcz103_1 : wr.cell? ⟨gb136, 1, none⟩ = some (u137001) := (blk_cell BK136.out 1).trans rfl
          have hcz103_2 : wr.cell? ⟨gb136, 2, none⟩ = some (u137002) := (blk_cell BK136.out 2).trans rfl
          have hfz103_0 := blk_frozen BK136.out 0
          have hfz103_1 := blk_frozen BK136.out 1
          have hfz103_2 := blk_frozen BK136.out 2
          obtain ⟨Ao104, co104, eo104⟩ := Kd.R_slice HO_137001.out
          subst eo104
          obtain ⟨Ao105, co105, eo105⟩ := Kd.R_slice HO_137002.out
          subst eo105
          go_wp2_with (first | ((with_reducible refine gate_callee (f := 29) rfl ?_); refine goesL_ (some 102) rfl rfl Try.func29 (by kernel_rfl) rfl #[.agg #[.int .i64 a0_0, .slice Ao104 x137001_2.length co104, .slice Ao105 x137002_2.length co105]] rfl (by (try simp only [lA, lB, lC]); first | done | rfl | (simp only [lD, lE]; rfl)) ?_; (with_reducible refine (spec_GoodCounts.calls k2 a0_0 _ _ x137001_2 _ _ x137002_2 false _ ?side1 ?side2 ?side3 ?side4 A90.out).mono ?_); (case side1 => exact cu (Kd.R_reads' HO_137001.out).2.2); (case side2 => exact (Kd.R_reads' HO_137001.out).2.1); (case side3 => exact cu (Kd.R_reads' HO_137002.out).2.2); (case side4 => exact (Kd.R_reads' HO_137002.out).2.1); rintro e w106 ⟨rfl, hb⟩; refine ⟨_, rfl, ?_⟩; replace HO_15 := a_ (Kd.S_below (by (with_reducible repeat (first | apply Kd.S_alloc | apply Kd.S_drewN | apply Kd.S_drew)); exact HO_15.out) hb); replace HO_61 := a_ (Kd.S_below (by (with_reducible repeat (first | apply Kd.S_alloc | apply Kd.S_drewN | apply Kd.S_drew)); exact HO_61.out) hb); replace HO_137001 := a_ (Kd.R_below (rk HO_137001.out) hb); replace HO_137002 := a_ (Kd.R_below (rk HO_137002.out) hb); replace BK119 := a_ (blk_below (pk BK119.out) hb); replace BK120 := a_ (blk_below (pk BK120.out) hb); replace BK136 := a_ (blk_below (pk BK136.out) hb); replace HB := a_ (below_step (by repeat (with_reducible first | exact HB.out | refine bz ?_ (by assumption) | apply bA | apply bN | apply bD)) hb); clear hb; have hnb107 := NB120_119.out; have hnc107 := NB119_120.out; have hcz108_0 : _ = some (Value.int .i64 0) := (blk_cell BK120.out 0).trans rfl; have hcz108_1 : _ = some (Value.slice none 0 0) := (blk_cell BK120.out 1).trans rfl; have hcz108_2 : _ = some (Value.slice none 0 0) := (blk_cell BK120.out 2).trans rfl; have hfz108_0 := blk_frozen BK120.out 0; have hfz108_1 := blk_frozen BK120.out 1; have hfz108_2 := blk_frozen BK120.out 2))
          refine bodyPost_ret (results_ct rfl _ _ gb120 31 #[.int .i64 0, .slice none 0 0, .slice none 0 0] (0, 0) _ rfl (by refine pk ?_; refine blk_put (cs := #[.int .i64 0, .slice none 0 0, .slice none 0 0]) ?_ 2 _ rfl; refine pk ?_; refine blk_put (cs := #[.int .i64 0, .slice none 0 0, .slice none 0 0]) ?_ 1 _ rfl; refine pk ?_; refine blk_put (cs := #[.int .i64 0, .slice none 0 0, .slice none 0 0]) ?_ 0 _ rfl; refine pk ?_; exact BK120.out) Try.underlying31 rfl (by kernel_rfl)) rfl ?_
          exact ⟨_, _, by first | rfl | (simp [errW_none, errW_some] <;> rfl) | (simp [*, errW_none, errW_some] <;> rfl), by first | exact Kd.R_nil _ _ _ _ _ | exact Kd.N_nil _ _ _ _ _ | exact Kd.V_nil _ _ _ _ _ | exact Kd.Q_nil _ _ _ _ _ | exact Kd.S_nil _ _ _ _ _, by first | exact Kd.R_nil _ _ _ _ _ | exact Kd.N_nil _ _ _ _ _ | exact Kd.V_nil _ _ _ _ _ | exact Kd.Q_nil _ _ _ _ _ | exact Kd.S_nil _ _ _ _ _, by repeat (with_reducible first | exact HB.out | refine bz ?_ (by assumption) | apply bA | apply bN | apply bD)⟩
     ·rw [if_neg c30] at H
      exact absurd H (by simp)
    ·rw [if_neg c29] at H
     exact absurd H (by simp)

end Go.Proofs.Ytgkjnocjdonjdaa.PFnCounts
