-- Written by a program of this session out of the loaded functions' print; helper lemmas as print.sh lays them.
import Derived.Test.YtgkjnocjdonjdaaUp2
import Derived.Test.YtgkjnocjdonjdaaUp
import Derived.Test.YtgkjnocjdonjdaaRFnExactAddRayx0
import Derived.Test.YtgkjnocjdonjdaaRFnExactAddRayx1
import Derived.Test.YtgkjnocjdonjdaaRFnExactAddRayx2
namespace Go.Proofs.Ytgkjnocjdonjdaa.PFnExactAddRay
open Go.RowKit Go.Proofs.YtgkjnocjdonjdaaW.PrintWords Go.Proofs.YtgkjnocjdonjdaaW.PrintLast Go.Proofs.YtgkjnocjdonjdaaW.PrintMore
attribute [local go_sem] max2_int min2_int max_two min_two max_three min_three max_four min_four  -- for this text's walks alone
theorem ev_tmp_3 {a : Act} {i : Nat} {v : Value} (h : a.tmps[i]? = some v) : a.eval (.tmp i) = v := by show a.tmps.getD i undef = v; rw [Array.getD_eq_getD_getElem?, h]; rfl
set_option linter.unusedVariables false
set_option linter.unusedSimpArgs false

/-! ### spec_AddRay: function 12 -/
mutual
def spec_AddRay.j0 : Nat → Int → Int → Int → Int → Bool → Bool → Int → List Int → List Int → Option (Int × List Int × List Int × Bool)
 | 0, _, _, _, _, _, _, _, _, _ => none
 | k + 1, x1, x2, x3, x4, x5, x43, x123000, x123001, x123002 => if x43 = true then (some (0, ([] : List Int), ([] : List Int), false)) else ((some (([] : List Int) : List Int)).bind fun y127 => (if y127.length + x123001.length < 17592186044416 then ((some (([] : List Int) : List Int)).bind fun y133 => (if y133.length + x123002.length < 17592186044416 then ((spec_LineCells.f k x1 x2 x3 x4).bind fun t140 => (spec_AddRay.l0 k x5 t140 t140 (t140.length : Int) 0 x123000 x123001 x123002 x123000 (y127 ++ x123001) (y133 ++ x123002))) else (none))) else (none)))
def spec_AddRay.l0 : Nat → Bool → List (List Int) → List (List Int) → Int → Int → Int → List Int → List Int → Int → List Int → List Int → Option (Int × List Int × List Int × Bool)
 | 0, _, _, _, _, _, _, _, _, _, _, _ => none
 | k + 1, x5, x15, x61, x62, x63, x123000, x123001, x123002, x140000, x140001, x140002 => if x63 < x62 then (if 0 ≤ x63 then (if x63 < (x61.length : Int) then (if 1 < ((rd_L1 x61 x63).length : Int) then (if 0 < ((rd_L1 x61 x63).length : Int) then (if x63 = (wrap64 ((x15.length : Int) - 1)) then (if x5 = true then (if 0 ≤ (wrap64 ((wrap64 ((rd (rd_L1 x61 x63) 1) * x123000)) + (rd (rd_L1 x61 x63) 0))) then (if (wrap64 ((wrap64 ((rd (rd_L1 x61 x63) 1) * x123000)) + (rd (rd_L1 x61 x63) 0))) < (x140001.length : Int) then (spec_AddRay.l0 k x5 x15 x61 x62 (wrap64 (x63 + 1)) x123000 x123001 x123002 x140000 (x140001.set ((wrap64 ((wrap64 ((rd (rd_L1 x61 x63) 1) * x123000)) + (rd (rd_L1 x61 x63) 0))) : Int).toNat (wrap64 ((rd x140001 (wrap64 ((wrap64 ((rd (rd_L1 x61 x63) 1) * x123000)) + (rd (rd_L1 x61 x63) 0)))) + 1))) x140002) else (none)) else (none)) else (if 0 ≤ (wrap64 ((wrap64 ((rd (rd_L1 x61 x63) 1) * x123000)) + (rd (rd_L1 x61 x63) 0))) then (if (wrap64 ((wrap64 ((rd (rd_L1 x61 x63) 1) * x123000)) + (rd (rd_L1 x61 x63) 0))) < (x140002.length : Int) then (spec_AddRay.l0 k x5 x15 x61 x62 (wrap64 (x63 + 1)) x123000 x123001 x123002 x140000 x140001 (x140002.set ((wrap64 ((wrap64 ((rd (rd_L1 x61 x63) 1) * x123000)) + (rd (rd_L1 x61 x63) 0))) : Int).toNat (wrap64 ((rd x140002 (wrap64 ((wrap64 ((rd (rd_L1 x61 x63) 1) * x123000)) + (rd (rd_L1 x61 x63) 0)))) + 1)))) else (none)) else (none))) else (if 0 ≤ (wrap64 ((wrap64 ((rd (rd_L1 x61 x63) 1) * x123000)) + (rd (rd_L1 x61 x63) 0))) then (if (wrap64 ((wrap64 ((rd (rd_L1 x61 x63) 1) * x123000)) + (rd (rd_L1 x61 x63) 0))) < (x140002.length : Int) then (spec_AddRay.l0 k x5 x15 x61 x62 (wrap64 (x63 + 1)) x123000 x123001 x123002 x140000 x140001 (x140002.set ((wrap64 ((wrap64 ((rd (rd_L1 x61 x63) 1) * x123000)) + (rd (rd_L1 x61 x63) 0))) : Int).toNat (wrap64 ((rd x140002 (wrap64 ((wrap64 ((rd (rd_L1 x61 x63) 1) * x123000)) + (rd (rd_L1 x61 x63) 0)))) + 1)))) else (none)) else (none))) else (none)) else (none)) else (none)) else (none)) else ((spec_GoodCounts.f k x140000 x140001 x140002).bind fun t152 => (if t152 = true then (some (x140000, x140001, x140002, true)) else (some (0, ([] : List Int), ([] : List Int), false))))
end
def spec_AddRay.f (k : Nat) (a0_0 : Int) (l0_1 : List Int) (l0_2 : List Int) (a1 : Int) (a2 : Int) (a3 : Int) (a4 : Int) (a5 : Bool) : Option (Int × List Int × List Int × Bool) := (spec_GoodCounts.f k a0_0 l0_1 l0_2).bind fun t124 => (if t124 = true then ((spec_l12Has.f a0_0 (l0_1.length : Int) a1 a2).bind fun t125 => (if t125 = true then ((spec_l12Has.f a0_0 (l0_1.length : Int) a3 a4).bind fun t126 => (spec_AddRay.j0 k a1 a2 a3 a4 a5 (!t126) a0_0 l0_1 l0_2)) else (spec_AddRay.j0 k a1 a2 a3 a4 a5 true a0_0 l0_1 l0_2))) else (spec_AddRay.j0 k a1 a2 a3 a4 a5 true a0_0 l0_1 l0_2))
theorem spec_AddRay.mono_l : ∀ k, (∀ y0 y1 y2 y3 y4 y5 y6 y7 y8, LeO (spec_AddRay.j0 k y0 y1 y2 y3 y4 y5 y6 y7 y8) (spec_AddRay.j0 (k + 1) y0 y1 y2 y3 y4 y5 y6 y7 y8)) ∧ (∀ y0 y1 y2 y3 y4 y5 y6 y7 y8 y9 y10, LeO (spec_AddRay.l0 k y0 y1 y2 y3 y4 y5 y6 y7 y8 y9 y10) (spec_AddRay.l0 (k + 1) y0 y1 y2 y3 y4 y5 y6 y7 y8 y9 y10))
 | 0 => ⟨fun _ _ _ _ _ _ _ _ _ r h => by simp [spec_AddRay.j0] at h, fun _ _ _ _ _ _ _ _ _ _ _ r h => by simp [spec_AddRay.l0] at h⟩
 | k + 1 => by
  obtain ⟨ih0, ih1⟩ := spec_AddRay.mono_l k
  refine ⟨?_, ?_⟩
  ·intro y0 y1 y2 y3 y4 y5 y6 y7 y8
   unfold spec_AddRay.j0
   repeat' first
   | (with_reducible exact ih0 _ _ _ _ _ _ _ _ _)
   | (with_reducible exact ih1 _ _ _ _ _ _ _ _ _ _ _)
   | (with_reducible exact spec_GoodCounts.mono _ _ _ _)
   | (with_reducible exact spec_LineCells.mono _ _ _ _ _)
   | (with_reducible exact LeO.refl _)
   | (with_reducible exact LeO.none _)
   | (with_reducible refine LeO.ite ?_ ?_)
   | (with_reducible refine LeO.bind ?_ (fun _ => ?_))
   | exact ih0 _ _ _ _ _ _ _ _ _
   | exact ih1 _ _ _ _ _ _ _ _ _ _ _
   | exact spec_GoodCounts.mono _ _ _ _
   | exact spec_LineCells.mono _ _ _ _ _
   | exact LeO.none _
   | refine LeO.ite ?_ ?_
   | refine LeO.bind ?_ (fun _ => ?_)
  ·intro y0 y1 y2 y3 y4 y5 y6 y7 y8 y9 y10
   unfold spec_AddRay.l0
   repeat' first
   | (with_reducible exact ih0 _ _ _ _ _ _ _ _ _)
   | (with_reducible exact ih1 _ _ _ _ _ _ _ _ _ _ _)
   | (with_reducible exact spec_GoodCounts.mono _ _ _ _)
   | (with_reducible exact spec_LineCells.mono _ _ _ _ _)
   | (with_reducible exact LeO.refl _)
   | (with_reducible exact LeO.none _)
   | (with_reducible refine LeO.ite ?_ ?_)
   | (with_reducible refine LeO.bind ?_ (fun _ => ?_))
   | exact ih0 _ _ _ _ _ _ _ _ _
   | exact ih1 _ _ _ _ _ _ _ _ _ _ _
   | exact spec_GoodCounts.mono _ _ _ _
   | exact spec_LineCells.mono _ _ _ _ _
   | exact LeO.none _
   | refine LeO.ite ?_ ?_
   | refine LeO.bind ?_ (fun _ => ?_)
theorem spec_AddRay.mono : ∀ a0 a1 a2 a3 a4 a5 a6 a7 k, LeO (spec_AddRay.f k a0 a1 a2 a3 a4 a5 a6 a7) (spec_AddRay.f (k + 1) a0 a1 a2 a3 a4 a5 a6 a7) := by
 intro a0 a1 a2 a3 a4 a5 a6 a7 k
 obtain ⟨ih0, ih1⟩ := spec_AddRay.mono_l k
 unfold spec_AddRay.f
 repeat' first
   | (with_reducible exact ih0 _ _ _ _ _ _ _ _ _)
   | (with_reducible exact ih1 _ _ _ _ _ _ _ _ _ _ _)
   | (with_reducible exact spec_GoodCounts.mono _ _ _ _)
   | (with_reducible exact spec_LineCells.mono _ _ _ _ _)
   | (with_reducible exact LeO.refl _)
   | (with_reducible exact LeO.none _)
   | (with_reducible refine LeO.ite ?_ ?_)
   | (with_reducible refine LeO.bind ?_ (fun _ => ?_))
   | exact ih0 _ _ _ _ _ _ _ _ _
   | exact ih1 _ _ _ _ _ _ _ _ _ _ _
   | exact spec_GoodCounts.mono _ _ _ _
   | exact spec_LineCells.mono _ _ _ _ _
   | exact LeO.none _
   | refine LeO.ite ?_ ?_
   | refine LeO.bind ?_ (fun _ => ?_)
def spec_AddRay.T3 : Bool × List (List Nat × List Nat) := (true, [([], []), ([0], [0]), ([], []), ([], []), ([3], [3]), ([2, 4], [2, 4]), ([], []), ([], []), ([7], [7]), ([6, 8, 5], [6, 8]), ([1, 5, 9], [1, 5, 9]), ([], []), ([11, 10, 9, 0, 1, 2, 3, 4, 5, 6, 7, 8, 9, 10, 11], [10, 11])])
def spec_AddRay.B3 : List Nat := [0, 1, 0, 0, 8, 28, 0, 0, 128, 508, 1023, 0, 4095]
theorem spec_AddRay.tab3 : rtab .any (opsOf Try.f12 3) = spec_AddRay.T3 := by kernel_rfl
theorem spec_AddRay.bits3 : waitsOk spec_AddRay.T3.2 spec_AddRay.B3 = true := by kernel_rfl
def spec_AddRay.T8 : Bool × List (List Nat × List Nat) := (true, [([], []), ([0], [0]), ([1], [1]), ([], []), ([3], [3]), ([2, 4], [2, 4]), ([], []), ([6], [6]), ([7], [7]), ([5, 8], [5, 8]), ([9, 0, 1, 2, 3, 4, 5, 6, 7, 8, 9], [9])])
def spec_AddRay.B8 : List Nat := [0, 1, 3, 0, 8, 31, 0, 64, 192, 511, 1023]
theorem spec_AddRay.tab8 : rtab .any (opsOf Try.f12 8) = spec_AddRay.T8 := by kernel_rfl
theorem spec_AddRay.bits8 : waitsOk spec_AddRay.T8.2 spec_AddRay.B8 = true := by kernel_rfl
set_option maxHeartbeats 8000000 in
set_option maxRecDepth 100000 in
theorem spec_AddRay.calls (k : Nat) (a0_0 : Int) (A0_1 : Option Addr) (c0_1 : Nat) (l0_1 : List Int) (A0_2 : Option Addr) (c0_2 : Nat) (l0_2 : List Int) (a1 : Int) (a2 : Int) (a3 : Int) (a4 : Int) (a5 : Bool) (r1 : Int) (r2 : List Int) (r3 : List Int) (r4 : Bool) (w : World) (hr0_1 : Kd.C (Kd.int .i64) w A0_1 l0_1.length l0_1) (hc0_1 : l0_1.length ≤ c0_1) (hr0_2 : Kd.C (Kd.int .i64) w A0_2 l0_2.length l0_2) (hc0_2 : l0_2.length ≤ c0_2) (h : spec_AddRay.f k a0_0 l0_1 l0_2 a1 a2 a3 a4 a5 = some (r1, r2, r3, r4)) :
  Calls Try.prog 12 #[.agg #[.int .i64 a0_0, .slice A0_1 l0_1.length c0_1, .slice A0_2 l0_2.length c0_2], .int .i64 a1, .int .i64 a2, .int .i64 a3, .int .i64 a4, .bool a5] w fun e w' => ∃ v1_ v2_ : Value, e = .returned (.tuple #[.agg #[.int .i64 r1, v1_, v2_], .bool r4]) ∧ Kd.R (Kd.int .i64) 3 w' w.heap.size (fun k_ => N_ v2_ k_) v1_ r2 ∧ Kd.R (Kd.int .i64) 3 w' w.heap.size (fun k_ => N_ v1_ k_) v2_ r3 ∧ Below w.heap.size w w' := by
 have hu31 := Try.underlying31
 have HR0_1 := Aside0.mk hr0_1
 have HC0_1 := Aside0.mk hc0_1
 clear hr0_1 hc0_1
 have HR0_2 := Aside0.mk hr0_2
 have HC0_2 := Aside0.mk hc0_2
 clear hr0_2 hc0_2
 have HB := a_ (Below.refl w.heap.size w)
 have H : ((spec_GoodCounts.f k a0_0 l0_1 l0_2).bind fun t124 => (if t124 = true then ((spec_l12Has.f a0_0 (l0_1.length : Int) a1 a2).bind fun t125 => (if t125 = true then ((spec_l12Has.f a0_0 (l0_1.length : Int) a3 a4).bind fun t126 => (spec_AddRay.j0 k a1 a2 a3 a4 a5 (!t126) a0_0 l0_1 l0_2)) else (spec_AddRay.j0 k a1 a2 a3 a4 a5 true a0_0 l0_1 l0_2))) else (spec_AddRay.j0 k a1 a2 a3 a4 a5 true a0_0 l0_1 l0_2))) = some (r1, r2, r3, r4) := h
 clear h
 have HC7 := Aside0.mk H
 clear H
 go_enter Try.func12, Try.ntmps12
 go_upto_region 1 with (first | ((with_reducible refine gate_dst (N := 6) rfl ?_); (try (refine gate_guard (by rfl) ?_; dsimp only)); refine box_event ?hg (N := 6) ?hd (cs := #[.int .i64 a0_0, .slice A0_1 l0_1.length c0_1, .slice A0_2 l0_2.length c0_2]) (t := 31) ?hr ?_; (case hd => rfl); (case hg => rfl); (case hr => first | (go_simp; done) | (go_simp; rfl)); intro gb122 hg w8 hbox hb; have BK122 := a_ (hbox); have GW122 := a_ (bsg hg HB.out); have GE122 := a_ (bsg hg HB.out); replace HB := a_ (below_step (un HB.out) hb); clear hb hbox hg) | ((with_reducible refine gate_dst (N := 12) rfl ?_); (try (refine gate_guard (by rfl) ?_; dsimp only)); refine box_event ?hg (N := 12) ?hd (cs := #[.int .i64 0, .slice none 0 0, .slice none 0 0]) (t := 31) ?hr ?_; (case hd => rfl); (case hg => rfl); (case hr => first | (go_simp; done) | (go_simp; rfl)); intro gb123 hg w9 hbox hb; have BK123 := a_ (hbox); have GW123 := a_ (bsg hg HB.out); have GE123 := a_ (bsg hg HB.out); replace HB := a_ (below_step (by repeat (with_reducible first | exact HB.out | refine bz ?_ (by assumption) | apply bA | apply bN | apply bD)) hb); have NB122_123 := a_ (nel hg BK122.out); have NB123_122 := a_ (nle hg BK122.out); replace BK122 := a_ (blk_below (pk BK122.out) hb); clear hb hbox hg))
 (try simp only [Act.put, sB, sC, sD])
 go_cut [43] (fun v43 wc => ∃ (kq : Nat) (x43_6 : Bool), v43 = .bool x43_6 ∧ Aside0 (spec_AddRay.j0 kq a1 a2 a3 a4 a5 x43_6 a0_0 l0_1 l0_2 = some (r1, r2, r3, r4)) ∧ Aside0 (kq ≤ k) ∧ Aside0 (wc.heap[gb122]? = some (.cells #[.int .i64 a0_0, (.slice A0_1 l0_1.length c0_1), (.slice A0_2 l0_2.length c0_2)] 31 (0, 0))) ∧ Aside0 (wc.heap[gb123]? = some (.cells #[.int .i64 0, (.slice none 0 0), (.slice none 0 0)] 31 (0, 0))) ∧ Aside0 (Below w.heap.size w wc))
 case first =>
  have H := HC7.out
  clear HC7
  replace H := Option.bind_eq_some_iff.mp H
  obtain ⟨t124, A100, H⟩ := H
  replace H : (if t124 = true then ((spec_l12Has.f a0_0 (l0_1.length : Int) a1 a2).bind fun t125 => (if t125 = true then ((spec_l12Has.f a0_0 (l0_1.length : Int) a3 a4).bind fun t126 => (spec_AddRay.j0 k a1 a2 a3 a4 a5 (!t126) a0_0 l0_1 l0_2)) else (spec_AddRay.j0 k a1 a2 a3 a4 a5 true a0_0 l0_1 l0_2))) else (spec_AddRay.j0 k a1 a2 a3 a4 a5 true a0_0 l0_1 l0_2)) = some (r1, r2, r3, r4) := H
  have A10 := Aside0.mk A100
  clear A100
  by_cases c11 : t124 = true
  ·subst c11
   have H1 : ((spec_l12Has.f a0_0 (l0_1.length : Int) a1 a2).bind fun t125 => (if t125 = true then ((spec_l12Has.f a0_0 (l0_1.length : Int) a3 a4).bind fun t126 => (spec_AddRay.j0 k a1 a2 a3 a4 a5 (!t126) a0_0 l0_1 l0_2)) else (spec_AddRay.j0 k a1 a2 a3 a4 a5 true a0_0 l0_1 l0_2))) = some (r1, r2, r3, r4) := by rw [if_pos rfl] at H; exact H
   clear H
   have H := H1
   clear H1
   replace H := Option.bind_eq_some_iff.mp H
   obtain ⟨t125, A120, H⟩ := H
   replace H : (if t125 = true then ((spec_l12Has.f a0_0 (l0_1.length : Int) a3 a4).bind fun t126 => (spec_AddRay.j0 k a1 a2 a3 a4 a5 (!t126) a0_0 l0_1 l0_2)) else (spec_AddRay.j0 k a1 a2 a3 a4 a5 true a0_0 l0_1 l0_2)) = some (r1, r2, r3, r4) := H
   have A12 := Aside0.mk A120
   clear A120
   by_cases c13 : t125 = true
   ·subst c13
    have H1 : ((spec_l12Has.f a0_0 (l0_1.length : Int) a3 a4).bind fun t126 => (spec_AddRay.j0 k a1 a2 a3 a4 a5 (!t126) a0_0 l0_1 l0_2)) = some (r1, r2, r3, r4) := by rw [if_pos rfl] at H; exact H
    clear H
    have H := H1
    clear H1
    replace H := Option.bind_eq_some_iff.mp H
    obtain ⟨t126, A140, H⟩ := H
    replace H : (spec_AddRay.j0 k a1 a2 a3 a4 a5 (!t126) a0_0 l0_1 l0_2) = some (r1, r2, r3, r4) := H
    have A14 := Aside0.mk A140
    clear A140
    have H' := Aside0.mk H
    clear H
    have hnb15 := NB122_123.out
    have hnc15 := NB123_122.out
    have hcz16_0 : _ = some (Value.int .i64 a0_0) := (blk_cell BK122.out 0).trans rfl
    have hcz16_1 : _ = some (Value.slice A0_1 l0_1.length c0_1) := (blk_cell BK122.out 1).trans rfl
    have hcz16_2 : _ = some (Value.slice A0_2 l0_2.length c0_2) := (blk_cell BK122.out 2).trans rfl
    have hfz16_0 := blk_frozen BK122.out 0
    have hfz16_1 := blk_frozen BK122.out 1
    have hfz16_2 := blk_frozen BK122.out 2
    go_wp2_with (first | ((with_reducible refine gate_callee (f := 29) rfl ?_); refine goesL_ (some 20) rfl rfl Try.func29 (by kernel_rfl) rfl #[.agg #[.int .i64 a0_0, .slice A0_1 l0_1.length c0_1, .slice A0_2 l0_2.length c0_2]] rfl (by (try simp only [lA, lB, lC]); first | done | rfl | (simp only [lD, lE]; rfl)) ?_; (with_reducible refine (spec_GoodCounts.calls k a0_0 _ _ l0_1 _ _ l0_2 true _ ?side1 ?side2 ?side3 ?side4 A10.out).mono ?_); (case side1 => exact Kd.C_below HR0_1.out (un HB.out)); (case side2 => exact HC0_1.out); (case side3 => exact Kd.C_below HR0_2.out (un HB.out)); (case side4 => exact HC0_2.out); rintro e w17 ⟨rfl, hb⟩; refine ⟨_, rfl, ?_⟩; replace BK122 := a_ (blk_below (pk BK122.out) hb); replace BK123 := a_ (blk_below (pk BK123.out) hb); replace HB := a_ (below_step (by repeat (with_reducible first | exact HB.out | refine bz ?_ (by assumption) | apply bA | apply bN | apply bD)) hb); clear hb; have hcz18_0 : _ = some (Value.int .i64 a0_0) := (blk_cell BK122.out 0).trans rfl; have hcz18_1 : _ = some (Value.slice A0_1 l0_1.length c0_1) := (blk_cell BK122.out 1).trans rfl; have hcz18_2 : _ = some (Value.slice A0_2 l0_2.length c0_2) := (blk_cell BK122.out 2).trans rfl; have hfz18_0 := blk_frozen BK122.out 0; have hfz18_1 := blk_frozen BK122.out 1; have hfz18_2 := blk_frozen BK122.out 2) | (go_at_call 30; (with_reducible refine (spec_l12Has.calls a0_0 (l0_1.length : Int) a1 a2 true _ A12.out).mono ?_); rintro e w' ⟨rfl, ⟨nd, rfl⟩⟩) | (go_at_call 30; (with_reducible refine (spec_l12Has.calls a0_0 (l0_1.length : Int) a3 a4 t126 _ A14.out).mono ?_); rintro e w' ⟨rfl, ⟨nd, rfl⟩⟩))
    go_meet
    case rel => exact ⟨_, (!t126), (by first | rfl | (simp; done) | (simp [*]; done)), H', ⟨by first | omega | exact Nat.le_refl _⟩, ⟨pk BK122.out⟩, ⟨pk BK123.out⟩, ⟨by repeat (with_reducible first | exact HB.out | refine bz ?_ (by assumption) | apply bA | apply bN | apply bD)⟩⟩
   ·replace c13 := Bool.eq_false_iff.mpr c13
    subst c13
    have H1 : (spec_AddRay.j0 k a1 a2 a3 a4 a5 true a0_0 l0_1 l0_2) = some (r1, r2, r3, r4) := by rw [if_neg (show ¬ (false = true) by decide)] at H; exact H
    clear H
    have H := H1
    clear H1
    have H' := Aside0.mk H
    clear H
    have hnb19 := NB122_123.out
    have hnc19 := NB123_122.out
    have hcz20_0 : _ = some (Value.int .i64 a0_0) := (blk_cell BK122.out 0).trans rfl
    have hcz20_1 : _ = some (Value.slice A0_1 l0_1.length c0_1) := (blk_cell BK122.out 1).trans rfl
    have hcz20_2 : _ = some (Value.slice A0_2 l0_2.length c0_2) := (blk_cell BK122.out 2).trans rfl
    have hfz20_0 := blk_frozen BK122.out 0
    have hfz20_1 := blk_frozen BK122.out 1
    have hfz20_2 := blk_frozen BK122.out 2
    go_wp2_with (first | ((with_reducible refine gate_callee (f := 29) rfl ?_); refine goesL_ (some 20) rfl rfl Try.func29 (by kernel_rfl) rfl #[.agg #[.int .i64 a0_0, .slice A0_1 l0_1.length c0_1, .slice A0_2 l0_2.length c0_2]] rfl (by (try simp only [lA, lB, lC]); first | done | rfl | (simp only [lD, lE]; rfl)) ?_; (with_reducible refine (spec_GoodCounts.calls k a0_0 _ _ l0_1 _ _ l0_2 true _ ?side1 ?side2 ?side3 ?side4 A10.out).mono ?_); (case side1 => exact Kd.C_below HR0_1.out (un HB.out)); (case side2 => exact HC0_1.out); (case side3 => exact Kd.C_below HR0_2.out (un HB.out)); (case side4 => exact HC0_2.out); rintro e w21 ⟨rfl, hb⟩; refine ⟨_, rfl, ?_⟩; replace BK122 := a_ (blk_below (pk BK122.out) hb); replace BK123 := a_ (blk_below (pk BK123.out) hb); replace HB := a_ (below_step (by repeat (with_reducible first | exact HB.out | refine bz ?_ (by assumption) | apply bA | apply bN | apply bD)) hb); clear hb; have hcz22_0 : _ = some (Value.int .i64 a0_0) := (blk_cell BK122.out 0).trans rfl; have hcz22_1 : _ = some (Value.slice A0_1 l0_1.length c0_1) := (blk_cell BK122.out 1).trans rfl; have hcz22_2 : _ = some (Value.slice A0_2 l0_2.length c0_2) := (blk_cell BK122.out 2).trans rfl; have hfz22_0 := blk_frozen BK122.out 0; have hfz22_1 := blk_frozen BK122.out 1; have hfz22_2 := blk_frozen BK122.out 2) | (go_at_call 30; (with_reducible refine (spec_l12Has.calls a0_0 (l0_1.length : Int) a1 a2 false _ A12.out).mono ?_); rintro e w' ⟨rfl, ⟨nd, rfl⟩⟩))
    go_meet
    case rel => exact ⟨_, (true), (by first | rfl | (simp; done) | (simp [*]; done)), H', ⟨by first | omega | exact Nat.le_refl _⟩, ⟨pk BK122.out⟩, ⟨pk BK123.out⟩, ⟨by repeat (with_reducible first | exact HB.out | refine bz ?_ (by assumption) | apply bA | apply bN | apply bD)⟩⟩
  ·replace c11 := Bool.eq_false_iff.mpr c11
   subst c11
   have H1 : (spec_AddRay.j0 k a1 a2 a3 a4 a5 true a0_0 l0_1 l0_2) = some (r1, r2, r3, r4) := by rw [if_neg (show ¬ (false = true) by decide)] at H; exact H
   clear H
   have H := H1
   clear H1
   have H' := Aside0.mk H
   clear H
   have hnb23 := NB122_123.out
   have hnc23 := NB123_122.out
   have hcz24_0 : _ = some (Value.int .i64 a0_0) := (blk_cell BK122.out 0).trans rfl
   have hcz24_1 : _ = some (Value.slice A0_1 l0_1.length c0_1) := (blk_cell BK122.out 1).trans rfl
   have hcz24_2 : _ = some (Value.slice A0_2 l0_2.length c0_2) := (blk_cell BK122.out 2).trans rfl
   have hfz24_0 := blk_frozen BK122.out 0
   have hfz24_1 := blk_frozen BK122.out 1
   have hfz24_2 := blk_frozen BK122.out 2
   go_wp2_with (first | ((with_reducible refine gate_callee (f := 29) rfl ?_); refine goesL_ (some 20) rfl rfl Try.func29 (by kernel_rfl) rfl #[.agg #[.int .i64 a0_0, .slice A0_1 l0_1.length c0_1, .slice A0_2 l0_2.length c0_2]] rfl (by (try simp only [lA, lB, lC]); first | done | rfl | (simp only [lD, lE]; rfl)) ?_; (with_reducible refine (spec_GoodCounts.calls k a0_0 _ _ l0_1 _ _ l0_2 false _ ?side1 ?side2 ?side3 ?side4 A10.out).mono ?_); (case side1 => exact Kd.C_below HR0_1.out (un HB.out)); (case side2 => exact HC0_1.out); (case side3 => exact Kd.C_below HR0_2.out (un HB.out)); (case side4 => exact HC0_2.out); rintro e w25 ⟨rfl, hb⟩; refine ⟨_, rfl, ?_⟩; replace BK122 := a_ (blk_below (pk BK122.out) hb); replace BK123 := a_ (blk_below (pk BK123.out) hb); replace HB := a_ (below_step (by repeat (with_reducible first | exact HB.out | refine bz ?_ (by assumption) | apply bA | apply bN | apply bD)) hb); clear hb))
   go_meet
   case rel => exact ⟨_, (true), (by first | rfl | (simp; done) | (simp [*]; done)), H', ⟨by first | omega | exact Nat.le_refl _⟩, ⟨pk BK122.out⟩, ⟨pk BK123.out⟩, ⟨by repeat (with_reducible first | exact HB.out | refine bz ?_ (by assumption) | apply bA | apply bN | apply bD)⟩⟩
 case rest =>
  clear HC7
  try clear c1; try clear c2; try clear p2; try clear c11; try clear c12; try clear c13; try clear c15; try clear c19; try clear c23; try clear hcz16_0; try clear hcz16_1; try clear hcz16_2; try clear hcz18_0; try clear hcz18_1; try clear hcz18_2; try clear hcz20_0; try clear hcz20_1; try clear hcz20_2; try clear hcz22_0; try clear hcz22_1; try clear hcz22_2; try clear hcz24_0; try clear hcz24_1; try clear hcz24_2; try clear hfz16_0; try clear hfz16_1; try clear hfz16_2; try clear hfz18_0; try clear hfz18_1; try clear hfz18_2; try clear hfz20_0; try clear hfz20_1; try clear hfz20_2; try clear hfz22_0; try clear hfz22_1; try clear hfz22_2; try clear hfz24_0; try clear hfz24_1; try clear hfz24_2
  obtain ⟨kq, x43_6, rfl, HA, HJ6, BK122, BK123, HB⟩ := hcut
  cases kq with
  | zero => exact absurd HA.out (by simp [spec_AddRay.j0])
  | succ kj6 =>
   have H := HA.out
   clear HA
   simp only [spec_AddRay.j0] at H
   by_cases c26 : x43_6 = true
   ·subst c26
    have H1 : (some (0, ([] : List Int), ([] : List Int), false)) = some (r1, r2, r3, r4) := by rw [if_pos rfl] at H; exact H
    clear H
    have H := H1
    clear H1
    simp only [Option.some.injEq, Prod.mk.injEq] at H
    obtain ⟨rfl, rfl, rfl, rfl⟩ := H
    have hnb27 := NB123_122.out
    have hnc27 := NB122_123.out
    have hcz28_0 : wc.cell? ⟨gb123, 0, none⟩ = some (.int .i64 0) := (blk_cell BK123.out 0).trans rfl
    have hcz28_1 : wc.cell? ⟨gb123, 1, none⟩ = some (.slice none 0 0) := (blk_cell BK123.out 1).trans rfl
    have hcz28_2 : wc.cell? ⟨gb123, 2, none⟩ = some (.slice none 0 0) := (blk_cell BK123.out 2).trans rfl
    have hfz28_0 := blk_frozen BK123.out 0
    have hfz28_1 := blk_frozen BK123.out 1
    have hfz28_2 := blk_frozen BK123.out 2
    go_wp2
    refine bodyPost_ret (results_ct rfl _ _ gb123 31 #[.int .i64 0, .slice none 0 0, .slice none 0 0] (0, 0) _ rfl (by refine pk ?_; refine blk_put (cs := #[.int .i64 0, .slice none 0 0, .slice none 0 0]) ?_ 2 _ rfl; refine pk ?_; refine blk_put (cs := #[.int .i64 0, .slice none 0 0, .slice none 0 0]) ?_ 1 _ rfl; refine pk ?_; refine blk_put (cs := #[.int .i64 0, .slice none 0 0, .slice none 0 0]) ?_ 0 _ rfl; refine pk ?_; exact BK123.out) Try.underlying31 rfl (by kernel_rfl)) rfl ?_
    exact ⟨_, _, by first | rfl | (simp [errW_none, errW_some] <;> rfl) | (simp [*, errW_none, errW_some] <;> rfl), by first | exact Kd.R_nil _ _ _ _ _ | exact Kd.N_nil _ _ _ _ _ | exact Kd.V_nil _ _ _ _ _ | exact Kd.Q_nil _ _ _ _ _ | exact Kd.S_nil _ _ _ _ _, by first | exact Kd.R_nil _ _ _ _ _ | exact Kd.N_nil _ _ _ _ _ | exact Kd.V_nil _ _ _ _ _ | exact Kd.Q_nil _ _ _ _ _ | exact Kd.S_nil _ _ _ _ _, by repeat (with_reducible first | exact HB.out | refine bz ?_ (by assumption) | apply bA | apply bN | apply bD)⟩
   ·replace c26 := Bool.eq_false_iff.mpr c26
    subst c26
    have H1 : ((some (([] : List Int) : List Int)).bind fun y127 => (if y127.length + l0_1.length < 17592186044416 then ((some (([] : List Int) : List Int)).bind fun y133 => (if y133.length + l0_2.length < 17592186044416 then ((spec_LineCells.f kj6 a1 a2 a3 a4).bind fun t140 => (spec_AddRay.l0 kj6 a5 t140 t140 (t140.length : Int) 0 a0_0 l0_1 l0_2 a0_0 (y127 ++ l0_1) (y133 ++ l0_2))) else (none))) else (none))) = some (r1, r2, r3, r4) := by rw [if_neg (show ¬ (false = true) by decide)] at H; exact H
    clear H
    have H := H1
    clear H1
    obtain ⟨y127, hy127⟩ : ∃ y_ : List Int, y_ = ([] : List Int) := ⟨_, rfl⟩
    replace H : (if y127.length + l0_1.length < 17592186044416 then ((some (([] : List Int) : List Int)).bind fun y133 => (if y133.length + l0_2.length < 17592186044416 then ((spec_LineCells.f kj6 a1 a2 a3 a4).bind fun t140 => (spec_AddRay.l0 kj6 a5 t140 t140 (t140.length : Int) 0 a0_0 l0_1 l0_2 a0_0 (y127 ++ l0_1) (y133 ++ l0_2))) else (none))) else (none)) = some (r1, r2, r3, r4) := by first | (rw [hy127]; with_reducible exact H) | (have H2_ := (Option.bind_some _ _).symm.trans H; rw [hy127]; with_reducible exact H2_) | (have H2_ := (Option.bind_some _ _).symm.trans H; with_reducible exact H2_) | with_reducible exact H | (rw [hy127]; exact H) | exact H
    have Ny127 := Aside0.mk hy127
    clear hy127
    by_cases c29 : y127.length + l0_1.length < 17592186044416
    ·rw [if_pos c29] at H
     have LMc29 := Aside0.mk c29
     clear c29
     obtain ⟨y130, hy130⟩ : ∃ y_ : List Int, y_ = (y127 ++ l0_1) := ⟨_, rfl⟩
     replace H : ((some (([] : List Int) : List Int)).bind fun y133 => (if y133.length + l0_2.length < 17592186044416 then ((spec_LineCells.f kj6 a1 a2 a3 a4).bind fun t140 => (spec_AddRay.l0 kj6 a5 t140 t140 (t140.length : Int) 0 a0_0 l0_1 l0_2 a0_0 y130 (y133 ++ l0_2))) else (none))) = some (r1, r2, r3, r4) := by first | (rw [hy130]; with_reducible exact H) | (have H2_ := (Option.bind_some _ _).symm.trans H; rw [hy130]; with_reducible exact H2_) | (have H2_ := (Option.bind_some _ _).symm.trans H; with_reducible exact H2_) | with_reducible exact H | (rw [hy130]; exact H) | exact H
     have Ny130 := Aside0.mk hy130
     clear hy130
     obtain ⟨y133, hy133⟩ : ∃ y_ : List Int, y_ = ([] : List Int) := ⟨_, rfl⟩
     replace H : (if y133.length + l0_2.length < 17592186044416 then ((spec_LineCells.f kj6 a1 a2 a3 a4).bind fun t140 => (spec_AddRay.l0 kj6 a5 t140 t140 (t140.length : Int) 0 a0_0 l0_1 l0_2 a0_0 y130 (y133 ++ l0_2))) else (none)) = some (r1, r2, r3, r4) := by first | (rw [hy133]; with_reducible exact H) | (have H2_ := (Option.bind_some _ _).symm.trans H; rw [hy133]; with_reducible exact H2_) | (have H2_ := (Option.bind_some _ _).symm.trans H; with_reducible exact H2_) | with_reducible exact H | (rw [hy133]; exact H) | exact H
     have Ny133 := Aside0.mk hy133
     clear hy133
     by_cases c30 : y133.length + l0_2.length < 17592186044416
     ·rw [if_pos c30] at H
      have LMc30 := Aside0.mk c30
      clear c30
      obtain ⟨y136, hy136⟩ : ∃ y_ : List Int, y_ = (y133 ++ l0_2) := ⟨_, rfl⟩
      replace H : ((spec_LineCells.f kj6 a1 a2 a3 a4).bind fun t140 => (spec_AddRay.l0 kj6 a5 t140 t140 (t140.length : Int) 0 a0_0 l0_1 l0_2 a0_0 y130 y136)) = some (r1, r2, r3, r4) := by first | (rw [hy136]; with_reducible exact H) | (have H2_ := (Option.bind_some _ _).symm.trans H; rw [hy136]; with_reducible exact H2_) | (have H2_ := (Option.bind_some _ _).symm.trans H; with_reducible exact H2_) | with_reducible exact H | (rw [hy136]; exact H) | exact H
      have Ny136 := Aside0.mk hy136
      clear hy136
      replace H := Option.bind_eq_some_iff.mp H
      obtain ⟨t140, A310, H⟩ := H
      replace H : (spec_AddRay.l0 kj6 a5 t140 t140 (t140.length : Int) 0 a0_0 l0_1 l0_2 a0_0 y130 y136) = some (r1, r2, r3, r4) := H
      have A31 := Aside0.mk A310
      clear A310
      have H' := Aside0.mk H
      clear H
      try go_wp2
      replace BK122 := a_ (blk_drew BK122.out)
      replace BK123 := a_ (blk_drew BK123.out)
      replace HB := a_ (below_drew1 HB.out)
      refine start_ (n := 13) (S := fun w' => w'.cell? ⟨gb122, 0, none⟩ = some (.int .i64 a0_0) ∧ w'.cell? ⟨gb122, 1, none⟩ = some (.slice A0_1 l0_1.length c0_1) ∧ w'.cell? ⟨gb122, 2, none⟩ = some (.slice A0_2 l0_2.length c0_2)) (ds := []) #[false, false, false, false, false, false, false, false, false, false, false, false, false] (by kernel_rfl) rfl rfl ⟨(blk_cell BK122.out 0).trans rfl, (blk_cell BK122.out 1).trans rfl, (blk_cell BK122.out 2).trans rfl⟩ (fun hHeld => ?_); refine with_tabW spec_AddRay.tab3 spec_AddRay.bits3 (fun HT_ HW_ => ?_)
      generalize wc.drew = w32 at BK122 BK123 HB hHeld ⊢
      refine pure_ (i := 0) (N := some 45) (v := ?_) (a' := ?_) #[true, false, false, false, false, false, false, false, false, false, false, false, false] rfl rfl (any_of HT_.out (by kernel_rfl)) (fun _ _ _ h => h) (Or.inl ⟨by rfl, ?_⟩) ?_ ?_
      rotate_left
      ·intro w'
       go_simp
       with_reducible rfl
      rotate_left
      ·simp only [Act.put, sB, sC, sD, i64_w, i32_w]
       rfl
      refine pure_ (i := 3) (N := some 48) (v := ?_) (a' := ?_) #[true, false, false, true, false, false, false, false, false, false, false, false, false] rfl rfl (any_of HT_.out (by kernel_rfl)) (fun _ _ _ h => h) (Or.inl ⟨by rfl, ?_⟩) ?_ ?_
      rotate_left
      ·intro w'
       go_simp
       with_reducible rfl
      rotate_left
      ·simp only [Act.put, sB, sC, sD, i64_w, i32_w]
       rfl
      refine pure_ (i := 7) (N := some 52) (v := ?_) (a' := ?_) #[true, false, false, true, false, false, false, true, false, false, false, false, false] rfl rfl (any_of HT_.out (by kernel_rfl)) (fun _ _ _ h => h) (Or.inl ⟨by rfl, ?_⟩) ?_ ?_
      rotate_left
      ·intro w'
       go_simp
       with_reducible rfl
      rotate_left
      ·simp only [Act.put, sB, sC, sD, i64_w, i32_w]
       rfl
      refine take_ (i := 1) (N := some 46) (v := ?_) (a' := ?_) #[true, true, false, true, false, false, false, true, false, false, false, false, false] rfl rfl (take_ofW HT_.out HW_.out (by kernel_rfl)) (fun _ _ _ h => h) (Or.inl ⟨by rfl, ?_⟩) hHeld ?_ ?_
      rotate_left
      ·rintro w' ⟨s0, s1, s2⟩
       go_simp
       with_reducible rfl
      rotate_left
      ·simp only [Act.put, sB, sC, sD, i64_w, i32_w]
       rfl
      refine take_ (i := 4) (N := some 49) (v := ?_) (a' := ?_) #[true, true, false, true, true, false, false, true, false, false, false, false, false] rfl rfl (take_ofW HT_.out HW_.out (by kernel_rfl)) (fun _ _ _ h => h) (Or.inl ⟨by rfl, ?_⟩) hHeld ?_ ?_
      rotate_left
      ·rintro w' ⟨s0, s1, s2⟩
       go_simp
       with_reducible rfl
      rotate_left
      ·simp only [Act.put, sB, sC, sD, i64_w, i32_w]
       rfl
      refine take_ (i := 8) (N := some 53) (v := ?_) (a' := ?_) #[true, true, false, true, true, false, false, true, true, false, false, false, false] rfl rfl (take_ofW HT_.out HW_.out (by kernel_rfl)) (fun _ _ _ h => h) (Or.inl ⟨by rfl, ?_⟩) hHeld ?_ ?_
      rotate_left
      ·rintro w' ⟨s0, s1, s2⟩
       go_simp
       with_reducible rfl
      rotate_left
      ·simp only [Act.put, sB, sC, sD, i64_w, i32_w]
       rfl
      refine join_ (σ := Value × Value × Value × Value × Nat) 1 #[true, true, true, true, true, true, true, true, true, true, true, true, false] (fun s_ => [(47, s_.1), (50, s_.2.1), (51, s_.2.2.1), (54, s_.2.2.2.1), (14, .pointer (some ⟨s_.2.2.2.2, 0, none⟩)), (55, .agg #[.int .i64 a0_0, s_.2.1, s_.2.2.2.1])]) (fun s_ w' => (w'.cell? ⟨gb122, 0, none⟩ = some (.int .i64 a0_0) ∧ w'.cell? ⟨gb122, 1, none⟩ = some (.slice A0_1 l0_1.length c0_1) ∧ w'.cell? ⟨gb122, 2, none⟩ = some (.slice A0_2 l0_2.length c0_2)) ∧ (Kd.R (Kd.int .i64) 3 w' w.heap.size (fun k_ => some k_ ≠ (s_.2.2.2.1 : Value).ownBlock) s_.2.1 y130) ∧ (Kd.R (Kd.int .i64) 3 w' w.heap.size (fun k_ => some k_ ≠ (s_.2.1 : Value).ownBlock) s_.2.2.2.1 y136) ∧ (w'.heap[gb122]? = some (.cells #[.int .i64 a0_0, .slice A0_1 l0_1.length c0_1, .slice A0_2 l0_2.length c0_2] 31 (0, 0))) ∧ (w'.heap[gb123]? = some (.cells #[.int .i64 0, .slice none 0 0, .slice none 0 0] 31 (0, 0))) ∧ (w'.heap[s_.2.2.2.2]? = some (.cells #[.int .i64 0, .slice none 0 0, .slice none 0 0] 31 (0, 0))) ∧ (w.heap.size ≤ s_.2.2.2.2) ∧ (w.heap.size ≤ s_.2.2.2.2) ∧ (gb122 ≠ s_.2.2.2.2) ∧ (s_.2.2.2.2 ≠ gb122) ∧ (gb123 ≠ s_.2.2.2.2) ∧ (s_.2.2.2.2 ≠ gb123) ∧ (Below w.heap.size w w')) ?_ ?_
      rotate_left
      ·intro hJ2_5_6_9_11
       refine join_ (σ := Value × Value × Value × Value) 2 #[true, true, true, true, true, true, true, true, true, true, true, false, false] (fun s_ => [(47, s_.1), (50, s_.2.1), (51, s_.2.2.1), (54, s_.2.2.2), (55, .agg #[.int .i64 a0_0, s_.2.1, s_.2.2.2])]) (fun s_ w' => (w'.cell? ⟨gb122, 0, none⟩ = some (.int .i64 a0_0) ∧ w'.cell? ⟨gb122, 1, none⟩ = some (.slice A0_1 l0_1.length c0_1) ∧ w'.cell? ⟨gb122, 2, none⟩ = some (.slice A0_2 l0_2.length c0_2)) ∧ (Kd.R (Kd.int .i64) 3 w' w.heap.size (fun k_ => some k_ ≠ (s_.2.2.2 : Value).ownBlock) s_.2.1 y130) ∧ (Kd.R (Kd.int .i64) 3 w' w.heap.size (fun k_ => some k_ ≠ (s_.2.1 : Value).ownBlock) s_.2.2.2 y136) ∧ (w'.heap[gb122]? = some (.cells #[.int .i64 a0_0, .slice A0_1 l0_1.length c0_1, .slice A0_2 l0_2.length c0_2] 31 (0, 0))) ∧ (w'.heap[gb123]? = some (.cells #[.int .i64 0, .slice none 0 0, .slice none 0 0] 31 (0, 0))) ∧ (Below w.heap.size w w')) ?_ ?_
       rotate_left
       ·intro hJ2_5_6_9
        refine join_ (σ := Value × Value × Value × Nat) 3 #[true, true, true, true, true, true, true, true, true, false, false, true, false] (fun s_ => [(47, s_.1), (50, s_.2.1), (51, s_.2.2.1), (14, .pointer (some ⟨s_.2.2.2, 0, none⟩))]) (fun s_ w' => (w'.cell? ⟨gb122, 0, none⟩ = some (.int .i64 a0_0) ∧ w'.cell? ⟨gb122, 1, none⟩ = some (.slice A0_1 l0_1.length c0_1) ∧ w'.cell? ⟨gb122, 2, none⟩ = some (.slice A0_2 l0_2.length c0_2)) ∧ (Kd.R (Kd.int .i64) 3 w' w.heap.size (fun k_ => some k_ ≠ (s_.2.2.1 : Value).ownBlock) s_.2.1 y130) ∧ (Kd.R (Kd.int .i64) 3 w' w.heap.size (fun k_ => some k_ ≠ (s_.2.1 : Value).ownBlock) s_.2.2.1 y133) ∧ (w'.heap[gb122]? = some (.cells #[.int .i64 a0_0, .slice A0_1 l0_1.length c0_1, .slice A0_2 l0_2.length c0_2] 31 (0, 0))) ∧ (w'.heap[gb123]? = some (.cells #[.int .i64 0, .slice none 0 0, .slice none 0 0] 31 (0, 0))) ∧ (w'.heap[s_.2.2.2]? = some (.cells #[.int .i64 0, .slice none 0 0, .slice none 0 0] 31 (0, 0))) ∧ (w.heap.size ≤ s_.2.2.2) ∧ (w.heap.size ≤ s_.2.2.2) ∧ (gb122 ≠ s_.2.2.2) ∧ (s_.2.2.2 ≠ gb122) ∧ (gb123 ≠ s_.2.2.2) ∧ (s_.2.2.2 ≠ gb123) ∧ (Below w.heap.size w w')) ?_ ?_
        rotate_left
        ·intro hJ2_5_6_11
         refine join_ (σ := Value × Value × Value) 4 #[true, true, true, true, true, true, true, true, true, false, false, false, false] (fun s_ => [(47, s_.1), (50, s_.2.1), (51, s_.2.2)]) (fun s_ w' => (w'.cell? ⟨gb122, 0, none⟩ = some (.int .i64 a0_0) ∧ w'.cell? ⟨gb122, 1, none⟩ = some (.slice A0_1 l0_1.length c0_1) ∧ w'.cell? ⟨gb122, 2, none⟩ = some (.slice A0_2 l0_2.length c0_2)) ∧ (Kd.R (Kd.int .i64) 3 w' w.heap.size (fun k_ => some k_ ≠ (s_.2.2 : Value).ownBlock) s_.2.1 y130) ∧ (Kd.R (Kd.int .i64) 3 w' w.heap.size (fun k_ => some k_ ≠ (s_.2.1 : Value).ownBlock) s_.2.2 y133) ∧ (w'.heap[gb122]? = some (.cells #[.int .i64 a0_0, .slice A0_1 l0_1.length c0_1, .slice A0_2 l0_2.length c0_2] 31 (0, 0))) ∧ (w'.heap[gb123]? = some (.cells #[.int .i64 0, .slice none 0 0, .slice none 0 0] 31 (0, 0))) ∧ (Below w.heap.size w w')) ?_ ?_
         rotate_left
         ·intro hJ2_5_6
          refine join_ (σ := Value × Value × Nat) 4 #[true, true, true, true, true, true, false, true, true, false, false, true, false] (fun s_ => [(47, s_.1), (50, s_.2.1), (14, .pointer (some ⟨s_.2.2, 0, none⟩))]) (fun s_ w' => (w'.cell? ⟨gb122, 0, none⟩ = some (.int .i64 a0_0) ∧ w'.cell? ⟨gb122, 1, none⟩ = some (.slice A0_1 l0_1.length c0_1) ∧ w'.cell? ⟨gb122, 2, none⟩ = some (.slice A0_2 l0_2.length c0_2)) ∧ (Kd.R (Kd.int .i64) 3 w' w.heap.size (fun _ => True) s_.2.1 y130) ∧ (w'.heap[gb122]? = some (.cells #[.int .i64 a0_0, .slice A0_1 l0_1.length c0_1, .slice A0_2 l0_2.length c0_2] 31 (0, 0))) ∧ (w'.heap[gb123]? = some (.cells #[.int .i64 0, .slice none 0 0, .slice none 0 0] 31 (0, 0))) ∧ (w'.heap[s_.2.2]? = some (.cells #[.int .i64 0, .slice none 0 0, .slice none 0 0] 31 (0, 0))) ∧ (w.heap.size ≤ s_.2.2) ∧ (w.heap.size ≤ s_.2.2) ∧ (gb122 ≠ s_.2.2) ∧ (s_.2.2 ≠ gb122) ∧ (gb123 ≠ s_.2.2) ∧ (s_.2.2 ≠ gb123) ∧ (Below w.heap.size w w')) ?_ ?_
          rotate_left
          ·intro hJ2_5_11
           refine join_ (σ := Value × Value × Nat) 4 #[true, true, true, true, true, false, true, true, true, false, false, true, false] (fun s_ => [(47, s_.1), (51, s_.2.1), (14, .pointer (some ⟨s_.2.2, 0, none⟩))]) (fun s_ w' => (w'.cell? ⟨gb122, 0, none⟩ = some (.int .i64 a0_0) ∧ w'.cell? ⟨gb122, 1, none⟩ = some (.slice A0_1 l0_1.length c0_1) ∧ w'.cell? ⟨gb122, 2, none⟩ = some (.slice A0_2 l0_2.length c0_2)) ∧ (Kd.R (Kd.int .i64) 3 w' w.heap.size (fun k_ => some k_ ≠ (s_.2.1 : Value).ownBlock) s_.1 y127) ∧ (Kd.R (Kd.int .i64) 3 w' w.heap.size (fun k_ => some k_ ≠ (s_.1 : Value).ownBlock) s_.2.1 y133) ∧ (w'.heap[gb122]? = some (.cells #[.int .i64 a0_0, .slice A0_1 l0_1.length c0_1, .slice A0_2 l0_2.length c0_2] 31 (0, 0))) ∧ (w'.heap[gb123]? = some (.cells #[.int .i64 0, .slice none 0 0, .slice none 0 0] 31 (0, 0))) ∧ (w'.heap[s_.2.2]? = some (.cells #[.int .i64 0, .slice none 0 0, .slice none 0 0] 31 (0, 0))) ∧ (w.heap.size ≤ s_.2.2) ∧ (w.heap.size ≤ s_.2.2) ∧ (gb122 ≠ s_.2.2) ∧ (s_.2.2 ≠ gb122) ∧ (gb123 ≠ s_.2.2) ∧ (s_.2.2 ≠ gb123) ∧ (Below w.heap.size w w')) ?_ ?_
           rotate_left
           ·intro hJ2_6_11
            refine join_ (σ := Value × Value) 5 #[true, true, true, true, true, true, false, true, true, false, false, false, false] (fun s_ => [(47, s_.1), (50, s_.2)]) (fun s_ w' => (w'.cell? ⟨gb122, 0, none⟩ = some (.int .i64 a0_0) ∧ w'.cell? ⟨gb122, 1, none⟩ = some (.slice A0_1 l0_1.length c0_1) ∧ w'.cell? ⟨gb122, 2, none⟩ = some (.slice A0_2 l0_2.length c0_2)) ∧ (Kd.R (Kd.int .i64) 3 w' w.heap.size (fun _ => True) s_.2 y130) ∧ (w'.heap[gb122]? = some (.cells #[.int .i64 a0_0, .slice A0_1 l0_1.length c0_1, .slice A0_2 l0_2.length c0_2] 31 (0, 0))) ∧ (w'.heap[gb123]? = some (.cells #[.int .i64 0, .slice none 0 0, .slice none 0 0] 31 (0, 0))) ∧ (Below w.heap.size w w')) ?_ ?_
            rotate_left
            ·intro hJ2_5
             refine join_ (σ := Value × Value) 5 #[true, true, true, true, true, false, true, true, true, false, false, false, false] (fun s_ => [(47, s_.1), (51, s_.2)]) (fun s_ w' => (w'.cell? ⟨gb122, 0, none⟩ = some (.int .i64 a0_0) ∧ w'.cell? ⟨gb122, 1, none⟩ = some (.slice A0_1 l0_1.length c0_1) ∧ w'.cell? ⟨gb122, 2, none⟩ = some (.slice A0_2 l0_2.length c0_2)) ∧ (Kd.R (Kd.int .i64) 3 w' w.heap.size (fun k_ => some k_ ≠ (s_.2 : Value).ownBlock) s_.1 y127) ∧ (Kd.R (Kd.int .i64) 3 w' w.heap.size (fun k_ => some k_ ≠ (s_.1 : Value).ownBlock) s_.2 y133) ∧ (w'.heap[gb122]? = some (.cells #[.int .i64 a0_0, .slice A0_1 l0_1.length c0_1, .slice A0_2 l0_2.length c0_2] 31 (0, 0))) ∧ (w'.heap[gb123]? = some (.cells #[.int .i64 0, .slice none 0 0, .slice none 0 0] 31 (0, 0))) ∧ (Below w.heap.size w w')) ?_ ?_
             rotate_left
             ·intro hJ2_6
              refine join_ (σ := Value × Nat) 5 #[true, true, true, true, true, false, false, true, true, false, false, true, false] (fun s_ => [(47, s_.1), (14, .pointer (some ⟨s_.2, 0, none⟩))]) (fun s_ w' => (w'.cell? ⟨gb122, 0, none⟩ = some (.int .i64 a0_0) ∧ w'.cell? ⟨gb122, 1, none⟩ = some (.slice A0_1 l0_1.length c0_1) ∧ w'.cell? ⟨gb122, 2, none⟩ = some (.slice A0_2 l0_2.length c0_2)) ∧ (Kd.R (Kd.int .i64) 3 w' w.heap.size (fun _ => True) s_.1 y127) ∧ (w'.heap[gb122]? = some (.cells #[.int .i64 a0_0, .slice A0_1 l0_1.length c0_1, .slice A0_2 l0_2.length c0_2] 31 (0, 0))) ∧ (w'.heap[gb123]? = some (.cells #[.int .i64 0, .slice none 0 0, .slice none 0 0] 31 (0, 0))) ∧ (w'.heap[s_.2]? = some (.cells #[.int .i64 0, .slice none 0 0, .slice none 0 0] 31 (0, 0))) ∧ (w.heap.size ≤ s_.2) ∧ (w.heap.size ≤ s_.2) ∧ (gb122 ≠ s_.2) ∧ (s_.2 ≠ gb122) ∧ (gb123 ≠ s_.2) ∧ (s_.2 ≠ gb123) ∧ (Below w.heap.size w w')) ?_ ?_
              rotate_left
              ·intro hJ2_11
               refine join_ (σ := Value × Nat) 5 #[true, true, false, true, true, false, true, true, true, false, false, true, false] (fun s_ => [(51, s_.1), (14, .pointer (some ⟨s_.2, 0, none⟩))]) (fun s_ w' => (w'.cell? ⟨gb122, 0, none⟩ = some (.int .i64 a0_0) ∧ w'.cell? ⟨gb122, 1, none⟩ = some (.slice A0_1 l0_1.length c0_1) ∧ w'.cell? ⟨gb122, 2, none⟩ = some (.slice A0_2 l0_2.length c0_2)) ∧ (Kd.R (Kd.int .i64) 3 w' w.heap.size (fun _ => True) s_.1 y133) ∧ (w'.heap[gb122]? = some (.cells #[.int .i64 a0_0, .slice A0_1 l0_1.length c0_1, .slice A0_2 l0_2.length c0_2] 31 (0, 0))) ∧ (w'.heap[gb123]? = some (.cells #[.int .i64 0, .slice none 0 0, .slice none 0 0] 31 (0, 0))) ∧ (w'.heap[s_.2]? = some (.cells #[.int .i64 0, .slice none 0 0, .slice none 0 0] 31 (0, 0))) ∧ (w.heap.size ≤ s_.2) ∧ (w.heap.size ≤ s_.2) ∧ (gb122 ≠ s_.2) ∧ (s_.2 ≠ gb122) ∧ (gb123 ≠ s_.2) ∧ (s_.2 ≠ gb123) ∧ (Below w.heap.size w w')) ?_ ?_
               rotate_left
               ·intro hJ6_11
                refine join_ (σ := Value) 6 #[true, true, true, true, true, false, false, true, true, false, false, false, false] (fun s_ => [(47, s_)]) (fun s_ w' => (w'.cell? ⟨gb122, 0, none⟩ = some (.int .i64 a0_0) ∧ w'.cell? ⟨gb122, 1, none⟩ = some (.slice A0_1 l0_1.length c0_1) ∧ w'.cell? ⟨gb122, 2, none⟩ = some (.slice A0_2 l0_2.length c0_2)) ∧ (Kd.R (Kd.int .i64) 3 w' w.heap.size (fun _ => True) s_ y127) ∧ (w'.heap[gb122]? = some (.cells #[.int .i64 a0_0, .slice A0_1 l0_1.length c0_1, .slice A0_2 l0_2.length c0_2] 31 (0, 0))) ∧ (w'.heap[gb123]? = some (.cells #[.int .i64 0, .slice none 0 0, .slice none 0 0] 31 (0, 0))) ∧ (Below w.heap.size w w')) ?_ ?_
                rotate_left
                ·intro hJ2
                 refine join_ (σ := Value) 6 #[true, true, false, true, true, false, true, true, true, false, false, false, false] (fun s_ => [(51, s_)]) (fun s_ w' => (w'.cell? ⟨gb122, 0, none⟩ = some (.int .i64 a0_0) ∧ w'.cell? ⟨gb122, 1, none⟩ = some (.slice A0_1 l0_1.length c0_1) ∧ w'.cell? ⟨gb122, 2, none⟩ = some (.slice A0_2 l0_2.length c0_2)) ∧ (Kd.R (Kd.int .i64) 3 w' w.heap.size (fun _ => True) s_ y133) ∧ (w'.heap[gb122]? = some (.cells #[.int .i64 a0_0, .slice A0_1 l0_1.length c0_1, .slice A0_2 l0_2.length c0_2] 31 (0, 0))) ∧ (w'.heap[gb123]? = some (.cells #[.int .i64 0, .slice none 0 0, .slice none 0 0] 31 (0, 0))) ∧ (Below w.heap.size w w')) ?_ ?_
                 rotate_left
                 ·intro hJ6
                  refine join_ (σ := Nat) 6 #[true, true, false, true, true, false, false, true, true, false, false, true, false] (fun s_ => [(14, .pointer (some ⟨s_, 0, none⟩))]) (fun s_ w' => (w'.cell? ⟨gb122, 0, none⟩ = some (.int .i64 a0_0) ∧ w'.cell? ⟨gb122, 1, none⟩ = some (.slice A0_1 l0_1.length c0_1) ∧ w'.cell? ⟨gb122, 2, none⟩ = some (.slice A0_2 l0_2.length c0_2)) ∧ (w'.heap[gb122]? = some (.cells #[.int .i64 a0_0, .slice A0_1 l0_1.length c0_1, .slice A0_2 l0_2.length c0_2] 31 (0, 0))) ∧ (w'.heap[gb123]? = some (.cells #[.int .i64 0, .slice none 0 0, .slice none 0 0] 31 (0, 0))) ∧ (w'.heap[s_]? = some (.cells #[.int .i64 0, .slice none 0 0, .slice none 0 0] 31 (0, 0))) ∧ (w.heap.size ≤ s_) ∧ (w.heap.size ≤ s_) ∧ (gb122 ≠ s_) ∧ (s_ ≠ gb122) ∧ (gb123 ≠ s_) ∧ (s_ ≠ gb123) ∧ (Below w.heap.size w w')) ?_ ?_
                  rotate_left
                  ·intro hJ11
                   refine three_ (i := 2) (j := 6) (k := 11) (Ni := some 47) (Nj := some 51) (Nk := some 14) #[true, true, true, true, true, false, false, true, true, false, false, false, false] #[true, true, false, true, true, false, true, true, true, false, false, false, false] #[true, true, false, true, true, false, false, true, true, false, false, true, false] rfl rfl rfl rfl rfl rfl (three_of HT_.out (by kernel_rfl)) (by decide) (by decide) (by decide) (fun K hK => ?_) (fun K hK => ?_) (fun K hK => ?_)
                   ·skip
                    refine Kd.R_lit_step (Kd.int .i64) _ 3 ?hg (N := 47) ?hd (xs := ([] : List Int)) (inner := []) (ok := fun _ => True) (okp := fun _ => True) ?hr ?hp (fun _ hk => hk) trivial (Below.refl _ _) (Nat.le_refl _) (by simp) ?_; (case hd => rfl); (case hg => rfl); (case hr => first | (go_simp; done) | (go_simp; rfl)); (case hp => exact (Reps.none _ _))
                    intro v128 w33 ho34 hb hg_ hnew_
                    clear hg_ hnew_
                    (first | rw [← Ny127.out] at ho34 | (simp only [Int.reduceToNat] at ho34; rw [← Ny127.out] at ho34))
                    have HO129 := a_ (Kd.R_lower ho34 (bs HB.out))
                    replace BK122 := a_ (blk_below (pk BK122.out) hb)
                    replace BK123 := a_ (blk_below (pk BK123.out) hb)
                    replace HB := a_ (below_step (by repeat (with_reducible first | exact HB.out | refine bz ?_ (by assumption) | apply bA | apply bN | apply bD)) hb)
                    clear hb ho34
                    refine hK.out _ _ ⟨(blk_cell BK122.out 0).trans rfl, (blk_cell BK122.out 1).trans rfl, (blk_cell BK122.out 2).trans rfl⟩ (fun hHeld => ?_)
                    clear hK K
                    refine norm_ (a' := ?_) ?_ ?_
                    rotate_left
                    ·show Act.put _ (some 47) _ = _
                     simp only [Act.put, sB, sC, sD, i64_w, i32_w]
                     rfl
                    exact norm_ (by first | (simp only [putAll, Act.put, sB, sC, sD]; done) | (simp only [putAll, Act.put, sB, sC, sD]; rfl)) (hJ2 (v128) _ ⟨hHeld, (rk HO129.out), (pk BK122.out), (pk BK123.out), (by repeat (with_reducible first | exact HB.out | refine bz ?_ (by assumption) | apply bA | apply bN | apply bD))⟩)
                   ·skip
                    refine Kd.R_lit_step (Kd.int .i64) _ 3 ?hg (N := 51) ?hd (xs := ([] : List Int)) (inner := []) (ok := fun _ => True) (okp := fun _ => True) ?hr ?hp (fun _ hk => hk) trivial (Below.refl _ _) (Nat.le_refl _) (by simp) ?_; (case hd => rfl); (case hg => rfl); (case hr => first | (go_simp; done) | (go_simp; rfl)); (case hp => exact (Reps.none _ _))
                    intro v134 w33 ho34 hb hg_ hnew_
                    clear hg_ hnew_
                    (first | rw [← Ny133.out] at ho34 | (simp only [Int.reduceToNat] at ho34; rw [← Ny133.out] at ho34))
                    have HO135 := a_ (Kd.R_lower ho34 (bs HB.out))
                    replace BK122 := a_ (blk_below (pk BK122.out) hb)
                    replace BK123 := a_ (blk_below (pk BK123.out) hb)
                    replace HB := a_ (below_step (by repeat (with_reducible first | exact HB.out | refine bz ?_ (by assumption) | apply bA | apply bN | apply bD)) hb)
                    clear hb ho34
                    refine hK.out _ _ ⟨(blk_cell BK122.out 0).trans rfl, (blk_cell BK122.out 1).trans rfl, (blk_cell BK122.out 2).trans rfl⟩ (fun hHeld => ?_)
                    clear hK K
                    refine norm_ (a' := ?_) ?_ ?_
                    rotate_left
                    ·show Act.put _ (some 51) _ = _
                     simp only [Act.put, sB, sC, sD, i64_w, i32_w]
                     rfl
                    exact norm_ (by first | (simp only [putAll, Act.put, sB, sC, sD]; done) | (simp only [putAll, Act.put, sB, sC, sD]; rfl)) (hJ6 (v134) _ ⟨hHeld, (rk HO135.out), (pk BK122.out), (pk BK123.out), (by repeat (with_reducible first | exact HB.out | refine bz ?_ (by assumption) | apply bA | apply bN | apply bD))⟩)
                   ·skip
                    refine box_step ?hg (N := 14) ?hd (cs := #[.int .i64 0, .slice none 0 0, .slice none 0 0]) (t := 31) ?hr ?_; (case hd => rfl); (case hg => rfl); (case hr => first | (go_simp; done) | (go_simp; rfl))
                    intro gb139 hg w33 hbox hb
                    have BK139 := a_ (hbox)
                    have GW139 := a_ (bsg hg HB.out)
                    have GE139 := a_ (bsg hg HB.out)
                    replace HB := a_ (below_step (by repeat (with_reducible first | exact HB.out | refine bz ?_ (by assumption) | apply bA | apply bN | apply bD)) hb)
                    have NB122_139 := a_ (nel hg BK122.out)
                    have NB139_122 := a_ (nle hg BK122.out)
                    replace BK122 := a_ (blk_below (pk BK122.out) hb)
                    have NB123_139 := a_ (nel hg BK123.out)
                    have NB139_123 := a_ (nle hg BK123.out)
                    replace BK123 := a_ (blk_below (pk BK123.out) hb)
                    clear hb hbox hg
                    refine hK.out _ _ ⟨(blk_cell BK122.out 0).trans rfl, (blk_cell BK122.out 1).trans rfl, (blk_cell BK122.out 2).trans rfl⟩ (fun hHeld => ?_)
                    clear hK K
                    refine norm_ (a' := ?_) ?_ ?_
                    rotate_left
                    ·show Act.put _ (some 14) _ = _
                     simp only [Act.put, sB, sC, sD, i64_w, i32_w]
                     rfl
                    exact norm_ (by first | (simp only [putAll, Act.put, sB, sC, sD]; done) | (simp only [putAll, Act.put, sB, sC, sD]; rfl)) (hJ11 (gb139) _ ⟨hHeld, (pk BK122.out), (pk BK123.out), (pk BK139.out), GW139.out, GE139.out, NB122_139.out, NB139_122.out, NB123_139.out, NB139_123.out, (by repeat (with_reducible first | exact HB.out | refine bz ?_ (by assumption) | apply bA | apply bN | apply bD))⟩)
                  ·skip
                   rintro gb139 w34 ⟨hS_, h0_, h1_, h2_, h3_, h4_, h5_, h6_, h7_, h8_, h9_⟩
                   have n0_ : Aside0 (w34.heap[gb122]? = some (.cells #[.int .i64 a0_0, .slice A0_1 l0_1.length c0_1, .slice A0_2 l0_2.length c0_2] 31 (0, 0))) := ⟨h0_⟩
                   have n1_ : Aside0 (w34.heap[gb123]? = some (.cells #[.int .i64 0, .slice none 0 0, .slice none 0 0] 31 (0, 0))) := ⟨h1_⟩
                   have n2_ : Aside0 (w34.heap[gb139]? = some (.cells #[.int .i64 0, .slice none 0 0, .slice none 0 0] 31 (0, 0))) := ⟨h2_⟩
                   have n3_ : Aside0 (w.heap.size ≤ gb139) := ⟨h3_⟩
                   have n4_ : Aside0 (w.heap.size ≤ gb139) := ⟨h4_⟩
                   have n5_ : Aside0 (gb122 ≠ gb139) := ⟨h5_⟩
                   have n6_ : Aside0 (gb139 ≠ gb122) := ⟨h6_⟩
                   have n7_ : Aside0 (gb123 ≠ gb139) := ⟨h7_⟩
                   have n8_ : Aside0 (gb139 ≠ gb123) := ⟨h8_⟩
                   have n9_ : Aside0 (Below w.heap.size w w34) := ⟨h9_⟩
                   clear BK122
                   clear BK123
                   clear HB
                   clear h0_ h1_ h2_ h3_ h4_ h5_ h6_ h7_ h8_ h9_
                   have BK122 := n0_
                   have BK123 := n1_
                   have BK139 := n2_
                   have GW139 := n3_
                   have GE139 := n4_
                   have NB122_139 := n5_
                   have NB139_122 := n6_
                   have NB123_139 := n7_
                   have NB139_123 := n8_
                   have HB := n9_
                   clear n0_ n1_ n2_ n3_ n4_ n5_ n6_ n7_ n8_ n9_
                   have hHeld : w34.cell? ⟨gb122, 0, none⟩ = some (.int .i64 a0_0) ∧ w34.cell? ⟨gb122, 1, none⟩ = some (.slice A0_1 l0_1.length c0_1) ∧ w34.cell? ⟨gb122, 2, none⟩ = some (.slice A0_2 l0_2.length c0_2) := hS_
                   refine norm_ (a' := ?_) ?_ ?_
                   rotate_left
                   ·simp only [putAll, Act.put, sB, sC, sD]
                    rfl
                   refine two_ (i := 2) (j := 6) (Ni := some 47) (Nj := some 51) #[true, true, true, true, true, false, false, true, true, false, false, true, false] #[true, true, false, true, true, false, true, true, true, false, false, true, false] rfl rfl rfl rfl (two_of HT_.out (by kernel_rfl)) (by decide) (by decide) (fun K hK => ?_) (fun K hK => ?_)
                   ·skip
                    refine Kd.R_lit_step (Kd.int .i64) _ 3 ?hg (N := 47) ?hd (xs := ([] : List Int)) (inner := []) (ok := fun _ => True) (okp := fun _ => True) ?hr ?hp (fun _ hk => hk) trivial (Below.refl _ _) (Nat.le_refl _) (by simp) ?_; (case hd => rfl); (case hg => rfl); (case hr => first | (go_simp; done) | (go_simp; rfl)); (case hp => exact (Reps.none _ _))
                    intro v128 w35 ho36 hb hg_ hnew_
                    clear hg_ hnew_
                    (first | rw [← Ny127.out] at ho36 | (simp only [Int.reduceToNat] at ho36; rw [← Ny127.out] at ho36))
                    have HO129 := a_ (Kd.R_lower ho36 (bs HB.out))
                    replace BK122 := a_ (blk_below (pk BK122.out) hb)
                    replace BK123 := a_ (blk_below (pk BK123.out) hb)
                    replace BK139 := a_ (blk_below (pk BK139.out) hb)
                    replace HB := a_ (below_step (by repeat (with_reducible first | exact HB.out | refine bz ?_ (by assumption) | apply bA | apply bN | apply bD)) hb)
                    clear hb ho36
                    refine hK.out _ _ ⟨(blk_cell BK122.out 0).trans rfl, (blk_cell BK122.out 1).trans rfl, (blk_cell BK122.out 2).trans rfl⟩ (fun hHeld => ?_)
                    clear hK K
                    refine norm_ (a' := ?_) ?_ ?_
                    rotate_left
                    ·show Act.put _ (some 47) _ = _
                     simp only [Act.put, sB, sC, sD, i64_w, i32_w]
                     rfl
                    exact norm_ (by first | (simp only [putAll, Act.put, sB, sC, sD]; done) | (simp only [putAll, Act.put, sB, sC, sD]; rfl)) (hJ2_11 (v128, gb139) _ ⟨hHeld, (rk HO129.out), (pk BK122.out), (pk BK123.out), (pk BK139.out), GW139.out, GE139.out, NB122_139.out, NB139_122.out, NB123_139.out, NB139_123.out, (by repeat (with_reducible first | exact HB.out | refine bz ?_ (by assumption) | apply bA | apply bN | apply bD))⟩)
                   ·skip
                    refine Kd.R_lit_step (Kd.int .i64) _ 3 ?hg (N := 51) ?hd (xs := ([] : List Int)) (inner := []) (ok := fun _ => True) (okp := fun _ => True) ?hr ?hp (fun _ hk => hk) trivial (Below.refl _ _) (Nat.le_refl _) (by simp) ?_; (case hd => rfl); (case hg => rfl); (case hr => first | (go_simp; done) | (go_simp; rfl)); (case hp => exact (Reps.none _ _))
                    intro v134 w35 ho36 hb hg_ hnew_
                    clear hg_ hnew_
                    (first | rw [← Ny133.out] at ho36 | (simp only [Int.reduceToNat] at ho36; rw [← Ny133.out] at ho36))
                    have HO135 := a_ (Kd.R_lower ho36 (bs HB.out))
                    replace BK122 := a_ (blk_below (pk BK122.out) hb)
                    replace BK123 := a_ (blk_below (pk BK123.out) hb)
                    replace BK139 := a_ (blk_below (pk BK139.out) hb)
                    replace HB := a_ (below_step (by repeat (with_reducible first | exact HB.out | refine bz ?_ (by assumption) | apply bA | apply bN | apply bD)) hb)
                    clear hb ho36
                    refine hK.out _ _ ⟨(blk_cell BK122.out 0).trans rfl, (blk_cell BK122.out 1).trans rfl, (blk_cell BK122.out 2).trans rfl⟩ (fun hHeld => ?_)
                    clear hK K
                    refine norm_ (a' := ?_) ?_ ?_
                    rotate_left
                    ·show Act.put _ (some 51) _ = _
                     simp only [Act.put, sB, sC, sD, i64_w, i32_w]
                     rfl
                    exact norm_ (by first | (simp only [putAll, Act.put, sB, sC, sD]; done) | (simp only [putAll, Act.put, sB, sC, sD]; rfl)) (hJ6_11 (v134, gb139) _ ⟨hHeld, (rk HO135.out), (pk BK122.out), (pk BK123.out), (pk BK139.out), GW139.out, GE139.out, NB122_139.out, NB139_122.out, NB123_139.out, NB139_123.out, (by repeat (with_reducible first | exact HB.out | refine bz ?_ (by assumption) | apply bA | apply bN | apply bD))⟩)
                 ·skip
                  rintro v134 w35 ⟨hS_, h0_, h1_, h2_, h3_⟩
                  have n0_ : Aside0 (Kd.R (Kd.int .i64) 3 w35 w.heap.size (fun _ => True) v134 y133) := ⟨h0_⟩
                  have n1_ : Aside0 (w35.heap[gb122]? = some (.cells #[.int .i64 a0_0, .slice A0_1 l0_1.length c0_1, .slice A0_2 l0_2.length c0_2] 31 (0, 0))) := ⟨h1_⟩
                  have n2_ : Aside0 (w35.heap[gb123]? = some (.cells #[.int .i64 0, .slice none 0 0, .slice none 0 0] 31 (0, 0))) := ⟨h2_⟩
                  have n3_ : Aside0 (Below w.heap.size w w35) := ⟨h3_⟩
                  clear BK122
                  clear BK123
                  clear HB
                  clear h0_ h1_ h2_ h3_
                  have HO135 := n0_
                  have BK122 := n1_
                  have BK123 := n2_
                  have HB := n3_
                  clear n0_ n1_ n2_ n3_
                  have hHeld : w35.cell? ⟨gb122, 0, none⟩ = some (.int .i64 a0_0) ∧ w35.cell? ⟨gb122, 1, none⟩ = some (.slice A0_1 l0_1.length c0_1) ∧ w35.cell? ⟨gb122, 2, none⟩ = some (.slice A0_2 l0_2.length c0_2) := hS_
                  refine norm_ (a' := ?_) ?_ ?_
                  rotate_left
                  ·simp only [putAll, Act.put, sB, sC, sD]
                   rfl
                  refine two_ (i := 2) (j := 11) (Ni := some 47) (Nj := some 14) #[true, true, true, true, true, false, true, true, true, false, false, false, false] #[true, true, false, true, true, false, true, true, true, false, false, true, false] rfl rfl rfl rfl (two_of HT_.out (by kernel_rfl)) (by decide) (by decide) (fun K hK => ?_) (fun K hK => ?_)
                  ·skip
                   refine Kd.R_lit_step (Kd.int .i64) _ 3 ?hg (N := 47) ?hd (xs := ([] : List Int)) (inner := []) (ok := fun _ => True) (okp := fun _ => True) ?hr ?hp (fun _ hk => hk) trivial (Below.refl _ _) (Nat.le_refl _) (by simp) ?_; (case hd => rfl); (case hg => rfl); (case hr => first | (go_simp; done) | (go_simp; rfl)); (case hp => exact (Reps.none _ _))
                   intro v128 w36 ho37 hb hg_ hnew_
                   clear hg_ hnew_
                   (first | rw [← Ny127.out] at ho37 | (simp only [Int.reduceToNat] at ho37; rw [← Ny127.out] at ho37))
                   have HO129 := a_ (Kd.R_lower (nw ho37 HO135.out) (bs HB.out))
                   replace HO135 := a_ (Kd.R_elder' (rk HO135.out) (Kd.R_base ho37) hb)
                   replace BK122 := a_ (blk_below (pk BK122.out) hb)
                   replace BK123 := a_ (blk_below (pk BK123.out) hb)
                   replace HB := a_ (below_step (by repeat (with_reducible first | exact HB.out | refine bz ?_ (by assumption) | apply bA | apply bN | apply bD)) hb)
                   clear hb ho37
                   refine hK.out _ _ ⟨(blk_cell BK122.out 0).trans rfl, (blk_cell BK122.out 1).trans rfl, (blk_cell BK122.out 2).trans rfl⟩ (fun hHeld => ?_)
                   clear hK K
                   refine norm_ (a' := ?_) ?_ ?_
                   rotate_left
                   ·show Act.put _ (some 47) _ = _
                    simp only [Act.put, sB, sC, sD, i64_w, i32_w]
                    rfl
                   exact norm_ (by first | (simp only [putAll, Act.put, sB, sC, sD]; done) | (simp only [putAll, Act.put, sB, sC, sD]; rfl)) (hJ2_6 (v128, v134) _ ⟨hHeld, (rk (Kd.R_mono HO129.out (fun _ hk => hk.2))), (rk (Kd.R_mono HO135.out (fun _ hk => hk.2))), (pk BK122.out), (pk BK123.out), (by repeat (with_reducible first | exact HB.out | refine bz ?_ (by assumption) | apply bA | apply bN | apply bD))⟩)
                  ·skip
                   refine box_step ?hg (N := 14) ?hd (cs := #[.int .i64 0, .slice none 0 0, .slice none 0 0]) (t := 31) ?hr ?_; (case hd => rfl); (case hg => rfl); (case hr => first | (go_simp; done) | (go_simp; rfl))
                   intro gb139 hg w36 hbox hb
                   replace HO135 := a_ (Kd.R_below (rk HO135.out) hb)
                   have BK139 := a_ (hbox)
                   have GW139 := a_ (bsg hg HB.out)
                   have GE139 := a_ (bsg hg HB.out)
                   replace HB := a_ (below_step (by repeat (with_reducible first | exact HB.out | refine bz ?_ (by assumption) | apply bA | apply bN | apply bD)) hb)
                   have NB122_139 := a_ (nel hg BK122.out)
                   have NB139_122 := a_ (nle hg BK122.out)
                   replace BK122 := a_ (blk_below (pk BK122.out) hb)
                   have NB123_139 := a_ (nel hg BK123.out)
                   have NB139_123 := a_ (nle hg BK123.out)
                   replace BK123 := a_ (blk_below (pk BK123.out) hb)
                   clear hb hbox hg
                   refine hK.out _ _ ⟨(blk_cell BK122.out 0).trans rfl, (blk_cell BK122.out 1).trans rfl, (blk_cell BK122.out 2).trans rfl⟩ (fun hHeld => ?_)
                   clear hK K
                   refine norm_ (a' := ?_) ?_ ?_
                   rotate_left
                   ·show Act.put _ (some 14) _ = _
                    simp only [Act.put, sB, sC, sD, i64_w, i32_w]
                    rfl
                   exact norm_ (by first | (simp only [putAll, Act.put, sB, sC, sD]; done) | (simp only [putAll, Act.put, sB, sC, sD]; rfl)) (hJ6_11 (v134, gb139) _ ⟨hHeld, (rk HO135.out), (pk BK122.out), (pk BK123.out), (pk BK139.out), GW139.out, GE139.out, NB122_139.out, NB139_122.out, NB123_139.out, NB139_123.out, (by repeat (with_reducible first | exact HB.out | refine bz ?_ (by assumption) | apply bA | apply bN | apply bD))⟩)
                ·skip
                 rintro v128 w35 ⟨hS_, h0_, h1_, h2_, h3_⟩
                 have n0_ : Aside0 (Kd.R (Kd.int .i64) 3 w35 w.heap.size (fun _ => True) v128 y127) := ⟨h0_⟩
                 have n1_ : Aside0 (w35.heap[gb122]? = some (.cells #[.int .i64 a0_0, .slice A0_1 l0_1.length c0_1, .slice A0_2 l0_2.length c0_2] 31 (0, 0))) := ⟨h1_⟩
                 have n2_ : Aside0 (w35.heap[gb123]? = some (.cells #[.int .i64 0, .slice none 0 0, .slice none 0 0] 31 (0, 0))) := ⟨h2_⟩
                 have n3_ : Aside0 (Below w.heap.size w w35) := ⟨h3_⟩
                 clear BK122
                 clear BK123
                 clear HB
                 clear h0_ h1_ h2_ h3_
                 have HO129 := n0_
                 have BK122 := n1_
                 have BK123 := n2_
                 have HB := n3_
                 clear n0_ n1_ n2_ n3_
                 have hHeld : w35.cell? ⟨gb122, 0, none⟩ = some (.int .i64 a0_0) ∧ w35.cell? ⟨gb122, 1, none⟩ = some (.slice A0_1 l0_1.length c0_1) ∧ w35.cell? ⟨gb122, 2, none⟩ = some (.slice A0_2 l0_2.length c0_2) := hS_
                 refine norm_ (a' := ?_) ?_ ?_
                 rotate_left
                 ·simp only [putAll, Act.put, sB, sC, sD]
                  rfl
                 refine three_ (i := 5) (j := 6) (k := 11) (Ni := some 50) (Nj := some 51) (Nk := some 14) #[true, true, true, true, true, true, false, true, true, false, false, false, false] #[true, true, true, true, true, false, true, true, true, false, false, false, false] #[true, true, true, true, true, false, false, true, true, false, false, true, false] rfl rfl rfl rfl rfl rfl (three_of HT_.out (by kernel_rfl)) (by decide) (by decide) (by decide) (fun K hK => ?_) (fun K hK => ?_) (fun K hK => ?_)
                 ·skip
                  refine Kd.R_append_rows_step (Kd.int .i64) (w0 := w) w.heap.size (by rfl) (.tmp 47) (.tmp 49) 27 3 (.int .i64 0) 8 rfl Try.underlying27 info3 rfl (by decide) (by omega) v128 y127 l0_1 _ _ _ (fun _ => True) (fun _ => False) (by first | rfl | exact ev_tmp_3 e47) (by first | rfl | exact ev_tmp_3 e49) ?aO ?aR (fun _ _ h => h) (fun _ h => h.elim) ?aF ?aB ?aS ?aL ?_
                  (case aR => exact Kd.C_below HR0_1.out (un HB.out))
                  (case aB => exact (by repeat (with_reducible first | exact HB.out | refine bz ?_ (by assumption) | apply bA | apply bN | apply bD)))
                  (case aF => exact (fun _ _ => trivial))
                  (case aO => exact (rk HO129.out))
                  (case aS => exact (bs HB.out))
                  (case aL => have := LMc29.out; omega)
                  intro v131 w36 ho hb hg hat
                  rw [← Ny130.out] at ho
                  replace BK122 := a_ (blk_grown (pk BK122.out) hg (Kd.R_ne HO129.out BK122.out (by decide)))
                  replace BK123 := a_ (blk_grown (pk BK123.out) hg (Kd.R_ne HO129.out BK123.out (by decide)))
                  replace HB := a_ (hb)
                  have HO132 := a_ (ho)
                  clear HO129 ho hb hg hat
                  refine hK.out _ _ ⟨(blk_cell BK122.out 0).trans rfl, (blk_cell BK122.out 1).trans rfl, (blk_cell BK122.out 2).trans rfl⟩ (fun hHeld => ?_)
                  clear hK K
                  refine norm_ (a' := ?_) ?_ ?_
                  rotate_left
                  ·show Act.put _ (some 50) _ = _
                   simp only [Act.put, sB, sC, sD, i64_w, i32_w]
                   rfl
                  exact norm_ (by first | (simp only [putAll, Act.put, sB, sC, sD]; done) | (simp only [putAll, Act.put, sB, sC, sD]; rfl)) (hJ2_5 (v128, v131) _ ⟨hHeld, (rk HO132.out), (pk BK122.out), (pk BK123.out), (by repeat (with_reducible first | exact HB.out | refine bz ?_ (by assumption) | apply bA | apply bN | apply bD))⟩)
                 ·skip
                  refine Kd.R_lit_step (Kd.int .i64) _ 3 ?hg (N := 51) ?hd (xs := ([] : List Int)) (inner := []) (ok := fun _ => True) (okp := fun _ => True) ?hr ?hp (fun _ hk => hk) trivial (Below.refl _ _) (Nat.le_refl _) (by simp) ?_; (case hd => rfl); (case hg => rfl); (case hr => first | (go_simp; done) | (go_simp; rfl)); (case hp => exact (Reps.none _ _))
                  intro v134 w36 ho37 hb hg_ hnew_
                  clear hg_ hnew_
                  (first | rw [← Ny133.out] at ho37 | (simp only [Int.reduceToNat] at ho37; rw [← Ny133.out] at ho37))
                  have HO135 := a_ (Kd.R_lower (nw ho37 HO129.out) (bs HB.out))
                  replace HO129 := a_ (Kd.R_elder' (rk HO129.out) (Kd.R_base ho37) hb)
                  replace BK122 := a_ (blk_below (pk BK122.out) hb)
                  replace BK123 := a_ (blk_below (pk BK123.out) hb)
                  replace HB := a_ (below_step (by repeat (with_reducible first | exact HB.out | refine bz ?_ (by assumption) | apply bA | apply bN | apply bD)) hb)
                  clear hb ho37
                  refine hK.out _ _ ⟨(blk_cell BK122.out 0).trans rfl, (blk_cell BK122.out 1).trans rfl, (blk_cell BK122.out 2).trans rfl⟩ (fun hHeld => ?_)
                  clear hK K
                  refine norm_ (a' := ?_) ?_ ?_
                  rotate_left
                  ·show Act.put _ (some 51) _ = _
                   simp only [Act.put, sB, sC, sD, i64_w, i32_w]
                   rfl
                  exact norm_ (by first | (simp only [putAll, Act.put, sB, sC, sD]; done) | (simp only [putAll, Act.put, sB, sC, sD]; rfl)) (hJ2_6 (v128, v134) _ ⟨hHeld, (rk (Kd.R_mono HO129.out (fun _ hk => hk.2))), (rk (Kd.R_mono HO135.out (fun _ hk => hk.2))), (pk BK122.out), (pk BK123.out), (by repeat (with_reducible first | exact HB.out | refine bz ?_ (by assumption) | apply bA | apply bN | apply bD))⟩)
                 ·skip
                  refine box_step ?hg (N := 14) ?hd (cs := #[.int .i64 0, .slice none 0 0, .slice none 0 0]) (t := 31) ?hr ?_; (case hd => rfl); (case hg => rfl); (case hr => first | (go_simp; done) | (go_simp; rfl))
                  intro gb139 hg w36 hbox hb
                  replace HO129 := a_ (Kd.R_below (rk HO129.out) hb)
                  have BK139 := a_ (hbox)
                  have GW139 := a_ (bsg hg HB.out)
                  have GE139 := a_ (bsg hg HB.out)
                  replace HB := a_ (below_step (by repeat (with_reducible first | exact HB.out | refine bz ?_ (by assumption) | apply bA | apply bN | apply bD)) hb)
                  have NB122_139 := a_ (nel hg BK122.out)
                  have NB139_122 := a_ (nle hg BK122.out)
                  replace BK122 := a_ (blk_below (pk BK122.out) hb)
                  have NB123_139 := a_ (nel hg BK123.out)
                  have NB139_123 := a_ (nle hg BK123.out)
                  replace BK123 := a_ (blk_below (pk BK123.out) hb)
                  clear hb hbox hg
                  refine hK.out _ _ ⟨(blk_cell BK122.out 0).trans rfl, (blk_cell BK122.out 1).trans rfl, (blk_cell BK122.out 2).trans rfl⟩ (fun hHeld => ?_)
                  clear hK K
                  refine norm_ (a' := ?_) ?_ ?_
                  rotate_left
                  ·show Act.put _ (some 14) _ = _
                   simp only [Act.put, sB, sC, sD, i64_w, i32_w]
                   rfl
                  exact norm_ (by first | (simp only [putAll, Act.put, sB, sC, sD]; done) | (simp only [putAll, Act.put, sB, sC, sD]; rfl)) (hJ2_11 (v128, gb139) _ ⟨hHeld, (rk HO129.out), (pk BK122.out), (pk BK123.out), (pk BK139.out), GW139.out, GE139.out, NB122_139.out, NB139_122.out, NB123_139.out, NB139_123.out, (by repeat (with_reducible first | exact HB.out | refine bz ?_ (by assumption) | apply bA | apply bN | apply bD))⟩)
               ·skip
                rintro ⟨v134, gb139⟩ w36 ⟨hS_, h0_, h1_, h2_, h3_, h4_, h5_, h6_, h7_, h8_, h9_, h10_⟩
                have n0_ : Aside0 (Kd.R (Kd.int .i64) 3 w36 w.heap.size (fun _ => True) v134 y133) := ⟨h0_⟩
                have n1_ : Aside0 (w36.heap[gb122]? = some (.cells #[.int .i64 a0_0, .slice A0_1 l0_1.length c0_1, .slice A0_2 l0_2.length c0_2] 31 (0, 0))) := ⟨h1_⟩
                have n2_ : Aside0 (w36.heap[gb123]? = some (.cells #[.int .i64 0, .slice none 0 0, .slice none 0 0] 31 (0, 0))) := ⟨h2_⟩
                have n3_ : Aside0 (w36.heap[gb139]? = some (.cells #[.int .i64 0, .slice none 0 0, .slice none 0 0] 31 (0, 0))) := ⟨h3_⟩
                have n4_ : Aside0 (w.heap.size ≤ gb139) := ⟨h4_⟩
                have n5_ : Aside0 (w.heap.size ≤ gb139) := ⟨h5_⟩
                have n6_ : Aside0 (gb122 ≠ gb139) := ⟨h6_⟩
                have n7_ : Aside0 (gb139 ≠ gb122) := ⟨h7_⟩
                have n8_ : Aside0 (gb123 ≠ gb139) := ⟨h8_⟩
                have n9_ : Aside0 (gb139 ≠ gb123) := ⟨h9_⟩
                have n10_ : Aside0 (Below w.heap.size w w36) := ⟨h10_⟩
                clear BK122
                clear BK123
                clear HB
                clear h0_ h1_ h2_ h3_ h4_ h5_ h6_ h7_ h8_ h9_ h10_
                have HO135 := n0_
                have BK122 := n1_
                have BK123 := n2_
                have BK139 := n3_
                have GW139 := n4_
                have GE139 := n5_
                have NB122_139 := n6_
                have NB139_122 := n7_
                have NB123_139 := n8_
                have NB139_123 := n9_
                have HB := n10_
                clear n0_ n1_ n2_ n3_ n4_ n5_ n6_ n7_ n8_ n9_ n10_
                have hHeld : w36.cell? ⟨gb122, 0, none⟩ = some (.int .i64 a0_0) ∧ w36.cell? ⟨gb122, 1, none⟩ = some (.slice A0_1 l0_1.length c0_1) ∧ w36.cell? ⟨gb122, 2, none⟩ = some (.slice A0_2 l0_2.length c0_2) := hS_
                refine norm_ (a' := ?_) ?_ ?_
                rotate_left
                ·simp only [putAll, Act.put, sB, sC, sD]
                 rfl
                refine one_ (i := 2) (N := some 47) #[true, true, true, true, true, false, true, true, true, false, false, true, false] rfl rfl (one_of HT_.out (by kernel_rfl)) (by decide) (fun K hK => ?_)
                refine Kd.R_lit_step (Kd.int .i64) _ 3 ?hg (N := 47) ?hd (xs := ([] : List Int)) (inner := []) (ok := fun _ => True) (okp := fun _ => True) ?hr ?hp (fun _ hk => hk) trivial (Below.refl _ _) (Nat.le_refl _) (by simp) ?_; (case hd => rfl); (case hg => rfl); (case hr => first | (go_simp; done) | (go_simp; rfl)); (case hp => exact (Reps.none _ _))
                intro v128 w37 ho38 hb hg_ hnew_
                clear hg_ hnew_
                (first | rw [← Ny127.out] at ho38 | (simp only [Int.reduceToNat] at ho38; rw [← Ny127.out] at ho38))
                have HO129 := a_ (Kd.R_lower (nw ho38 HO135.out) (bs HB.out))
                replace HO135 := a_ (Kd.R_elder' (rk HO135.out) (Kd.R_base ho38) hb)
                replace BK122 := a_ (blk_below (pk BK122.out) hb)
                replace BK123 := a_ (blk_below (pk BK123.out) hb)
                replace BK139 := a_ (blk_below (pk BK139.out) hb)
                replace HB := a_ (below_step (by repeat (with_reducible first | exact HB.out | refine bz ?_ (by assumption) | apply bA | apply bN | apply bD)) hb)
                clear hb ho38
                refine hK.out _ _ ⟨(blk_cell BK122.out 0).trans rfl, (blk_cell BK122.out 1).trans rfl, (blk_cell BK122.out 2).trans rfl⟩ (fun hHeld => ?_)
                clear hK K
                refine norm_ (a' := ?_) ?_ ?_
                rotate_left
                ·show Act.put _ (some 47) _ = _
                 simp only [Act.put, sB, sC, sD, i64_w, i32_w]
                 rfl
                exact norm_ (by first | (simp only [putAll, Act.put, sB, sC, sD]; done) | (simp only [putAll, Act.put, sB, sC, sD]; rfl)) (hJ2_6_11 (v128, v134, gb139) _ ⟨hHeld, (rk (Kd.R_mono HO129.out (fun _ hk => hk.2))), (rk (Kd.R_mono HO135.out (fun _ hk => hk.2))), (pk BK122.out), (pk BK123.out), (pk BK139.out), GW139.out, GE139.out, NB122_139.out, NB139_122.out, NB123_139.out, NB139_123.out, (by repeat (with_reducible first | exact HB.out | refine bz ?_ (by assumption) | apply bA | apply bN | apply bD))⟩)
              ·skip
               rintro ⟨v128, gb139⟩ w36 ⟨hS_, h0_, h1_, h2_, h3_, h4_, h5_, h6_, h7_, h8_, h9_, h10_⟩
               have n0_ : Aside0 (Kd.R (Kd.int .i64) 3 w36 w.heap.size (fun _ => True) v128 y127) := ⟨h0_⟩
               have n1_ : Aside0 (w36.heap[gb122]? = some (.cells #[.int .i64 a0_0, .slice A0_1 l0_1.length c0_1, .slice A0_2 l0_2.length c0_2] 31 (0, 0))) := ⟨h1_⟩
               have n2_ : Aside0 (w36.heap[gb123]? = some (.cells #[.int .i64 0, .slice none 0 0, .slice none 0 0] 31 (0, 0))) := ⟨h2_⟩
               have n3_ : Aside0 (w36.heap[gb139]? = some (.cells #[.int .i64 0, .slice none 0 0, .slice none 0 0] 31 (0, 0))) := ⟨h3_⟩
               have n4_ : Aside0 (w.heap.size ≤ gb139) := ⟨h4_⟩
               have n5_ : Aside0 (w.heap.size ≤ gb139) := ⟨h5_⟩
               have n6_ : Aside0 (gb122 ≠ gb139) := ⟨h6_⟩
               have n7_ : Aside0 (gb139 ≠ gb122) := ⟨h7_⟩
               have n8_ : Aside0 (gb123 ≠ gb139) := ⟨h8_⟩
               have n9_ : Aside0 (gb139 ≠ gb123) := ⟨h9_⟩
               have n10_ : Aside0 (Below w.heap.size w w36) := ⟨h10_⟩
               clear BK122
               clear BK123
               clear HB
               clear h0_ h1_ h2_ h3_ h4_ h5_ h6_ h7_ h8_ h9_ h10_
               have HO129 := n0_
               have BK122 := n1_
               have BK123 := n2_
               have BK139 := n3_
               have GW139 := n4_
               have GE139 := n5_
               have NB122_139 := n6_
               have NB139_122 := n7_
               have NB123_139 := n8_
               have NB139_123 := n9_
               have HB := n10_
               clear n0_ n1_ n2_ n3_ n4_ n5_ n6_ n7_ n8_ n9_ n10_
               have hHeld : w36.cell? ⟨gb122, 0, none⟩ = some (.int .i64 a0_0) ∧ w36.cell? ⟨gb122, 1, none⟩ = some (.slice A0_1 l0_1.length c0_1) ∧ w36.cell? ⟨gb122, 2, none⟩ = some (.slice A0_2 l0_2.length c0_2) := hS_
               refine norm_ (a' := ?_) ?_ ?_
               rotate_left
               ·simp only [putAll, Act.put, sB, sC, sD]
                rfl
               refine two_ (i := 5) (j := 6) (Ni := some 50) (Nj := some 51) #[true, true, true, true, true, true, false, true, true, false, false, true, false] #[true, true, true, true, true, false, true, true, true, false, false, true, false] rfl rfl rfl rfl (two_of HT_.out (by kernel_rfl)) (by decide) (by decide) (fun K hK => ?_) (fun K hK => ?_)
               ·skip
                refine Kd.R_append_rows_step (Kd.int .i64) (w0 := w) w.heap.size (by rfl) (.tmp 47) (.tmp 49) 27 3 (.int .i64 0) 8 rfl Try.underlying27 info3 rfl (by decide) (by omega) v128 y127 l0_1 _ _ _ (fun _ => True) (fun _ => False) (by first | rfl | exact ev_tmp_3 e47) (by first | rfl | exact ev_tmp_3 e49) ?aO ?aR (fun _ _ h => h) (fun _ h => h.elim) ?aF ?aB ?aS ?aL ?_
                (case aR => exact Kd.C_below HR0_1.out (un HB.out))
                (case aB => exact (by repeat (with_reducible first | exact HB.out | refine bz ?_ (by assumption) | apply bA | apply bN | apply bD)))
                (case aF => exact (fun _ _ => trivial))
                (case aO => exact (rk HO129.out))
                (case aS => exact (bs HB.out))
                (case aL => have := LMc29.out; omega)
                intro v131 w37 ho hb hg hat
                rw [← Ny130.out] at ho
                replace BK122 := a_ (blk_grown (pk BK122.out) hg (Kd.R_ne HO129.out BK122.out (by decide)))
                replace BK123 := a_ (blk_grown (pk BK123.out) hg (Kd.R_ne HO129.out BK123.out (by decide)))
                replace BK139 := a_ (blk_grown (pk BK139.out) hg (Kd.R_ne HO129.out BK139.out (by decide)))
                replace HB := a_ (hb)
                have HO132 := a_ (ho)
                clear HO129 ho hb hg hat
                refine hK.out _ _ ⟨(blk_cell BK122.out 0).trans rfl, (blk_cell BK122.out 1).trans rfl, (blk_cell BK122.out 2).trans rfl⟩ (fun hHeld => ?_)
                clear hK K
                refine norm_ (a' := ?_) ?_ ?_
                rotate_left
                ·show Act.put _ (some 50) _ = _
                 simp only [Act.put, sB, sC, sD, i64_w, i32_w]
                 rfl
                exact norm_ (by first | (simp only [putAll, Act.put, sB, sC, sD]; done) | (simp only [putAll, Act.put, sB, sC, sD]; rfl)) (hJ2_5_11 (v128, v131, gb139) _ ⟨hHeld, (rk HO132.out), (pk BK122.out), (pk BK123.out), (pk BK139.out), GW139.out, GE139.out, NB122_139.out, NB139_122.out, NB123_139.out, NB139_123.out, (by repeat (with_reducible first | exact HB.out | refine bz ?_ (by assumption) | apply bA | apply bN | apply bD))⟩)
               ·skip
                refine Kd.R_lit_step (Kd.int .i64) _ 3 ?hg (N := 51) ?hd (xs := ([] : List Int)) (inner := []) (ok := fun _ => True) (okp := fun _ => True) ?hr ?hp (fun _ hk => hk) trivial (Below.refl _ _) (Nat.le_refl _) (by simp) ?_; (case hd => rfl); (case hg => rfl); (case hr => first | (go_simp; done) | (go_simp; rfl)); (case hp => exact (Reps.none _ _))
                intro v134 w37 ho38 hb hg_ hnew_
                clear hg_ hnew_
                (first | rw [← Ny133.out] at ho38 | (simp only [Int.reduceToNat] at ho38; rw [← Ny133.out] at ho38))
                have HO135 := a_ (Kd.R_lower (nw ho38 HO129.out) (bs HB.out))
                replace HO129 := a_ (Kd.R_elder' (rk HO129.out) (Kd.R_base ho38) hb)
                replace BK122 := a_ (blk_below (pk BK122.out) hb)
                replace BK123 := a_ (blk_below (pk BK123.out) hb)
                replace BK139 := a_ (blk_below (pk BK139.out) hb)
                replace HB := a_ (below_step (by repeat (with_reducible first | exact HB.out | refine bz ?_ (by assumption) | apply bA | apply bN | apply bD)) hb)
                clear hb ho38
                refine hK.out _ _ ⟨(blk_cell BK122.out 0).trans rfl, (blk_cell BK122.out 1).trans rfl, (blk_cell BK122.out 2).trans rfl⟩ (fun hHeld => ?_)
                clear hK K
                refine norm_ (a' := ?_) ?_ ?_
                rotate_left
                ·show Act.put _ (some 51) _ = _
                 simp only [Act.put, sB, sC, sD, i64_w, i32_w]
                 rfl
                exact norm_ (by first | (simp only [putAll, Act.put, sB, sC, sD]; done) | (simp only [putAll, Act.put, sB, sC, sD]; rfl)) (hJ2_6_11 (v128, v134, gb139) _ ⟨hHeld, (rk (Kd.R_mono HO129.out (fun _ hk => hk.2))), (rk (Kd.R_mono HO135.out (fun _ hk => hk.2))), (pk BK122.out), (pk BK123.out), (pk BK139.out), GW139.out, GE139.out, NB122_139.out, NB139_122.out, NB123_139.out, NB139_123.out, (by repeat (with_reducible first | exact HB.out | refine bz ?_ (by assumption) | apply bA | apply bN | apply bD))⟩)
             ·skip
              rintro ⟨v128, v134⟩ w37 ⟨hS_, h0_, h1_, h2_, h3_, h4_⟩
              have n0_ : Aside0 (Kd.R (Kd.int .i64) 3 w37 w.heap.size (fun k_ => N_ v134 k_) v128 y127) := ⟨h0_⟩
              have n1_ : Aside0 (Kd.R (Kd.int .i64) 3 w37 w.heap.size (fun k_ => N_ v128 k_) v134 y133) := ⟨h1_⟩
              have n2_ : Aside0 (w37.heap[gb122]? = some (.cells #[.int .i64 a0_0, .slice A0_1 l0_1.length c0_1, .slice A0_2 l0_2.length c0_2] 31 (0, 0))) := ⟨h2_⟩
              have n3_ : Aside0 (w37.heap[gb123]? = some (.cells #[.int .i64 0, .slice none 0 0, .slice none 0 0] 31 (0, 0))) := ⟨h3_⟩
              have n4_ : Aside0 (Below w.heap.size w w37) := ⟨h4_⟩
              clear BK122
              clear BK123
              clear HB
              clear h0_ h1_ h2_ h3_ h4_
              have HO129 := n0_
              have HO135 := n1_
              have BK122 := n2_
              have BK123 := n3_
              have HB := n4_
              clear n0_ n1_ n2_ n3_ n4_
              have hHeld : w37.cell? ⟨gb122, 0, none⟩ = some (.int .i64 a0_0) ∧ w37.cell? ⟨gb122, 1, none⟩ = some (.slice A0_1 l0_1.length c0_1) ∧ w37.cell? ⟨gb122, 2, none⟩ = some (.slice A0_2 l0_2.length c0_2) := hS_
              refine norm_ (a' := ?_) ?_ ?_
              rotate_left
              ·simp only [putAll, Act.put, sB, sC, sD]
               rfl
              refine two_ (i := 5) (j := 11) (Ni := some 50) (Nj := some 14) #[true, true, true, true, true, true, true, true, true, false, false, false, false] #[true, true, true, true, true, false, true, true, true, false, false, true, false] rfl rfl rfl rfl (two_of HT_.out (by kernel_rfl)) (by decide) (by decide) (fun K hK => ?_) (fun K hK => ?_)
              ·skip
               refine Kd.R_append_rows_step (Kd.int .i64) (w0 := w) w.heap.size (by rfl) (.tmp 47) (.tmp 49) 27 3 (.int .i64 0) 8 rfl Try.underlying27 info3 rfl (by decide) (by omega) v128 y127 l0_1 _ _ _ (fun k_ => N_ v134 k_) (fun _ => False) (by first | rfl | exact ev_tmp_3 e47) (by first | rfl | exact ev_tmp_3 e49) ?aO ?aR (fun _ _ h => h) (fun _ h => h.elim) ?aF ?aB ?aS ?aL ?_
               (case aR => exact Kd.C_below HR0_1.out (un HB.out))
               (case aB => exact (by repeat (with_reducible first | exact HB.out | refine bz ?_ (by assumption) | apply bA | apply bN | apply bD)))
               (case aF => exact (fun k_ hk => Kd.fresh' (Kd.R_lt (rk HO135.out)) k_ hk))
               (case aO => exact (rk HO129.out))
               (case aS => exact (bs HB.out))
               (case aL => have := LMc29.out; omega)
               intro v131 w38 ho hb hg hat
               rw [← Ny130.out] at ho
               replace BK122 := a_ (blk_grown (pk BK122.out) hg (Kd.R_ne HO129.out BK122.out (by decide)))
               replace BK123 := a_ (blk_grown (pk BK123.out) hg (Kd.R_ne HO129.out BK123.out (by decide)))
               replace HO135 := a_ (Kd.R_after (ok := (fun _ => True)) (rk (Kd.R_mono HO135.out (fun _ hk => ⟨trivial, hk⟩))) hg hat)
               replace HB := a_ (hb)
               have HO132 := a_ (ho)
               clear HO129 ho hb hg hat
               refine hK.out _ _ ⟨(blk_cell BK122.out 0).trans rfl, (blk_cell BK122.out 1).trans rfl, (blk_cell BK122.out 2).trans rfl⟩ (fun hHeld => ?_)
               clear hK K
               refine norm_ (a' := ?_) ?_ ?_
               rotate_left
               ·show Act.put _ (some 50) _ = _
                simp only [Act.put, sB, sC, sD, i64_w, i32_w]
                rfl
               exact norm_ (by first | (simp only [putAll, Act.put, sB, sC, sD]; done) | (simp only [putAll, Act.put, sB, sC, sD]; rfl)) (hJ2_5_6 (v128, v131, v134) _ ⟨hHeld, (rk HO132.out), (rk (Kd.R_mono HO135.out (fun _ hk => hk.2))), (pk BK122.out), (pk BK123.out), (by repeat (with_reducible first | exact HB.out | refine bz ?_ (by assumption) | apply bA | apply bN | apply bD))⟩)
              ·skip
               refine box_step ?hg (N := 14) ?hd (cs := #[.int .i64 0, .slice none 0 0, .slice none 0 0]) (t := 31) ?hr ?_; (case hd => rfl); (case hg => rfl); (case hr => first | (go_simp; done) | (go_simp; rfl))
               intro gb139 hg w38 hbox hb
               replace HO129 := a_ (Kd.R_below (rk HO129.out) hb)
               replace HO135 := a_ (Kd.R_below (rk HO135.out) hb)
               have BK139 := a_ (hbox)
               have GW139 := a_ (bsg hg HB.out)
               have GE139 := a_ (bsg hg HB.out)
               replace HB := a_ (below_step (by repeat (with_reducible first | exact HB.out | refine bz ?_ (by assumption) | apply bA | apply bN | apply bD)) hb)
               have NB122_139 := a_ (nel hg BK122.out)
               have NB139_122 := a_ (nle hg BK122.out)
               replace BK122 := a_ (blk_below (pk BK122.out) hb)
               have NB123_139 := a_ (nel hg BK123.out)
               have NB139_123 := a_ (nle hg BK123.out)
               replace BK123 := a_ (blk_below (pk BK123.out) hb)
               clear hb hbox hg
               refine hK.out _ _ ⟨(blk_cell BK122.out 0).trans rfl, (blk_cell BK122.out 1).trans rfl, (blk_cell BK122.out 2).trans rfl⟩ (fun hHeld => ?_)
               clear hK K
               refine norm_ (a' := ?_) ?_ ?_
               rotate_left
               ·show Act.put _ (some 14) _ = _
                simp only [Act.put, sB, sC, sD, i64_w, i32_w]
                rfl
               exact norm_ (by first | (simp only [putAll, Act.put, sB, sC, sD]; done) | (simp only [putAll, Act.put, sB, sC, sD]; rfl)) (hJ2_6_11 (v128, v134, gb139) _ ⟨hHeld, (rk HO129.out), (rk HO135.out), (pk BK122.out), (pk BK123.out), (pk BK139.out), GW139.out, GE139.out, NB122_139.out, NB139_122.out, NB123_139.out, NB139_123.out, (by repeat (with_reducible first | exact HB.out | refine bz ?_ (by assumption) | apply bA | apply bN | apply bD))⟩)
            ·skip
             rintro ⟨v128, v131⟩ w36 ⟨hS_, h0_, h1_, h2_, h3_⟩
             have n0_ : Aside0 (Kd.R (Kd.int .i64) 3 w36 w.heap.size (fun _ => True) v131 y130) := ⟨h0_⟩
             have n1_ : Aside0 (w36.heap[gb122]? = some (.cells #[.int .i64 a0_0, .slice A0_1 l0_1.length c0_1, .slice A0_2 l0_2.length c0_2] 31 (0, 0))) := ⟨h1_⟩
             have n2_ : Aside0 (w36.heap[gb123]? = some (.cells #[.int .i64 0, .slice none 0 0, .slice none 0 0] 31 (0, 0))) := ⟨h2_⟩
             have n3_ : Aside0 (Below w.heap.size w w36) := ⟨h3_⟩
             clear BK122
             clear BK123
             clear HB
             clear h0_ h1_ h2_ h3_
             have HO132 := n0_
             have BK122 := n1_
             have BK123 := n2_
             have HB := n3_
             clear n0_ n1_ n2_ n3_
             have hHeld : w36.cell? ⟨gb122, 0, none⟩ = some (.int .i64 a0_0) ∧ w36.cell? ⟨gb122, 1, none⟩ = some (.slice A0_1 l0_1.length c0_1) ∧ w36.cell? ⟨gb122, 2, none⟩ = some (.slice A0_2 l0_2.length c0_2) := hS_
             refine norm_ (a' := ?_) ?_ ?_
             rotate_left
             ·simp only [putAll, Act.put, sB, sC, sD]
              rfl
             refine two_ (i := 6) (j := 11) (Ni := some 51) (Nj := some 14) #[true, true, true, true, true, true, true, true, true, false, false, false, false] #[true, true, true, true, true, true, false, true, true, false, false, true, false] rfl rfl rfl rfl (two_of HT_.out (by kernel_rfl)) (by decide) (by decide) (fun K hK => ?_) (fun K hK => ?_)
             ·skip
              refine Kd.R_lit_step (Kd.int .i64) _ 3 ?hg (N := 51) ?hd (xs := ([] : List Int)) (inner := []) (ok := fun _ => True) (okp := fun _ => True) ?hr ?hp (fun _ hk => hk) trivial (Below.refl _ _) (Nat.le_refl _) (by simp) ?_; (case hd => rfl); (case hg => rfl); (case hr => first | (go_simp; done) | (go_simp; rfl)); (case hp => exact (Reps.none _ _))
              intro v134 w37 ho38 hb hg_ hnew_
              clear hg_ hnew_
              (first | rw [← Ny133.out] at ho38 | (simp only [Int.reduceToNat] at ho38; rw [← Ny133.out] at ho38))
              have HO135 := a_ (Kd.R_lower (nw ho38 HO132.out) (bs HB.out))
              replace HO132 := a_ (Kd.R_elder' (rk HO132.out) (Kd.R_base ho38) hb)
              replace BK122 := a_ (blk_below (pk BK122.out) hb)
              replace BK123 := a_ (blk_below (pk BK123.out) hb)
              replace HB := a_ (below_step (by repeat (with_reducible first | exact HB.out | refine bz ?_ (by assumption) | apply bA | apply bN | apply bD)) hb)
              clear hb ho38
              refine hK.out _ _ ⟨(blk_cell BK122.out 0).trans rfl, (blk_cell BK122.out 1).trans rfl, (blk_cell BK122.out 2).trans rfl⟩ (fun hHeld => ?_)
              clear hK K
              refine norm_ (a' := ?_) ?_ ?_
              rotate_left
              ·show Act.put _ (some 51) _ = _
               simp only [Act.put, sB, sC, sD, i64_w, i32_w]
               rfl
              exact norm_ (by first | (simp only [putAll, Act.put, sB, sC, sD]; done) | (simp only [putAll, Act.put, sB, sC, sD]; rfl)) (hJ2_5_6 (v128, v131, v134) _ ⟨hHeld, (rk (Kd.R_mono HO132.out (fun _ hk => hk.2))), (rk (Kd.R_mono HO135.out (fun _ hk => hk.2))), (pk BK122.out), (pk BK123.out), (by repeat (with_reducible first | exact HB.out | refine bz ?_ (by assumption) | apply bA | apply bN | apply bD))⟩)
             ·skip
              refine box_step ?hg (N := 14) ?hd (cs := #[.int .i64 0, .slice none 0 0, .slice none 0 0]) (t := 31) ?hr ?_; (case hd => rfl); (case hg => rfl); (case hr => first | (go_simp; done) | (go_simp; rfl))
              intro gb139 hg w37 hbox hb
              replace HO132 := a_ (Kd.R_below (rk HO132.out) hb)
              have BK139 := a_ (hbox)
              have GW139 := a_ (bsg hg HB.out)
              have GE139 := a_ (bsg hg HB.out)
              replace HB := a_ (below_step (by repeat (with_reducible first | exact HB.out | refine bz ?_ (by assumption) | apply bA | apply bN | apply bD)) hb)
              have NB122_139 := a_ (nel hg BK122.out)
              have NB139_122 := a_ (nle hg BK122.out)
              replace BK122 := a_ (blk_below (pk BK122.out) hb)
              have NB123_139 := a_ (nel hg BK123.out)
              have NB139_123 := a_ (nle hg BK123.out)
              replace BK123 := a_ (blk_below (pk BK123.out) hb)
              clear hb hbox hg
              refine hK.out _ _ ⟨(blk_cell BK122.out 0).trans rfl, (blk_cell BK122.out 1).trans rfl, (blk_cell BK122.out 2).trans rfl⟩ (fun hHeld => ?_)
              clear hK K
              refine norm_ (a' := ?_) ?_ ?_
              rotate_left
              ·show Act.put _ (some 14) _ = _
               simp only [Act.put, sB, sC, sD, i64_w, i32_w]
               rfl
              exact norm_ (by first | (simp only [putAll, Act.put, sB, sC, sD]; done) | (simp only [putAll, Act.put, sB, sC, sD]; rfl)) (hJ2_5_11 (v128, v131, gb139) _ ⟨hHeld, (rk HO132.out), (pk BK122.out), (pk BK123.out), (pk BK139.out), GW139.out, GE139.out, NB122_139.out, NB139_122.out, NB123_139.out, NB139_123.out, (by repeat (with_reducible first | exact HB.out | refine bz ?_ (by assumption) | apply bA | apply bN | apply bD))⟩)
           ·skip
            rintro ⟨v128, v134, gb139⟩ w38 ⟨hS_, h0_, h1_, h2_, h3_, h4_, h5_, h6_, h7_, h8_, h9_, h10_, h11_⟩
            have n0_ : Aside0 (Kd.R (Kd.int .i64) 3 w38 w.heap.size (fun k_ => N_ v134 k_) v128 y127) := ⟨h0_⟩
            have n1_ : Aside0 (Kd.R (Kd.int .i64) 3 w38 w.heap.size (fun k_ => N_ v128 k_) v134 y133) := ⟨h1_⟩
            have n2_ : Aside0 (w38.heap[gb122]? = some (.cells #[.int .i64 a0_0, .slice A0_1 l0_1.length c0_1, .slice A0_2 l0_2.length c0_2] 31 (0, 0))) := ⟨h2_⟩
            have n3_ : Aside0 (w38.heap[gb123]? = some (.cells #[.int .i64 0, .slice none 0 0, .slice none 0 0] 31 (0, 0))) := ⟨h3_⟩
            have n4_ : Aside0 (w38.heap[gb139]? = some (.cells #[.int .i64 0, .slice none 0 0, .slice none 0 0] 31 (0, 0))) := ⟨h4_⟩
            have n5_ : Aside0 (w.heap.size ≤ gb139) := ⟨h5_⟩
            have n6_ : Aside0 (w.heap.size ≤ gb139) := ⟨h6_⟩
            have n7_ : Aside0 (gb122 ≠ gb139) := ⟨h7_⟩
            have n8_ : Aside0 (gb139 ≠ gb122) := ⟨h8_⟩
            have n9_ : Aside0 (gb123 ≠ gb139) := ⟨h9_⟩
            have n10_ : Aside0 (gb139 ≠ gb123) := ⟨h10_⟩
            have n11_ : Aside0 (Below w.heap.size w w38) := ⟨h11_⟩
            clear BK122
            clear BK123
            clear HB
            clear h0_ h1_ h2_ h3_ h4_ h5_ h6_ h7_ h8_ h9_ h10_ h11_
            have HO129 := n0_
            have HO135 := n1_
            have BK122 := n2_
            have BK123 := n3_
            have BK139 := n4_
            have GW139 := n5_
            have GE139 := n6_
            have NB122_139 := n7_
            have NB139_122 := n8_
            have NB123_139 := n9_
            have NB139_123 := n10_
            have HB := n11_
            clear n0_ n1_ n2_ n3_ n4_ n5_ n6_ n7_ n8_ n9_ n10_ n11_
            have hHeld : w38.cell? ⟨gb122, 0, none⟩ = some (.int .i64 a0_0) ∧ w38.cell? ⟨gb122, 1, none⟩ = some (.slice A0_1 l0_1.length c0_1) ∧ w38.cell? ⟨gb122, 2, none⟩ = some (.slice A0_2 l0_2.length c0_2) := hS_
            refine norm_ (a' := ?_) ?_ ?_
            rotate_left
            ·simp only [putAll, Act.put, sB, sC, sD]
             rfl
            refine one_ (i := 5) (N := some 50) #[true, true, true, true, true, true, true, true, true, false, false, true, false] rfl rfl (one_of HT_.out (by kernel_rfl)) (by decide) (fun K hK => ?_)
            refine Kd.R_append_rows_step (Kd.int .i64) (w0 := w) w.heap.size (by rfl) (.tmp 47) (.tmp 49) 27 3 (.int .i64 0) 8 rfl Try.underlying27 info3 rfl (by decide) (by omega) v128 y127 l0_1 _ _ _ (fun k_ => N_ v134 k_) (fun _ => False) (by first | rfl | exact ev_tmp_3 e47) (by first | rfl | exact ev_tmp_3 e49) ?aO ?aR (fun _ _ h => h) (fun _ h => h.elim) ?aF ?aB ?aS ?aL ?_
            (case aR => exact Kd.C_below HR0_1.out (un HB.out))
            (case aB => exact (by repeat (with_reducible first | exact HB.out | refine bz ?_ (by assumption) | apply bA | apply bN | apply bD)))
            (case aF => exact (fun k_ hk => Kd.fresh' (Kd.R_lt (rk HO135.out)) k_ hk))
            (case aO => exact (rk HO129.out))
            (case aS => exact (bs HB.out))
            (case aL => have := LMc29.out; omega)
            intro v131 w39 ho hb hg hat
            rw [← Ny130.out] at ho
            replace BK122 := a_ (blk_grown (pk BK122.out) hg (Kd.R_ne HO129.out BK122.out (by decide)))
            replace BK123 := a_ (blk_grown (pk BK123.out) hg (Kd.R_ne HO129.out BK123.out (by decide)))
            replace HO135 := a_ (Kd.R_after (ok := (fun _ => True)) (rk (Kd.R_mono HO135.out (fun _ hk => ⟨trivial, hk⟩))) hg hat)
            replace BK139 := a_ (blk_grown (pk BK139.out) hg (Kd.R_ne HO129.out BK139.out (by decide)))
            replace HB := a_ (hb)
            have HO132 := a_ (ho)
            clear HO129 ho hb hg hat
            refine hK.out _ _ ⟨(blk_cell BK122.out 0).trans rfl, (blk_cell BK122.out 1).trans rfl, (blk_cell BK122.out 2).trans rfl⟩ (fun hHeld => ?_)
            clear hK K
            refine norm_ (a' := ?_) ?_ ?_
            rotate_left
            ·show Act.put _ (some 50) _ = _
             simp only [Act.put, sB, sC, sD, i64_w, i32_w]
             rfl
            exact norm_ (by first | (simp only [putAll, Act.put, sB, sC, sD]; done) | (simp only [putAll, Act.put, sB, sC, sD]; rfl)) (hJ2_5_6_11 (v128, v131, v134, gb139) _ ⟨hHeld, (rk HO132.out), (rk (Kd.R_mono HO135.out (fun _ hk => hk.2))), (pk BK122.out), (pk BK123.out), (pk BK139.out), GW139.out, GE139.out, NB122_139.out, NB139_122.out, NB123_139.out, NB139_123.out, (by repeat (with_reducible first | exact HB.out | refine bz ?_ (by assumption) | apply bA | apply bN | apply bD))⟩)
          ·skip
           rintro ⟨v128, v131, gb139⟩ w37 ⟨hS_, h0_, h1_, h2_, h3_, h4_, h5_, h6_, h7_, h8_, h9_, h10_⟩
           have n0_ : Aside0 (Kd.R (Kd.int .i64) 3 w37 w.heap.size (fun _ => True) v131 y130) := ⟨h0_⟩
           have n1_ : Aside0 (w37.heap[gb122]? = some (.cells #[.int .i64 a0_0, .slice A0_1 l0_1.length c0_1, .slice A0_2 l0_2.length c0_2] 31 (0, 0))) := ⟨h1_⟩
           have n2_ : Aside0 (w37.heap[gb123]? = some (.cells #[.int .i64 0, .slice none 0 0, .slice none 0 0] 31 (0, 0))) := ⟨h2_⟩
           have n3_ : Aside0 (w37.heap[gb139]? = some (.cells #[.int .i64 0, .slice none 0 0, .slice none 0 0] 31 (0, 0))) := ⟨h3_⟩
           have n4_ : Aside0 (w.heap.size ≤ gb139) := ⟨h4_⟩
           have n5_ : Aside0 (w.heap.size ≤ gb139) := ⟨h5_⟩
           have n6_ : Aside0 (gb122 ≠ gb139) := ⟨h6_⟩
           have n7_ : Aside0 (gb139 ≠ gb122) := ⟨h7_⟩
           have n8_ : Aside0 (gb123 ≠ gb139) := ⟨h8_⟩
           have n9_ : Aside0 (gb139 ≠ gb123) := ⟨h9_⟩
           have n10_ : Aside0 (Below w.heap.size w w37) := ⟨h10_⟩
           clear BK122
           clear BK123
           clear HB
           clear h0_ h1_ h2_ h3_ h4_ h5_ h6_ h7_ h8_ h9_ h10_
           have HO132 := n0_
           have BK122 := n1_
           have BK123 := n2_
           have BK139 := n3_
           have GW139 := n4_
           have GE139 := n5_
           have NB122_139 := n6_
           have NB139_122 := n7_
           have NB123_139 := n8_
           have NB139_123 := n9_
           have HB := n10_
           clear n0_ n1_ n2_ n3_ n4_ n5_ n6_ n7_ n8_ n9_ n10_
           have hHeld : w37.cell? ⟨gb122, 0, none⟩ = some (.int .i64 a0_0) ∧ w37.cell? ⟨gb122, 1, none⟩ = some (.slice A0_1 l0_1.length c0_1) ∧ w37.cell? ⟨gb122, 2, none⟩ = some (.slice A0_2 l0_2.length c0_2) := hS_
           refine norm_ (a' := ?_) ?_ ?_
           rotate_left
           ·simp only [putAll, Act.put, sB, sC, sD]
            rfl
           refine one_ (i := 6) (N := some 51) #[true, true, true, true, true, true, true, true, true, false, false, true, false] rfl rfl (one_of HT_.out (by kernel_rfl)) (by decide) (fun K hK => ?_)
           refine Kd.R_lit_step (Kd.int .i64) _ 3 ?hg (N := 51) ?hd (xs := ([] : List Int)) (inner := []) (ok := fun _ => True) (okp := fun _ => True) ?hr ?hp (fun _ hk => hk) trivial (Below.refl _ _) (Nat.le_refl _) (by simp) ?_; (case hd => rfl); (case hg => rfl); (case hr => first | (go_simp; done) | (go_simp; rfl)); (case hp => exact (Reps.none _ _))
           intro v134 w38 ho39 hb hg_ hnew_
           clear hg_ hnew_
           (first | rw [← Ny133.out] at ho39 | (simp only [Int.reduceToNat] at ho39; rw [← Ny133.out] at ho39))
           have HO135 := a_ (Kd.R_lower (nw ho39 HO132.out) (bs HB.out))
           replace HO132 := a_ (Kd.R_elder' (rk HO132.out) (Kd.R_base ho39) hb)
           replace BK122 := a_ (blk_below (pk BK122.out) hb)
           replace BK123 := a_ (blk_below (pk BK123.out) hb)
           replace BK139 := a_ (blk_below (pk BK139.out) hb)
           replace HB := a_ (below_step (by repeat (with_reducible first | exact HB.out | refine bz ?_ (by assumption) | apply bA | apply bN | apply bD)) hb)
           clear hb ho39
           refine hK.out _ _ ⟨(blk_cell BK122.out 0).trans rfl, (blk_cell BK122.out 1).trans rfl, (blk_cell BK122.out 2).trans rfl⟩ (fun hHeld => ?_)
           clear hK K
           refine norm_ (a' := ?_) ?_ ?_
           rotate_left
           ·show Act.put _ (some 51) _ = _
            simp only [Act.put, sB, sC, sD, i64_w, i32_w]
            rfl
           exact norm_ (by first | (simp only [putAll, Act.put, sB, sC, sD]; done) | (simp only [putAll, Act.put, sB, sC, sD]; rfl)) (hJ2_5_6_11 (v128, v131, v134, gb139) _ ⟨hHeld, (rk (Kd.R_mono HO132.out (fun _ hk => hk.2))), (rk (Kd.R_mono HO135.out (fun _ hk => hk.2))), (pk BK122.out), (pk BK123.out), (pk BK139.out), GW139.out, GE139.out, NB122_139.out, NB139_122.out, NB123_139.out, NB139_123.out, (by repeat (with_reducible first | exact HB.out | refine bz ?_ (by assumption) | apply bA | apply bN | apply bD))⟩)
         ·skip
          rintro ⟨v128, v131, v134⟩ w38 ⟨hS_, h0_, h1_, h2_, h3_, h4_⟩
          have n0_ : Aside0 (Kd.R (Kd.int .i64) 3 w38 w.heap.size (fun k_ => N_ v134 k_) v131 y130) := ⟨h0_⟩
          have n1_ : Aside0 (Kd.R (Kd.int .i64) 3 w38 w.heap.size (fun k_ => N_ v131 k_) v134 y133) := ⟨h1_⟩
          have n2_ : Aside0 (w38.heap[gb122]? = some (.cells #[.int .i64 a0_0, .slice A0_1 l0_1.length c0_1, .slice A0_2 l0_2.length c0_2] 31 (0, 0))) := ⟨h2_⟩
          have n3_ : Aside0 (w38.heap[gb123]? = some (.cells #[.int .i64 0, .slice none 0 0, .slice none 0 0] 31 (0, 0))) := ⟨h3_⟩
          have n4_ : Aside0 (Below w.heap.size w w38) := ⟨h4_⟩
          clear BK122
          clear BK123
          clear HB
          clear h0_ h1_ h2_ h3_ h4_
          have HO132 := n0_
          have HO135 := n1_
          have BK122 := n2_
          have BK123 := n3_
          have HB := n4_
          clear n0_ n1_ n2_ n3_ n4_
          have hHeld : w38.cell? ⟨gb122, 0, none⟩ = some (.int .i64 a0_0) ∧ w38.cell? ⟨gb122, 1, none⟩ = some (.slice A0_1 l0_1.length c0_1) ∧ w38.cell? ⟨gb122, 2, none⟩ = some (.slice A0_2 l0_2.length c0_2) := hS_
          refine norm_ (a' := ?_) ?_ ?_
          rotate_left
          ·simp only [putAll, Act.put, sB, sC, sD]
           rfl
          refine two_ (i := 9) (j := 11) (Ni := some 54) (Nj := some 14) #[true, true, true, true, true, true, true, true, true, true, false, false, false] #[true, true, true, true, true, true, true, true, true, false, false, true, false] rfl rfl rfl rfl (two_of HT_.out (by kernel_rfl)) (by decide) (by decide) (fun K hK => ?_) (fun K hK => ?_)
          ·skip
           refine Kd.R_append_rows_step (Kd.int .i64) (w0 := w) w.heap.size (by rfl) (.tmp 51) (.tmp 53) 27 3 (.int .i64 0) 8 rfl Try.underlying27 info3 rfl (by decide) (by omega) v134 y133 l0_2 _ _ _ (fun k_ => N_ v131 k_) (fun _ => False) (by first | rfl | exact ev_tmp_3 e51) (by first | rfl | exact ev_tmp_3 e53) ?aO ?aR (fun _ _ h => h) (fun _ h => h.elim) ?aF ?aB ?aS ?aL ?_
           (case aR => exact Kd.C_below HR0_2.out (un HB.out))
           (case aB => exact (by repeat (with_reducible first | exact HB.out | refine bz ?_ (by assumption) | apply bA | apply bN | apply bD)))
           (case aF => exact (fun k_ hk => Kd.fresh' (Kd.R_lt (rk HO132.out)) k_ hk))
           (case aO => exact (rk HO135.out))
           (case aS => exact (bs HB.out))
           (case aL => have := LMc30.out; omega)
           intro v137 w39 ho hb hg hat
           rw [← Ny136.out] at ho
           replace BK122 := a_ (blk_grown (pk BK122.out) hg (Kd.R_ne HO135.out BK122.out (by decide)))
           replace BK123 := a_ (blk_grown (pk BK123.out) hg (Kd.R_ne HO135.out BK123.out (by decide)))
           replace HO132 := a_ (Kd.R_after (ok := (fun _ => True)) (rk (Kd.R_mono HO132.out (fun _ hk => ⟨trivial, hk⟩))) hg hat)
           replace HB := a_ (hb)
           have HO138 := a_ (ho)
           clear HO135 ho hb hg hat
           obtain ⟨Ao40, co40, eo40⟩ := Kd.R_slice HO138.out
           (first | subst eo40 | (injection eo40 with f1_ f2_ f3_; obtain rfl := f1_.symm; obtain rfl := f3_.symm))
           obtain ⟨Ao41, co41, eo41⟩ := Kd.R_slice HO132.out
           (first | subst eo41 | (injection eo41 with f1_ f2_ f3_; obtain rfl := f1_.symm; obtain rfl := f3_.symm))
           refine hK.out _ _ ⟨(blk_cell BK122.out 0).trans rfl, (blk_cell BK122.out 1).trans rfl, (blk_cell BK122.out 2).trans rfl⟩ (fun hHeld => ?_)
           clear hK K
           refine norm_ (a' := ?_) ?_ ?_
           rotate_left
           ·show Act.put _ (some 54) _ = _
            simp only [Act.put, sB, sC, sD, i64_w, i32_w]
            rfl
           refine pure_ (i := 10) (N := some 55) (v := ?_) (a' := ?_) #[true, true, true, true, true, true, true, true, true, true, true, false, false] rfl rfl (any_of HT_.out (by kernel_rfl)) (fun _ _ _ h => h) (Or.inl ⟨by rfl, ?_⟩) ?_ ?_
           rotate_left
           ·intro w'
            go_simp
            with_reducible rfl
           rotate_left
           ·simp only [Act.put, sB, sC, sD, i64_w, i32_w]
            rfl
           exact norm_ (by first | (simp only [putAll, Act.put, sB, sC, sD]; done) | (simp only [putAll, Act.put, sB, sC, sD]; rfl)) (hJ2_5_6_9 (v128, .slice Ao41 y130.length co41, v134, .slice Ao40 y136.length co40) _ ⟨hHeld, (rk (Kd.R_mono HO132.out (fun _ hk => hk.2))), (rk HO138.out), (pk BK122.out), (pk BK123.out), (by repeat (with_reducible first | exact HB.out | refine bz ?_ (by assumption) | apply bA | apply bN | apply bD))⟩)
          ·skip
           refine box_step ?hg (N := 14) ?hd (cs := #[.int .i64 0, .slice none 0 0, .slice none 0 0]) (t := 31) ?hr ?_; (case hd => rfl); (case hg => rfl); (case hr => first | (go_simp; done) | (go_simp; rfl))
           intro gb139 hg w39 hbox hb
           replace HO132 := a_ (Kd.R_below (rk HO132.out) hb)
           replace HO135 := a_ (Kd.R_below (rk HO135.out) hb)
           have BK139 := a_ (hbox)
           have GW139 := a_ (bsg hg HB.out)
           have GE139 := a_ (bsg hg HB.out)
           replace HB := a_ (below_step (by repeat (with_reducible first | exact HB.out | refine bz ?_ (by assumption) | apply bA | apply bN | apply bD)) hb)
           have NB122_139 := a_ (nel hg BK122.out)
           have NB139_122 := a_ (nle hg BK122.out)
           replace BK122 := a_ (blk_below (pk BK122.out) hb)
           have NB123_139 := a_ (nel hg BK123.out)
           have NB139_123 := a_ (nle hg BK123.out)
           replace BK123 := a_ (blk_below (pk BK123.out) hb)
           clear hb hbox hg
           refine hK.out _ _ ⟨(blk_cell BK122.out 0).trans rfl, (blk_cell BK122.out 1).trans rfl, (blk_cell BK122.out 2).trans rfl⟩ (fun hHeld => ?_)
           clear hK K
           refine norm_ (a' := ?_) ?_ ?_
           rotate_left
           ·show Act.put _ (some 14) _ = _
            simp only [Act.put, sB, sC, sD, i64_w, i32_w]
            rfl
           exact norm_ (by first | (simp only [putAll, Act.put, sB, sC, sD]; done) | (simp only [putAll, Act.put, sB, sC, sD]; rfl)) (hJ2_5_6_11 (v128, v131, v134, gb139) _ ⟨hHeld, (rk HO132.out), (rk HO135.out), (pk BK122.out), (pk BK123.out), (pk BK139.out), GW139.out, GE139.out, NB122_139.out, NB139_122.out, NB123_139.out, NB139_123.out, (by repeat (with_reducible first | exact HB.out | refine bz ?_ (by assumption) | apply bA | apply bN | apply bD))⟩)
        ·skip
         rintro ⟨v128, v131, v134, gb139⟩ w39 ⟨hS_, h0_, h1_, h2_, h3_, h4_, h5_, h6_, h7_, h8_, h9_, h10_, h11_⟩
         have n0_ : Aside0 (Kd.R (Kd.int .i64) 3 w39 w.heap.size (fun k_ => N_ v134 k_) v131 y130) := ⟨h0_⟩
         have n1_ : Aside0 (Kd.R (Kd.int .i64) 3 w39 w.heap.size (fun k_ => N_ v131 k_) v134 y133) := ⟨h1_⟩
         have n2_ : Aside0 (w39.heap[gb122]? = some (.cells #[.int .i64 a0_0, .slice A0_1 l0_1.length c0_1, .slice A0_2 l0_2.length c0_2] 31 (0, 0))) := ⟨h2_⟩
         have n3_ : Aside0 (w39.heap[gb123]? = some (.cells #[.int .i64 0, .slice none 0 0, .slice none 0 0] 31 (0, 0))) := ⟨h3_⟩
         have n4_ : Aside0 (w39.heap[gb139]? = some (.cells #[.int .i64 0, .slice none 0 0, .slice none 0 0] 31 (0, 0))) := ⟨h4_⟩
         have n5_ : Aside0 (w.heap.size ≤ gb139) := ⟨h5_⟩
         have n6_ : Aside0 (w.heap.size ≤ gb139) := ⟨h6_⟩
         have n7_ : Aside0 (gb122 ≠ gb139) := ⟨h7_⟩
         have n8_ : Aside0 (gb139 ≠ gb122) := ⟨h8_⟩
         have n9_ : Aside0 (gb123 ≠ gb139) := ⟨h9_⟩
         have n10_ : Aside0 (gb139 ≠ gb123) := ⟨h10_⟩
         have n11_ : Aside0 (Below w.heap.size w w39) := ⟨h11_⟩
         clear BK122
         clear BK123
         clear HB
         clear h0_ h1_ h2_ h3_ h4_ h5_ h6_ h7_ h8_ h9_ h10_ h11_
         have HO132 := n0_
         have HO135 := n1_
         have BK122 := n2_
         have BK123 := n3_
         have BK139 := n4_
         have GW139 := n5_
         have GE139 := n6_
         have NB122_139 := n7_
         have NB139_122 := n8_
         have NB123_139 := n9_
         have NB139_123 := n10_
         have HB := n11_
         clear n0_ n1_ n2_ n3_ n4_ n5_ n6_ n7_ n8_ n9_ n10_ n11_
         have hHeld : w39.cell? ⟨gb122, 0, none⟩ = some (.int .i64 a0_0) ∧ w39.cell? ⟨gb122, 1, none⟩ = some (.slice A0_1 l0_1.length c0_1) ∧ w39.cell? ⟨gb122, 2, none⟩ = some (.slice A0_2 l0_2.length c0_2) := hS_
         refine norm_ (a' := ?_) ?_ ?_
         rotate_left
         ·simp only [putAll, Act.put, sB, sC, sD]
          rfl
         refine one_ (i := 9) (N := some 54) #[true, true, true, true, true, true, true, true, true, true, false, true, false] rfl rfl (one_of HT_.out (by kernel_rfl)) (by decide) (fun K hK => ?_)
         refine Kd.R_append_rows_step (Kd.int .i64) (w0 := w) w.heap.size (by rfl) (.tmp 51) (.tmp 53) 27 3 (.int .i64 0) 8 rfl Try.underlying27 info3 rfl (by decide) (by omega) v134 y133 l0_2 _ _ _ (fun k_ => N_ v131 k_) (fun _ => False) (by first | rfl | exact ev_tmp_3 e51) (by first | rfl | exact ev_tmp_3 e53) ?aO ?aR (fun _ _ h => h) (fun _ h => h.elim) ?aF ?aB ?aS ?aL ?_
         (case aR => exact Kd.C_below HR0_2.out (un HB.out))
         (case aB => exact (by repeat (with_reducible first | exact HB.out | refine bz ?_ (by assumption) | apply bA | apply bN | apply bD)))
         (case aF => exact (fun k_ hk => Kd.fresh' (Kd.R_lt (rk HO132.out)) k_ hk))
         (case aO => exact (rk HO135.out))
         (case aS => exact (bs HB.out))
         (case aL => have := LMc30.out; omega)
         intro v137 w40 ho hb hg hat
         rw [← Ny136.out] at ho
         replace BK122 := a_ (blk_grown (pk BK122.out) hg (Kd.R_ne HO135.out BK122.out (by decide)))
         replace BK123 := a_ (blk_grown (pk BK123.out) hg (Kd.R_ne HO135.out BK123.out (by decide)))
         replace HO132 := a_ (Kd.R_after (ok := (fun _ => True)) (rk (Kd.R_mono HO132.out (fun _ hk => ⟨trivial, hk⟩))) hg hat)
         replace BK139 := a_ (blk_grown (pk BK139.out) hg (Kd.R_ne HO135.out BK139.out (by decide)))
         replace HB := a_ (hb)
         have HO138 := a_ (ho)
         clear HO135 ho hb hg hat
         obtain ⟨Ao41, co41, eo41⟩ := Kd.R_slice HO138.out
         (first | subst eo41 | (injection eo41 with f1_ f2_ f3_; obtain rfl := f1_.symm; obtain rfl := f3_.symm))
         obtain ⟨Ao42, co42, eo42⟩ := Kd.R_slice HO132.out
         (first | subst eo42 | (injection eo42 with f1_ f2_ f3_; obtain rfl := f1_.symm; obtain rfl := f3_.symm))
         refine hK.out _ _ ⟨(blk_cell BK122.out 0).trans rfl, (blk_cell BK122.out 1).trans rfl, (blk_cell BK122.out 2).trans rfl⟩ (fun hHeld => ?_)
         clear hK K
         refine norm_ (a' := ?_) ?_ ?_
         rotate_left
         ·show Act.put _ (some 54) _ = _
          simp only [Act.put, sB, sC, sD, i64_w, i32_w]
          rfl
         refine pure_ (i := 10) (N := some 55) (v := ?_) (a' := ?_) #[true, true, true, true, true, true, true, true, true, true, true, true, false] rfl rfl (any_of HT_.out (by kernel_rfl)) (fun _ _ _ h => h) (Or.inl ⟨by rfl, ?_⟩) ?_ ?_
         rotate_left
         ·intro w'
          go_simp
          with_reducible rfl
         rotate_left
         ·simp only [Act.put, sB, sC, sD, i64_w, i32_w]
          rfl
         exact norm_ (by first | (simp only [putAll, Act.put, sB, sC, sD]; done) | (simp only [putAll, Act.put, sB, sC, sD]; rfl)) (hJ2_5_6_9_11 (v128, .slice Ao42 y130.length co42, v134, .slice Ao41 y136.length co41, gb139) _ ⟨hHeld, (rk (Kd.R_mono HO132.out (fun _ hk => hk.2))), (rk HO138.out), (pk BK122.out), (pk BK123.out), (pk BK139.out), GW139.out, GE139.out, NB122_139.out, NB139_122.out, NB123_139.out, NB139_123.out, (by repeat (with_reducible first | exact HB.out | refine bz ?_ (by assumption) | apply bA | apply bN | apply bD))⟩)
       ·skip
        rintro ⟨v128, v131, v134, v137⟩ w41 ⟨hS_, h0_, h1_, h2_, h3_, h4_⟩
        have n0_ : Aside0 (Kd.R (Kd.int .i64) 3 w41 w.heap.size (fun k_ => N_ v137 k_) v131 y130) := ⟨h0_⟩
        have n1_ : Aside0 (Kd.R (Kd.int .i64) 3 w41 w.heap.size (fun k_ => N_ v131 k_) v137 y136) := ⟨h1_⟩
        have n2_ : Aside0 (w41.heap[gb122]? = some (.cells #[.int .i64 a0_0, .slice A0_1 l0_1.length c0_1, .slice A0_2 l0_2.length c0_2] 31 (0, 0))) := ⟨h2_⟩
        have n3_ : Aside0 (w41.heap[gb123]? = some (.cells #[.int .i64 0, .slice none 0 0, .slice none 0 0] 31 (0, 0))) := ⟨h3_⟩
        have n4_ : Aside0 (Below w.heap.size w w41) := ⟨h4_⟩
        clear BK122
        clear BK123
        clear HB
        clear h0_ h1_ h2_ h3_ h4_
        have HO132 := n0_
        have HO138 := n1_
        have BK122 := n2_
        have BK123 := n3_
        have HB := n4_
        clear n0_ n1_ n2_ n3_ n4_
        have hHeld : w41.cell? ⟨gb122, 0, none⟩ = some (.int .i64 a0_0) ∧ w41.cell? ⟨gb122, 1, none⟩ = some (.slice A0_1 l0_1.length c0_1) ∧ w41.cell? ⟨gb122, 2, none⟩ = some (.slice A0_2 l0_2.length c0_2) := hS_
        obtain ⟨Ao42, co42, eo42⟩ := Kd.R_slice HO138.out
        (first | subst eo42 | (injection eo42 with f1_ f2_ f3_; obtain rfl := f1_.symm; obtain rfl := f3_.symm))
        obtain ⟨Ao43, co43, eo43⟩ := Kd.R_slice HO132.out
        (first | subst eo43 | (injection eo43 with f1_ f2_ f3_; obtain rfl := f1_.symm; obtain rfl := f3_.symm))
        refine norm_ (a' := ?_) ?_ ?_
        rotate_left
        ·simp only [putAll, Act.put, sB, sC, sD]
         rfl
        refine one_ (i := 11) (N := some 14) #[true, true, true, true, true, true, true, true, true, true, true, true, false] rfl rfl (one_of HT_.out (by kernel_rfl)) (by decide) (fun K hK => ?_)
        refine box_step ?hg (N := 14) ?hd (cs := #[.int .i64 0, .slice none 0 0, .slice none 0 0]) (t := 31) ?hr ?_; (case hd => rfl); (case hg => rfl); (case hr => first | (go_simp; done) | (go_simp; rfl))
        intro gb139 hg w44 hbox hb
        replace HO132 := a_ (Kd.R_below (rk HO132.out) hb)
        replace HO138 := a_ (Kd.R_below (rk HO138.out) hb)
        have BK139 := a_ (hbox)
        have GW139 := a_ (bsg hg HB.out)
        have GE139 := a_ (bsg hg HB.out)
        replace HB := a_ (below_step (by repeat (with_reducible first | exact HB.out | refine bz ?_ (by assumption) | apply bA | apply bN | apply bD)) hb)
        have NB122_139 := a_ (nel hg BK122.out)
        have NB139_122 := a_ (nle hg BK122.out)
        replace BK122 := a_ (blk_below (pk BK122.out) hb)
        have NB123_139 := a_ (nel hg BK123.out)
        have NB139_123 := a_ (nle hg BK123.out)
        replace BK123 := a_ (blk_below (pk BK123.out) hb)
        clear hb hbox hg
        refine hK.out _ _ ⟨(blk_cell BK122.out 0).trans rfl, (blk_cell BK122.out 1).trans rfl, (blk_cell BK122.out 2).trans rfl⟩ (fun hHeld => ?_)
        clear hK K
        refine norm_ (a' := ?_) ?_ ?_
        rotate_left
        ·show Act.put _ (some 14) _ = _
         simp only [Act.put, sB, sC, sD, i64_w, i32_w]
         rfl
        exact norm_ (by first | (simp only [putAll, Act.put, sB, sC, sD]; done) | (simp only [putAll, Act.put, sB, sC, sD]; rfl)) (hJ2_5_6_9_11 (v128, .slice Ao43 y130.length co43, v134, .slice Ao42 y136.length co42, gb139) _ ⟨hHeld, (rk HO132.out), (rk HO138.out), (pk BK122.out), (pk BK123.out), (pk BK139.out), GW139.out, GE139.out, NB122_139.out, NB139_122.out, NB123_139.out, NB139_123.out, (by repeat (with_reducible first | exact HB.out | refine bz ?_ (by assumption) | apply bA | apply bN | apply bD))⟩)
      rintro ⟨v128, v131, v134, v137, gb139⟩ w42 ⟨hS_, h0_, h1_, h2_, h3_, h4_, h5_, h6_, h7_, h8_, h9_, h10_, h11_⟩
      have n0_ : Aside0 (Kd.R (Kd.int .i64) 3 w42 w.heap.size (fun k_ => N_ v137 k_) v131 y130) := ⟨h0_⟩
      have n1_ : Aside0 (Kd.R (Kd.int .i64) 3 w42 w.heap.size (fun k_ => N_ v131 k_) v137 y136) := ⟨h1_⟩
      have n2_ : Aside0 (w42.heap[gb122]? = some (.cells #[.int .i64 a0_0, .slice A0_1 l0_1.length c0_1, .slice A0_2 l0_2.length c0_2] 31 (0, 0))) := ⟨h2_⟩
      have n3_ : Aside0 (w42.heap[gb123]? = some (.cells #[.int .i64 0, .slice none 0 0, .slice none 0 0] 31 (0, 0))) := ⟨h3_⟩
      have n4_ : Aside0 (w42.heap[gb139]? = some (.cells #[.int .i64 0, .slice none 0 0, .slice none 0 0] 31 (0, 0))) := ⟨h4_⟩
      have n5_ : Aside0 (w.heap.size ≤ gb139) := ⟨h5_⟩
      have n6_ : Aside0 (w.heap.size ≤ gb139) := ⟨h6_⟩
      have n7_ : Aside0 (gb122 ≠ gb139) := ⟨h7_⟩
      have n8_ : Aside0 (gb139 ≠ gb122) := ⟨h8_⟩
      have n9_ : Aside0 (gb123 ≠ gb139) := ⟨h9_⟩
      have n10_ : Aside0 (gb139 ≠ gb123) := ⟨h10_⟩
      have n11_ : Aside0 (Below w.heap.size w w42) := ⟨h11_⟩
      clear BK122
      clear BK123
      clear HB
      clear h0_ h1_ h2_ h3_ h4_ h5_ h6_ h7_ h8_ h9_ h10_ h11_
      have HO132 := n0_
      have HO138 := n1_
      have BK122 := n2_
      have BK123 := n3_
      have BK139 := n4_
      have GW139 := n5_
      have GE139 := n6_
      have NB122_139 := n7_
      have NB139_122 := n8_
      have NB123_139 := n9_
      have NB139_123 := n10_
      have HB := n11_
      clear n0_ n1_ n2_ n3_ n4_ n5_ n6_ n7_ n8_ n9_ n10_ n11_
      have hHeld : w42.cell? ⟨gb122, 0, none⟩ = some (.int .i64 a0_0) ∧ w42.cell? ⟨gb122, 1, none⟩ = some (.slice A0_1 l0_1.length c0_1) ∧ w42.cell? ⟨gb122, 2, none⟩ = some (.slice A0_2 l0_2.length c0_2) := hS_
      obtain ⟨Ao43, co43, eo43⟩ := Kd.R_slice HO138.out
      (first | subst eo43 | (injection eo43 with f1_ f2_ f3_; obtain rfl := f1_.symm; obtain rfl := f3_.symm))
      obtain ⟨Ao44, co44, eo44⟩ := Kd.R_slice HO132.out
      (first | subst eo44 | (injection eo44 with f1_ f2_ f3_; obtain rfl := f1_.symm; obtain rfl := f3_.symm))
      refine norm_ (a' := ?_) ?_ ?_
      rotate_left
      ·simp only [putAll, Act.put, sB, sC, sD]
       rfl
      refine one_ (i := 12) (N := none) #[true, true, true, true, true, true, true, true, true, true, true, true, true] rfl rfl (one_of HT_.out (by kernel_rfl)) (by decide) (fun K hK => ?_)
      have hs45 : w42.cell? ⟨gb139, 0, none⟩ = some (.int .i64 0) := (blk_cell BK139.out 0).trans rfl
      have hfs45 := blk_frozen BK139.out 0
      have hns45_0 := NB122_139.out
      have hns45_1 := NB123_139.out
      have hms45_0 := NB139_122.out
      have hms45_1 := NB139_123.out
      have hs46 : w42.cell? ⟨gb139, 1, none⟩ = some (.slice none 0 0) := (blk_cell BK139.out 1).trans rfl
      have hfs46 := blk_frozen BK139.out 1
      have hns46_0 := NB122_139.out
      have hns46_1 := NB123_139.out
      have hms46_0 := NB139_122.out
      have hms46_1 := NB139_123.out
      have hs47 : w42.cell? ⟨gb139, 2, none⟩ = some (.slice none 0 0) := (blk_cell BK139.out 2).trans rfl
      have hfs47 := blk_frozen BK139.out 2
      have hns47_0 := NB122_139.out
      have hns47_1 := NB123_139.out
      have hms47_0 := NB139_122.out
      have hms47_1 := NB139_123.out
      refine skip_ (w1 := ?_) ?_ ?_ ?_ ?_
      rotate_left
      ·rfl
      ·rfl
      ·go_simp
       rfl
      refine hK.out _ _ ⟨((cell_far (p := ⟨gb139, _, none⟩) NB122_139.out _).trans (((cell_far (p := ⟨gb139, _, none⟩) NB122_139.out _).trans (((cell_far (p := ⟨gb139, _, none⟩) NB122_139.out _).trans (hHeld.1)))))), ((cell_far (p := ⟨gb139, _, none⟩) NB122_139.out _).trans (((cell_far (p := ⟨gb139, _, none⟩) NB122_139.out _).trans (((cell_far (p := ⟨gb139, _, none⟩) NB122_139.out _).trans (hHeld.2.1)))))), ((cell_far (p := ⟨gb139, _, none⟩) NB122_139.out _).trans (((cell_far (p := ⟨gb139, _, none⟩) NB122_139.out _).trans (((cell_far (p := ⟨gb139, _, none⟩) NB122_139.out _).trans (hHeld.2.2))))))⟩ (fun hHeld => ?_)
      clear hK K
      refine done_ (done_of HT_.out (by kernel_rfl)) ?_
      try go_wp2_with (first | ((with_reducible refine gate_callee (f := 6) rfl ?_); refine goesL_ (some 60) rfl rfl Try.func6 (by kernel_rfl) rfl #[.int .i64 a1, .int .i64 a2, .int .i64 a3, .int .i64 a4] rfl (by (try simp only [lA, lB, lC]); first | done | rfl | (simp only [lD, lE]; rfl)) ?_; (with_reducible refine (spec_LineCells.calls kj6 a1 a2 a3 a4 t140 _ A31.out).mono ?_); rintro e w48 ⟨v141, rfl, ho0, hb⟩; refine ⟨_, rfl, ?_⟩; have HO142 := a_ (Kd.S_lower (Kd.S_new' (Kd.S_new' ho0 (Kd.R_lt (rk (Kd.R_mono (fr3 HO132.out BK139.out (by decide) 0 (.int .i64 a0_0) 1 (.slice Ao44 y130.length co44) 2 (.slice Ao43 y136.length co43)) (fun _ h_ => h_.1))))) (Kd.R_lt (rk (Kd.R_mono (fr3 HO138.out BK139.out (by decide) 0 (.int .i64 a0_0) 1 (.slice Ao44 y130.length co44) 2 (.slice Ao43 y136.length co43)) (fun _ h_ => h_.1))))) (bs HB.out)); replace HO132 := a_ (Kd.R_below (rk (Kd.R_mono (fr3 HO132.out BK139.out (by decide) 0 (.int .i64 a0_0) 1 (.slice Ao44 y130.length co44) 2 (.slice Ao43 y136.length co43)) (fun _ h_ => h_.1))) hb); replace HO138 := a_ (Kd.R_below (rk (Kd.R_mono (fr3 HO138.out BK139.out (by decide) 0 (.int .i64 a0_0) 1 (.slice Ao44 y130.length co44) 2 (.slice Ao43 y136.length co43)) (fun _ h_ => h_.1))) hb); replace BK122 := a_ (blk_below (g := gb122) (o := .cells #[.int .i64 a0_0, .slice A0_1 l0_1.length c0_1, .slice A0_2 l0_2.length c0_2] 31 (0, 0)) (by refine pk ?_; refine blk_far ?_ NB122_139.out _; refine pk ?_; refine blk_far ?_ NB122_139.out _; refine pk ?_; refine blk_far ?_ NB122_139.out _; refine pk ?_; exact BK122.out) hb); replace BK123 := a_ (blk_below (g := gb123) (o := .cells #[.int .i64 0, .slice none 0 0, .slice none 0 0] 31 (0, 0)) (by refine pk ?_; refine blk_far ?_ NB123_139.out _; refine pk ?_; refine blk_far ?_ NB123_139.out _; refine pk ?_; refine blk_far ?_ NB123_139.out _; refine pk ?_; exact BK123.out) hb); replace BK139 := a_ (blk_below (g := gb139) (o := .cells #[.int .i64 a0_0, .slice Ao44 y130.length co44, .slice Ao43 y136.length co43] 31 (0, 0)) (by refine pk ?_; refine blk_put (cs := #[.int .i64 a0_0, .slice Ao44 y130.length co44, .slice none 0 0]) ?_ 2 _ rfl; refine pk ?_; refine blk_put (cs := #[.int .i64 a0_0, .slice none 0 0, .slice none 0 0]) ?_ 1 _ rfl; refine pk ?_; refine blk_put (cs := #[.int .i64 0, .slice none 0 0, .slice none 0 0]) ?_ 0 _ rfl; refine pk ?_; exact BK139.out) hb); replace HB := a_ (below_step (by repeat (with_reducible first | exact HB.out | refine bz ?_ (by assumption) | apply bA | apply bN | apply bD)) hb); clear hb ho0; obtain ⟨Ao49, co49, eo49⟩ := Kd.S_slice HO142.out; subst eo49))
      go_loopg [63] kj6 (fun kq v63 w' => ∃ (x63_2 : Int) (x140001_2 : List Int) (x140002_2 : List Int) (u140001 : Value) (u140002 : Value), v63 = .int .i64 x63_2 ∧ Aside0 (spec_AddRay.l0 kq a5 t140 t140 (t140.length : Int) x63_2 a0_0 l0_1 l0_2 a0_0 x140001_2 x140002_2 = some (r1, r2, r3, r4)) ∧ Aside0 (kq ≤ kj6) ∧ Aside0 (Kd.S (Kd.slice 3 (Kd.int .i64)) 27 w' w.heap.size (fun k_ => some k_ ≠ (u140001 : Value).ownBlock ∧ some k_ ≠ (u140002 : Value).ownBlock) (.slice Ao49 t140.length co49) t140) ∧ Aside0 (Kd.S (Kd.slice 3 (Kd.int .i64)) 27 w' w.heap.size (fun k_ => some k_ ≠ (u140001 : Value).ownBlock ∧ some k_ ≠ (u140002 : Value).ownBlock) (.slice Ao49 t140.length co49) t140) ∧ Aside0 (Kd.R (Kd.int .i64) 3 w' w.heap.size (fun k_ => some k_ ≠ (u140002 : Value).ownBlock) u140001 x140001_2) ∧ Aside0 (Kd.R (Kd.int .i64) 3 w' w.heap.size (fun k_ => some k_ ≠ (u140001 : Value).ownBlock) u140002 x140002_2) ∧ Aside0 (w'.heap[gb122]? = some (.cells #[.int .i64 a0_0, (.slice A0_1 l0_1.length c0_1), (.slice A0_2 l0_2.length c0_2)] 31 (0, 0))) ∧ Aside0 (w'.heap[gb123]? = some (.cells #[.int .i64 0, (.slice none 0 0), (.slice none 0 0)] 31 (0, 0))) ∧ Aside0 (w'.heap[gb139]? = some (.cells #[.int .i64 a0_0, u140001, u140002] 31 (0, 0))) ∧ Aside0 (Below w.heap.size w w'))
      case atStart => exact ⟨(0), (y130), (y136), (.slice Ao44 y130.length co44), (.slice Ao43 y136.length co43), (by first | rfl | (simp; done) | (simp [*]; done)), H', ⟨Nat.le_refl _⟩, ⟨by (with_reducible repeat (first | apply Kd.S_alloc | apply Kd.S_drewN | apply Kd.S_drew)); exact Kd.S_mono HO142.out (fun _ hk => ⟨hk.1.2, hk.2⟩)⟩, ⟨by (with_reducible repeat (first | apply Kd.S_alloc | apply Kd.S_drewN | apply Kd.S_drew)); exact Kd.S_mono HO142.out (fun _ hk => ⟨hk.1.2, hk.2⟩)⟩, ⟨rk (HO132.out)⟩, ⟨rk (HO138.out)⟩, ⟨pk BK122.out⟩, ⟨pk BK123.out⟩, ⟨pk BK139.out⟩, ⟨by repeat (with_reducible first | exact HB.out | refine bz ?_ (by assumption) | apply bA | apply bN | apply bD)⟩⟩
      case round =>
       clear H'
       try clear c2; try clear p2; try clear c3; try clear c6; try clear c29; try clear c30
       obtain ⟨x63_2, x140001_2, x140002_2, u140001, u140002, rfl, HA, HK2, HO_15, HO_61, HO_140001, HO_140002, BK122, BK123, BK139, HB⟩ := hrel
       cases gk with
       | zero => exact absurd HA.out (by simp [spec_AddRay.l0])
       | succ k2 =>
        have H := HA.out
        clear HA
        simp only [spec_AddRay.l0] at H
        by_cases c50 : x63_2 < (t140.length : Int)
        ·rw [if_pos c50] at H
         have c50b0 : decide (x63_2 < (t140.length : Int)) = true := decide_eq_true c50
         clear c50
         by_cases c51 : 0 ≤ x63_2
         ·rw [if_pos c51] at H
          have c51b0 : decide (0 ≤ x63_2) = true := decide_eq_true c51
          clear c51
          by_cases c52 : x63_2 < (t140.length : Int)
          ·rw [if_pos c52] at H
           have c52b0 : decide (x63_2 < (t140.length : Int)) = true := decide_eq_true c52
           clear c52
           by_cases c53 : 1 < ((rd_L1 t140 x63_2).length : Int)
           ·rw [if_pos c53] at H
            have c53b0 : decide (1 < ((rd_L1 t140 x63_2).length : Int)) = true := decide_eq_true c53
            have c53b1 : decide (1 < (rd_L1 t140 x63_2).length) = true := decide_eq_true (by omega)
            clear c53
            by_cases c54 : 0 < ((rd_L1 t140 x63_2).length : Int)
            ·rw [if_pos c54] at H
             have c54b0 : decide (0 < ((rd_L1 t140 x63_2).length : Int)) = true := decide_eq_true c54
             have c54b1 : decide (0 < (rd_L1 t140 x63_2).length) = true := decide_eq_true (by omega)
             clear c54
             by_cases c55 : x63_2 = (wrap64 ((t140.length : Int) - 1))
             ·rw [if_pos c55] at H
              have c55b0 : (x63_2 == (wrap64 ((t140.length : Int) - 1))) = true := beq_iff_eq.mpr c55
              have c55b1 : (x63_2 != (wrap64 ((t140.length : Int) - 1))) = false := bne_eq_false_iff_eq.mpr c55
              clear c55
              by_cases c56 : a5 = true
              ·subst c56
               have H1 : (if 0 ≤ (wrap64 ((wrap64 ((rd (rd_L1 t140 x63_2) 1) * a0_0)) + (rd (rd_L1 t140 x63_2) 0))) then (if (wrap64 ((wrap64 ((rd (rd_L1 t140 x63_2) 1) * a0_0)) + (rd (rd_L1 t140 x63_2) 0))) < (x140001_2.length : Int) then (spec_AddRay.l0 k2 true t140 t140 (t140.length : Int) (wrap64 (x63_2 + 1)) a0_0 l0_1 l0_2 a0_0 (x140001_2.set ((wrap64 ((wrap64 ((rd (rd_L1 t140 x63_2) 1) * a0_0)) + (rd (rd_L1 t140 x63_2) 0))) : Int).toNat (wrap64 ((rd x140001_2 (wrap64 ((wrap64 ((rd (rd_L1 t140 x63_2) 1) * a0_0)) + (rd (rd_L1 t140 x63_2) 0)))) + 1))) x140002_2) else (none)) else (none)) = some (r1, r2, r3, r4) := by rw [if_pos rfl] at H; exact H
               clear H
               have H := H1
               clear H1
               obtain ⟨ji57, hji57⟩ : ∃ j_ : Int, (wrap64 ((wrap64 ((rd (rd_L1 t140 x63_2) 1) * a0_0)) + (rd (rd_L1 t140 x63_2) 0))) = j_ := ⟨_, rfl⟩
               replace H : (if 0 ≤ (ji57) then (if (ji57) < (x140001_2.length : Int) then (spec_AddRay.l0 k2 true t140 t140 (t140.length : Int) (wrap64 (x63_2 + 1)) a0_0 l0_1 l0_2 a0_0 (x140001_2.set ((ji57) : Int).toNat (wrap64 ((rd x140001_2 (ji57)) + 1))) x140002_2) else (none)) else (none)) = some (r1, r2, r3, r4) := by first | (rw [hji57] at H; exact H) | (simp only [hji57] at H ⊢; exact H)
               have hji57w : (IntKind.i64.wrap ((wrap64 ((rd (rd_L1 t140 x63_2) 1) * a0_0)) + (rd (rd_L1 t140 x63_2) 0))) = ji57 := (i64_w _).trans hji57
               by_cases c58 : 0 ≤ (ji57)
               ·rw [if_pos c58] at H
                have c58b0 : decide (0 ≤ (ji57)) = true := decide_eq_true c58
                clear c58
                by_cases c59 : (ji57) < (x140001_2.length : Int)
                ·rw [if_pos c59] at H
                 have c59b0 : decide ((ji57) < (x140001_2.length : Int)) = true := decide_eq_true c59
                 clear c59
                 obtain ⟨y147, hy147⟩ : ∃ y_ : List Int, y_ = (x140001_2.set ((ji57) : Int).toNat (wrap64 ((rd x140001_2 (ji57)) + 1))) := ⟨_, rfl⟩
                 replace H : (spec_AddRay.l0 k2 true t140 t140 (t140.length : Int) (wrap64 (x63_2 + 1)) a0_0 l0_1 l0_2 a0_0 y147 x140002_2) = some (r1, r2, r3, r4) := by first | (rw [hy147]; with_reducible exact H) | (have H2_ := (Option.bind_some _ _).symm.trans H; rw [hy147]; with_reducible exact H2_) | (have H2_ := (Option.bind_some _ _).symm.trans H; with_reducible exact H2_) | with_reducible exact H | (rw [hy147]; exact H) | exact H
                 have Ny147 := Aside0.mk hy147
                 clear hy147
                 have H' := Aside0.mk H
                 clear H
                 have p143 : 0 ≤ (x63_2 : Int) := of_decide_eq_true (by first | (with_reducible assumption) | assumption)
                 have q143 : x63_2 < (t140.length : Int) := of_decide_eq_true (by first | (with_reducible assumption) | assumption)
                 obtain ⟨ad143, A143_0, c143_0, e143, hx143_0, hl143_0, hi143_0⟩ := at_L1 (Kd.S_reads' HO_61.out).2.2 x63_2 p143 q143
                 cases e143
                 obtain ⟨ce143, hce143, hMe143, hcc143⟩ := Kd.S_get HO_61.out [] x63_2 p143 (by first | exact q143 | exact of_decide_eq_true (by first | (with_reducible assumption) | assumption) | (have e_ := (Kd.S_reads' HO_61.out).1; omega))
                 obtain ⟨ve143_0, rfl, ge143_0⟩ := hMe143
                 have hv143_0 := hcc143 0 _ rfl
                 rw [Nat.add_zero, show ((Kd.slice 3 (Kd.int .i64))).sz = 1 from rfl, Nat.mul_one] at hv143_0
                 replace hv143_0 := Option.some.inj (hv143_0.symm.trans hx143_0)
                 rw [hv143_0] at ge143_0
                 have HL143_0 := a_ (show Kd.R (Kd.int .i64) 3 _ _ _ _ (rd_L1 t140 x63_2) from ge143_0)
                 clear hv143_0 ge143_0
                 clear hcc143 hce143
                 have HR143_0 := Aside0.mk hi143_0
                 have HC143_0 := Aside0.mk hl143_0
                 clear hi143_0 hl143_0
                 replace p143 := eq_true p143
                 replace q143 := eq_true q143
                 try go_wp2
                 replace HO_15 := a_ (Kd.S_drew HO_15.out)
                 replace HO_61 := a_ (Kd.S_drew HO_61.out)
                 replace HO_140001 := a_ (Kd.R_drew HO_140001.out)
                 replace HO_140002 := a_ (Kd.R_drew HO_140002.out)
                 replace HL143_0 := a_ (Kd.R_drew HL143_0.out)
                 replace BK122 := a_ (blk_drew BK122.out)
                 replace BK123 := a_ (blk_drew BK123.out)
                 replace BK139 := a_ (blk_drew BK139.out)
                 replace HR143_0 := a_ (Kd.C_drew HR143_0.out)
                 replace HB := a_ (below_drew1 HB.out)
                 have p144 : 0 ≤ (1 : Int) := (by omega)
                 have q144 : 1 < ((rd_L1 t140 x63_2).length : Int) := of_decide_eq_true (by first | (with_reducible assumption) | assumption)
                 obtain ⟨ad144, e144, hx144_0⟩ := Kd.at_int (by repeat (first | (with_reducible exact HR143_0.out) | (with_reducible refine Kd.C_alloc ?_ _) | (with_reducible refine Kd.C_drewN ?_ _) | (with_reducible refine Kd.C_drew ?_) | exact HR143_0.out)) 1 p144 q144
                 cases e144
                 (try simp only [show (1 : Int).toNat = 1 from rfl, Nat.reduceMul, Nat.reduceEqDiff, Go.Addr.add, ↓reduceIte] at hx144_0)
                 have qi144 : (1 < (rd_L1 t140 x63_2).length) = True := eq_true (by omega)
                 (try rw [show ((1 : Int)).toNat = 1 from rfl] at hx144_0)
                 replace p144 := eq_true p144
                 replace q144 := eq_true q144
                 have p145 : 0 ≤ (0 : Int) := (by omega)
                 have q145 : 0 < ((rd_L1 t140 x63_2).length : Int) := of_decide_eq_true (by first | (with_reducible assumption) | assumption)
                 obtain ⟨ad145, e145, hx145_0⟩ := Kd.at_int (by repeat (first | (with_reducible exact HR143_0.out) | (with_reducible refine Kd.C_alloc ?_ _) | (with_reducible refine Kd.C_drewN ?_ _) | (with_reducible refine Kd.C_drew ?_) | exact HR143_0.out)) 0 p145 q145
                 obtain rfl : ad144 = ad145 := (by injection e145)
                 have qi145 : (0 < (rd_L1 t140 x63_2).length) = True := eq_true (by omega)
                 (try rw [show ((0 : Int)).toNat = 0 from rfl] at hx145_0)
                 (try rw [Addr.add_zero'] at hx145_0)
                 replace p145 := eq_true p145
                 replace q145 := eq_true q145
                 refine start_ (n := 11) (S := fun w' => w'.cell? ⟨gb122, 0, none⟩ = some (.int .i64 a0_0) ∧ w'.cell? ⟨gb122, 1, none⟩ = some (.slice A0_1 l0_1.length c0_1) ∧ w'.cell? ⟨gb122, 2, none⟩ = some (.slice A0_2 l0_2.length c0_2) ∧ w'.cell? ⟨ad144.block, ad144.off + 1, none⟩ = some (.int .i64 (rd (rd_L1 t140 x63_2) 1)) ∧ w'.cell? ad144 = some (.int .i64 (rd (rd_L1 t140 x63_2) 0))) (ds := []) #[false, false, false, false, false, false, false, false, false, false, false] (by kernel_rfl) rfl rfl ⟨(blk_cell BK122.out 0).trans rfl, (blk_cell BK122.out 1).trans rfl, (blk_cell BK122.out 2).trans rfl, hx144_0, hx145_0⟩ (fun hHeld => ?_); refine with_tabW spec_AddRay.tab8 spec_AddRay.bits8 (fun HT_ HW_ => ?_)
                 generalize wr.drew = w61 at HO_15 HO_61 HO_140001 HO_140002 HL143_0 BK122 BK123 BK139 HR143_0 HB hx144_0 hx145_0 hHeld ⊢
                 refine pure_ (i := 0) (N := some 68) (v := ?_) (a' := ?_) #[true, false, false, false, false, false, false, false, false, false, false] rfl rfl (any_of HT_.out (by kernel_rfl)) (fun _ _ _ h => h) (Or.inl ⟨by rfl, ?_⟩) ?_ ?_
                 rotate_left
                 ·intro w'
                  go_simp
                  with_reducible rfl
                 rotate_left
                 ·simp only [Act.put, sB, sC, sD, i64_w, i32_w]
                  rfl
                 refine pure_ (i := 1) (N := some 69) (v := ?_) (a' := ?_) #[true, true, false, false, false, false, false, false, false, false, false] rfl rfl (any_of HT_.out (by kernel_rfl)) (fun _ _ _ h => h) (Or.inl ⟨by rfl, ?_⟩) ?_ ?_
                 rotate_left
                 ·intro w'
                  go_simp
                  with_reducible rfl
                 rotate_left
                 ·simp only [Act.put, sB, sC, sD, i64_w, i32_w]
                  rfl
                 refine pure_ (i := 3) (N := some 71) (v := ?_) (a' := ?_) #[true, true, false, true, false, false, false, false, false, false, false] rfl rfl (any_of HT_.out (by kernel_rfl)) (fun _ _ _ h => h) (Or.inl ⟨by rfl, ?_⟩) ?_ ?_
                 rotate_left
                 ·intro w'
                  go_simp
                  with_reducible rfl
                 rotate_left
                 ·simp only [Act.put, sB, sC, sD, i64_w, i32_w]
                  rfl
                 refine pure_ (i := 6) (N := some 74) (v := ?_) (a' := ?_) #[true, true, false, true, false, false, true, false, false, false, false] rfl rfl (any_of HT_.out (by kernel_rfl)) (fun _ _ _ h => h) (Or.inl ⟨by rfl, ?_⟩) ?_ ?_
                 rotate_left
                 ·intro w'
                  go_simp
                  with_reducible rfl
                 rotate_left
                 ·simp only [Act.put, sB, sC, sD, i64_w, i32_w]
                  rfl
                 refine pure_ (i := 7) (N := some 75) (v := ?_) (a' := ?_) #[true, true, false, true, false, false, true, true, false, false, false] rfl rfl (any_of HT_.out (by kernel_rfl)) (fun _ _ _ h => h) (Or.inl ⟨by rfl, ?_⟩) ?_ ?_
                 rotate_left
                 ·intro w'
                  go_simp
                  with_reducible rfl
                 rotate_left
                 ·simp only [Act.put, sB, sC, sD, i64_w, i32_w]
                  rfl
                 refine take_ (i := 2) (N := some 70) (v := ?_) (a' := ?_) #[true, true, true, true, false, false, true, true, false, false, false] rfl rfl (take_ofW HT_.out HW_.out (by kernel_rfl)) (fun _ _ _ h => h) (Or.inl ⟨by rfl, ?_⟩) hHeld ?_ ?_
                 rotate_left
                 ·rintro w' ⟨s0, s1, s2, s3, s4⟩
                  go_simp
                  with_reducible rfl
                 rotate_left
                 ·simp only [Act.put, sB, sC, sD, i64_w, i32_w]
                  rfl
                 refine take_ (i := 4) (N := some 72) (v := ?_) (a' := ?_) #[true, true, true, true, true, false, true, true, false, false, false] rfl rfl (take_ofW HT_.out HW_.out (by kernel_rfl)) (fun _ _ _ h => h) (Or.inl ⟨by rfl, ?_⟩) hHeld ?_ ?_
                 rotate_left
                 ·rintro w' ⟨s0, s1, s2, s3, s4⟩
                  go_simp
                  with_reducible rfl
                 rotate_left
                 ·simp only [Act.put, sB, sC, sD, i64_w, i32_w]
                  rfl
                 refine pure_ (i := 5) (N := some 73) (v := ?_) (a' := ?_) #[true, true, true, true, true, true, true, true, false, false, false] rfl rfl (any_of HT_.out (by kernel_rfl)) (fun _ _ _ h => h) (Or.inl ⟨by rfl, ?_⟩) ?_ ?_
                 rotate_left
                 ·intro w'
                  go_simp
                  with_reducible rfl
                 rotate_left
                 ·simp only [Act.put, sB, sC, sD, i64_w, i32_w]
                  rfl
                 refine take_ (i := 8) (N := some 76) (v := ?_) (a' := ?_) #[true, true, true, true, true, true, true, true, true, false, false] rfl rfl (take_ofW HT_.out HW_.out (by kernel_rfl)) (fun _ _ _ h => h) (Or.inl ⟨by rfl, ?_⟩) hHeld ?_ ?_
                 rotate_left
                 ·rintro w' ⟨s0, s1, s2, s3, s4⟩
                  go_simp
                  with_reducible rfl
                 rotate_left
                 ·simp only [Act.put, sB, sC, sD, i64_w, i32_w]
                  rfl
                 refine pure_ (i := 9) (N := some 77) (v := ?_) (a' := ?_) #[true, true, true, true, true, true, true, true, true, true, false] rfl rfl (any_of HT_.out (by kernel_rfl)) (fun _ _ _ h => h) (Or.inl ⟨by rfl, ?_⟩) ?_ ?_
                 rotate_left
                 ·intro w'
                  go_simp
                  with_reducible rfl
                 rotate_left
                 ·simp only [Act.put, sB, sC, sD, i64_w, i32_w]
                  rfl
                 refine pure_ (i := 10) (N := some 18) (v := ?_) (a' := ?_) #[true, true, true, true, true, true, true, true, true, true, true] rfl rfl (any_of HT_.out (by kernel_rfl)) (fun _ _ _ h => h) (Or.inl ⟨by rfl, ?_⟩) ?_ ?_
                 rotate_left
                 ·intro w'
                  go_simp
                  with_reducible rfl
                 rotate_left
                 ·simp only [Act.put, sB, sC, sD, i64_w, i32_w]
                  rfl
                 refine done_ (done_of HT_.out (by kernel_rfl)) ?_
                 have hnb62 := NB139_122.out
                 have hnc62 := NB122_139.out
                 have hnb63 := NB139_123.out
                 have hnc63 := NB123_139.out
                 have hcz64_0 : _ = some (Value.int .i64 a0_0) := (blk_cell BK139.out 0).trans rfl
                 have hcz64_1 : w61.cell? ⟨gb139, 1, none⟩ = some (u140001) := (blk_cell BK139.out 1).trans rfl
                 have hcz64_2 : w61.cell? ⟨gb139, 2, none⟩ = some (u140002) := (blk_cell BK139.out 2).trans rfl
                 have hfz64_0 := blk_frozen BK139.out 0
                 have hfz64_1 := blk_frozen BK139.out 1
                 have hfz64_2 := blk_frozen BK139.out 2
                 obtain ⟨Ao65, co65, eo65⟩ := Kd.R_slice HO_140001.out
                 subst eo65
                 have p146 : 0 ≤ ((ji57) : Int) := of_decide_eq_true (by first | (with_reducible assumption) | assumption)
                 have q146 : (ji57) < (x140001_2.length : Int) := of_decide_eq_true (by first | (with_reducible assumption) | assumption)
                 obtain ⟨ad146, e146, hx146_0⟩ := Kd.at_int (Kd.R_reads' HO_140001.out).2.2 (ji57) p146 q146
                 cases e146
                 replace p146 := eq_true p146
                 replace q146 := eq_true q146
                 have p60 : 0 ≤ ((ji57) : Int) := of_decide_eq_true (by first | (with_reducible assumption) | assumption)
                 have q60 : ((ji57) : Int) < ((x140001_2.length : Int) : Int) := of_decide_eq_true (by first | (with_reducible assumption) | assumption)
                 obtain ⟨go60, co60, eo60, gb60, gl60, cl60, HG60⟩ := Kd.R_form HO_140001.out (by omega)
                 (first | cases eo60 | (injection eo60 with ea_ en_ ec_; (first | subst ea_ | (injection ea_ with ea_; subst ea_)); subst ec_; clear en_))
                 have GB60 := Aside0.mk gb60
                 have GG60 := Aside0.mk HG60
                 clear gb60 gl60 HG60
                 (first | simp only [add_plain] at hx146_0 | skip)
                 obtain ⟨hx60_0, hf60_0⟩ := Kd.R_celln 0 HO_140001.out ((ji57) : Int) p60 q60
                 replace p60 := eq_true p60
                 replace q60 := eq_true q60
                 obtain ⟨hy66_, hz66_⟩ := Kd.R_celln 0 HO_140001.out ((ji57) : Int) (of_decide_eq_true (by first | (with_reducible assumption) | assumption)) (of_decide_eq_true (by first | (with_reducible assumption) | assumption))
                 have HP66 := Kd.R_putg HO_140001.out ((ji57) : Int) (wrap64 ((rd x140001_2 (ji57)) + 1))
                 try go_wp2_with (first | ((with_reducible refine gate_store (t := 3) (p := 92) rfl ?_); refine store_event (t := 3) (p := 92) (v := ?vo_w67) (w1 := (w61.setCell ⟨go60, ((ji57) : Int).toNat, none⟩ (.int .i64 (wrap64 ((rd x140001_2 (ji57)) + 1))))) ?hg ?ho ?hn ?hr ?_; (case ho => rfl); (case hg => rfl); (case hn => rfl); (case hr => first | (go_simp; done) | (go_simp; rfl)); intro w67 hw; have hg : w61.grownBy w67 (some go60) := (by rw [hw]; exact HP66.2); have hp_ : Kd.R (Kd.int .i64) 3 w67 w.heap.size (fun k_ => some k_ ≠ (u140002 : Value).ownBlock) (.slice (some ⟨go60, 0, none⟩) x140001_2.length co65) y147 := (by rw [hw, Ny147.out]; exact HP66.1); clear HP66; replace HO_15 := a_ (Kd.S_after (v := (.slice (some ⟨go60, 0, none⟩) x140001_2.length co65)) (v1 := (.slice (some ⟨go60, 0, none⟩) x140001_2.length co65)) (ok := (fun k_ => some k_ ≠ (u140002 : Value).ownBlock)) (by (with_reducible repeat (first | apply Kd.S_alloc | apply Kd.S_drewN | apply Kd.S_drew)); exact Kd.S_mono HO_15.out (fun _ hk => ⟨hk.2, hk.1⟩)) hg (.inl rfl)); replace HO_61 := a_ (Kd.S_after (v := (.slice (some ⟨go60, 0, none⟩) x140001_2.length co65)) (v1 := (.slice (some ⟨go60, 0, none⟩) x140001_2.length co65)) (ok := (fun k_ => some k_ ≠ (u140002 : Value).ownBlock)) (by (with_reducible repeat (first | apply Kd.S_alloc | apply Kd.S_drewN | apply Kd.S_drew)); exact Kd.S_mono HO_61.out (fun _ hk => ⟨hk.2, hk.1⟩)) hg (.inl rfl)); replace HO_140002 := a_ (Kd.R_after (v := (.slice (some ⟨go60, 0, none⟩) x140001_2.length co65)) (v1 := (.slice (some ⟨go60, 0, none⟩) x140001_2.length co65)) (ok := (fun _ => True)) (rk (Kd.R_mono HO_140002.out (fun _ hk => ⟨trivial, hk⟩))) hg (.inl rfl)); replace BK122 := a_ (blk_grown (pk BK122.out) hg (Kd.R_ne HO_140001.out BK122.out (by decide))); replace BK123 := a_ (blk_grown (pk BK123.out) hg (Kd.R_ne HO_140001.out BK123.out (by decide))); replace BK139 := a_ (blk_grown (pk BK139.out) hg (Kd.R_ne HO_140001.out BK139.out (by decide))); replace HO_140001 := a_ (hp_); replace HL143_0 := a_ (Kd.R_after (v := (.slice (some ⟨go60, 0, none⟩) x140001_2.length co65)) (v1 := (.slice (some ⟨go60, 0, none⟩) x140001_2.length co65)) (ok := (fun k_ => some k_ ≠ (.slice (some ad143) t140.length co49 : Value).ownBlock ∧ some k_ ≠ (u140002 : Value).ownBlock)) (rk (Kd.R_mono HL143_0.out (fun _ hk => ⟨⟨hk.2, hk.1.2⟩, hk.1.1⟩))) hg (.inl rfl)); replace HB := a_ (by rw [hw]; exact below_set (HB.out) GB60.out : Below w.heap.size w w67); clear hg hw hp_))
                 go_roundg k2
                 case measure => have := HJ6.out; have := HK2.out; omega
                 case rel => exact ⟨(wrap64 (x63_2 + 1)), (y147), (x140002_2), (.slice (some ⟨go60, 0, none⟩) x140001_2.length co65), (u140002), (by first | rfl | (simp; done) | (simp [*]; done)), H', ⟨by have := HJ6.out; have := HK2.out; omega⟩, ⟨by (with_reducible repeat (first | apply Kd.S_alloc | apply Kd.S_drewN | apply Kd.S_drew)); exact Kd.S_mono HO_15.out (fun _ hk => ⟨hk.2, hk.1⟩)⟩, ⟨by (with_reducible repeat (first | apply Kd.S_alloc | apply Kd.S_drewN | apply Kd.S_drew)); exact Kd.S_mono HO_61.out (fun _ hk => ⟨hk.2, hk.1⟩)⟩, ⟨rk (HO_140001.out)⟩, ⟨rk (Kd.R_mono HO_140002.out (fun _ hk => hk.2))⟩, ⟨pk BK122.out⟩, ⟨pk BK123.out⟩, ⟨pk BK139.out⟩, ⟨by repeat (with_reducible first | exact HB.out | refine bz ?_ (by assumption) | apply bA | apply bN | apply bD)⟩⟩
                ·rw [if_neg c59] at H
                 exact absurd H (by simp)
               ·rw [if_neg c58] at H
                exact absurd H (by simp)
              ·replace c56 := Bool.eq_false_iff.mpr c56
               subst c56
               have H1 : (if 0 ≤ (wrap64 ((wrap64 ((rd (rd_L1 t140 x63_2) 1) * a0_0)) + (rd (rd_L1 t140 x63_2) 0))) then (if (wrap64 ((wrap64 ((rd (rd_L1 t140 x63_2) 1) * a0_0)) + (rd (rd_L1 t140 x63_2) 0))) < (x140002_2.length : Int) then (spec_AddRay.l0 k2 false t140 t140 (t140.length : Int) (wrap64 (x63_2 + 1)) a0_0 l0_1 l0_2 a0_0 x140001_2 (x140002_2.set ((wrap64 ((wrap64 ((rd (rd_L1 t140 x63_2) 1) * a0_0)) + (rd (rd_L1 t140 x63_2) 0))) : Int).toNat (wrap64 ((rd x140002_2 (wrap64 ((wrap64 ((rd (rd_L1 t140 x63_2) 1) * a0_0)) + (rd (rd_L1 t140 x63_2) 0)))) + 1)))) else (none)) else (none)) = some (r1, r2, r3, r4) := by rw [if_neg (show ¬ (false = true) by decide)] at H; exact H
               clear H
               have H := H1
               clear H1
               obtain ⟨ji68, hji68⟩ : ∃ j_ : Int, (wrap64 ((wrap64 ((rd (rd_L1 t140 x63_2) 1) * a0_0)) + (rd (rd_L1 t140 x63_2) 0))) = j_ := ⟨_, rfl⟩
               replace H : (if 0 ≤ (ji68) then (if (ji68) < (x140002_2.length : Int) then (spec_AddRay.l0 k2 false t140 t140 (t140.length : Int) (wrap64 (x63_2 + 1)) a0_0 l0_1 l0_2 a0_0 x140001_2 (x140002_2.set ((ji68) : Int).toNat (wrap64 ((rd x140002_2 (ji68)) + 1)))) else (none)) else (none)) = some (r1, r2, r3, r4) := by first | (rw [hji68] at H; exact H) | (simp only [hji68] at H ⊢; exact H)
               have hji68w : (IntKind.i64.wrap ((wrap64 ((rd (rd_L1 t140 x63_2) 1) * a0_0)) + (rd (rd_L1 t140 x63_2) 0))) = ji68 := (i64_w _).trans hji68
               by_cases c69 : 0 ≤ (ji68)
               ·rw [if_pos c69] at H
                have c69b0 : decide (0 ≤ (ji68)) = true := decide_eq_true c69
                clear c69
                by_cases c70 : (ji68) < (x140002_2.length : Int)
                ·rw [if_pos c70] at H
                 have c70b0 : decide ((ji68) < (x140002_2.length : Int)) = true := decide_eq_true c70
                 clear c70
                 obtain ⟨y149, hy149⟩ : ∃ y_ : List Int, y_ = (x140002_2.set ((ji68) : Int).toNat (wrap64 ((rd x140002_2 (ji68)) + 1))) := ⟨_, rfl⟩
                 replace H : (spec_AddRay.l0 k2 false t140 t140 (t140.length : Int) (wrap64 (x63_2 + 1)) a0_0 l0_1 l0_2 a0_0 x140001_2 y149) = some (r1, r2, r3, r4) := by first | (rw [hy149]; with_reducible exact H) | (have H2_ := (Option.bind_some _ _).symm.trans H; rw [hy149]; with_reducible exact H2_) | (have H2_ := (Option.bind_some _ _).symm.trans H; with_reducible exact H2_) | with_reducible exact H | (rw [hy149]; exact H) | exact H
                 have Ny149 := Aside0.mk hy149
                 clear hy149
                 have H' := Aside0.mk H
                 clear H
                 have p143 : 0 ≤ (x63_2 : Int) := of_decide_eq_true (by first | (with_reducible assumption) | assumption)
                 have q143 : x63_2 < (t140.length : Int) := of_decide_eq_true (by first | (with_reducible assumption) | assumption)
                 obtain ⟨ad143, A143_0, c143_0, e143, hx143_0, hl143_0, hi143_0⟩ := at_L1 (Kd.S_reads' HO_61.out).2.2 x63_2 p143 q143
                 cases e143
                 obtain ⟨ce143, hce143, hMe143, hcc143⟩ := Kd.S_get HO_61.out [] x63_2 p143 (by first | exact q143 | exact of_decide_eq_true (by first | (with_reducible assumption) | assumption) | (have e_ := (Kd.S_reads' HO_61.out).1; omega))
                 obtain ⟨ve143_0, rfl, ge143_0⟩ := hMe143
                 have hv143_0 := hcc143 0 _ rfl
                 rw [Nat.add_zero, show ((Kd.slice 3 (Kd.int .i64))).sz = 1 from rfl, Nat.mul_one] at hv143_0
                 replace hv143_0 := Option.some.inj (hv143_0.symm.trans hx143_0)
                 rw [hv143_0] at ge143_0
                 have HL143_0 := a_ (show Kd.R (Kd.int .i64) 3 _ _ _ _ (rd_L1 t140 x63_2) from ge143_0)
                 clear hv143_0 ge143_0
                 clear hcc143 hce143
                 have HR143_0 := Aside0.mk hi143_0
                 have HC143_0 := Aside0.mk hl143_0
                 clear hi143_0 hl143_0
                 replace p143 := eq_true p143
                 replace q143 := eq_true q143
                 try go_wp2
                 replace HO_15 := a_ (Kd.S_drew HO_15.out)
                 replace HO_61 := a_ (Kd.S_drew HO_61.out)
                 replace HO_140001 := a_ (Kd.R_drew HO_140001.out)
                 replace HO_140002 := a_ (Kd.R_drew HO_140002.out)
                 replace HL143_0 := a_ (Kd.R_drew HL143_0.out)
                 replace BK122 := a_ (blk_drew BK122.out)
                 replace BK123 := a_ (blk_drew BK123.out)
                 replace BK139 := a_ (blk_drew BK139.out)
                 replace HR143_0 := a_ (Kd.C_drew HR143_0.out)
                 replace HB := a_ (below_drew1 HB.out)
                 have p144 : 0 ≤ (1 : Int) := (by omega)
                 have q144 : 1 < ((rd_L1 t140 x63_2).length : Int) := of_decide_eq_true (by first | (with_reducible assumption) | assumption)
                 obtain ⟨ad144, e144, hx144_0⟩ := Kd.at_int (by repeat (first | (with_reducible exact HR143_0.out) | (with_reducible refine Kd.C_alloc ?_ _) | (with_reducible refine Kd.C_drewN ?_ _) | (with_reducible refine Kd.C_drew ?_) | exact HR143_0.out)) 1 p144 q144
                 cases e144
                 (try simp only [show (1 : Int).toNat = 1 from rfl, Nat.reduceMul, Nat.reduceEqDiff, Go.Addr.add, ↓reduceIte] at hx144_0)
                 have qi144 : (1 < (rd_L1 t140 x63_2).length) = True := eq_true (by omega)
                 (try rw [show ((1 : Int)).toNat = 1 from rfl] at hx144_0)
                 replace p144 := eq_true p144
                 replace q144 := eq_true q144
                 have p145 : 0 ≤ (0 : Int) := (by omega)
                 have q145 : 0 < ((rd_L1 t140 x63_2).length : Int) := of_decide_eq_true (by first | (with_reducible assumption) | assumption)
                 obtain ⟨ad145, e145, hx145_0⟩ := Kd.at_int (by repeat (first | (with_reducible exact HR143_0.out) | (with_reducible refine Kd.C_alloc ?_ _) | (with_reducible refine Kd.C_drewN ?_ _) | (with_reducible refine Kd.C_drew ?_) | exact HR143_0.out)) 0 p145 q145
                 obtain rfl : ad144 = ad145 := (by injection e145)
                 have qi145 : (0 < (rd_L1 t140 x63_2).length) = True := eq_true (by omega)
                 (try rw [show ((0 : Int)).toNat = 0 from rfl] at hx145_0)
                 (try rw [Addr.add_zero'] at hx145_0)
                 replace p145 := eq_true p145
                 replace q145 := eq_true q145
                 refine start_ (n := 11) (S := fun w' => w'.cell? ⟨gb122, 0, none⟩ = some (.int .i64 a0_0) ∧ w'.cell? ⟨gb122, 1, none⟩ = some (.slice A0_1 l0_1.length c0_1) ∧ w'.cell? ⟨gb122, 2, none⟩ = some (.slice A0_2 l0_2.length c0_2) ∧ w'.cell? ⟨ad144.block, ad144.off + 1, none⟩ = some (.int .i64 (rd (rd_L1 t140 x63_2) 1)) ∧ w'.cell? ad144 = some (.int .i64 (rd (rd_L1 t140 x63_2) 0))) (ds := []) #[false, false, false, false, false, false, false, false, false, false, false] (by kernel_rfl) rfl rfl ⟨(blk_cell BK122.out 0).trans rfl, (blk_cell BK122.out 1).trans rfl, (blk_cell BK122.out 2).trans rfl, hx144_0, hx145_0⟩ (fun hHeld => ?_); refine with_tabW spec_AddRay.tab8 spec_AddRay.bits8 (fun HT_ HW_ => ?_)
                 generalize wr.drew = w72 at HO_15 HO_61 HO_140001 HO_140002 HL143_0 BK122 BK123 BK139 HR143_0 HB hx144_0 hx145_0 hHeld ⊢
                 refine pure_ (i := 0) (N := some 68) (v := ?_) (a' := ?_) #[true, false, false, false, false, false, false, false, false, false, false] rfl rfl (any_of HT_.out (by kernel_rfl)) (fun _ _ _ h => h) (Or.inl ⟨by rfl, ?_⟩) ?_ ?_
                 rotate_left
                 ·intro w'
                  go_simp
                  with_reducible rfl
                 rotate_left
                 ·simp only [Act.put, sB, sC, sD, i64_w, i32_w]
                  rfl
                 refine pure_ (i := 1) (N := some 69) (v := ?_) (a' := ?_) #[true, true, false, false, false, false, false, false, false, false, false] rfl rfl (any_of HT_.out (by kernel_rfl)) (fun _ _ _ h => h) (Or.inl ⟨by rfl, ?_⟩) ?_ ?_
                 rotate_left
                 ·intro w'
                  go_simp
                  with_reducible rfl
                 rotate_left
                 ·simp only [Act.put, sB, sC, sD, i64_w, i32_w]
                  rfl
                 refine pure_ (i := 3) (N := some 71) (v := ?_) (a' := ?_) #[true, true, false, true, false, false, false, false, false, false, false] rfl rfl (any_of HT_.out (by kernel_rfl)) (fun _ _ _ h => h) (Or.inl ⟨by rfl, ?_⟩) ?_ ?_
                 rotate_left
                 ·intro w'
                  go_simp
                  with_reducible rfl
                 rotate_left
                 ·simp only [Act.put, sB, sC, sD, i64_w, i32_w]
                  rfl
                 refine pure_ (i := 6) (N := some 74) (v := ?_) (a' := ?_) #[true, true, false, true, false, false, true, false, false, false, false] rfl rfl (any_of HT_.out (by kernel_rfl)) (fun _ _ _ h => h) (Or.inl ⟨by rfl, ?_⟩) ?_ ?_
                 rotate_left
                 ·intro w'
                  go_simp
                  with_reducible rfl
                 rotate_left
                 ·simp only [Act.put, sB, sC, sD, i64_w, i32_w]
                  rfl
                 refine pure_ (i := 7) (N := some 75) (v := ?_) (a' := ?_) #[true, true, false, true, false, false, true, true, false, false, false] rfl rfl (any_of HT_.out (by kernel_rfl)) (fun _ _ _ h => h) (Or.inl ⟨by rfl, ?_⟩) ?_ ?_
                 rotate_left
                 ·intro w'
                  go_simp
                  with_reducible rfl
                 rotate_left
                 ·simp only [Act.put, sB, sC, sD, i64_w, i32_w]
                  rfl
                 refine take_ (i := 2) (N := some 70) (v := ?_) (a' := ?_) #[true, true, true, true, false, false, true, true, false, false, false] rfl rfl (take_ofW HT_.out HW_.out (by kernel_rfl)) (fun _ _ _ h => h) (Or.inl ⟨by rfl, ?_⟩) hHeld ?_ ?_
                 rotate_left
                 ·rintro w' ⟨s0, s1, s2, s3, s4⟩
                  go_simp
                  with_reducible rfl
                 rotate_left
                 ·simp only [Act.put, sB, sC, sD, i64_w, i32_w]
                  rfl
                 refine take_ (i := 4) (N := some 72) (v := ?_) (a' := ?_) #[true, true, true, true, true, false, true, true, false, false, false] rfl rfl (take_ofW HT_.out HW_.out (by kernel_rfl)) (fun _ _ _ h => h) (Or.inl ⟨by rfl, ?_⟩) hHeld ?_ ?_
                 rotate_left
                 ·rintro w' ⟨s0, s1, s2, s3, s4⟩
                  go_simp
                  with_reducible rfl
                 rotate_left
                 ·simp only [Act.put, sB, sC, sD, i64_w, i32_w]
                  rfl
                 refine pure_ (i := 5) (N := some 73) (v := ?_) (a' := ?_) #[true, true, true, true, true, true, true, true, false, false, false] rfl rfl (any_of HT_.out (by kernel_rfl)) (fun _ _ _ h => h) (Or.inl ⟨by rfl, ?_⟩) ?_ ?_
                 rotate_left
                 ·intro w'
                  go_simp
                  with_reducible rfl
                 rotate_left
                 ·simp only [Act.put, sB, sC, sD, i64_w, i32_w]
                  rfl
                 refine take_ (i := 8) (N := some 76) (v := ?_) (a' := ?_) #[true, true, true, true, true, true, true, true, true, false, false] rfl rfl (take_ofW HT_.out HW_.out (by kernel_rfl)) (fun _ _ _ h => h) (Or.inl ⟨by rfl, ?_⟩) hHeld ?_ ?_
                 rotate_left
                 ·rintro w' ⟨s0, s1, s2, s3, s4⟩
                  go_simp
                  with_reducible rfl
                 rotate_left
                 ·simp only [Act.put, sB, sC, sD, i64_w, i32_w]
                  rfl
                 refine pure_ (i := 9) (N := some 77) (v := ?_) (a' := ?_) #[true, true, true, true, true, true, true, true, true, true, false] rfl rfl (any_of HT_.out (by kernel_rfl)) (fun _ _ _ h => h) (Or.inl ⟨by rfl, ?_⟩) ?_ ?_
                 rotate_left
                 ·intro w'
                  go_simp
                  with_reducible rfl
                 rotate_left
                 ·simp only [Act.put, sB, sC, sD, i64_w, i32_w]
                  rfl
                 refine pure_ (i := 10) (N := some 18) (v := ?_) (a' := ?_) #[true, true, true, true, true, true, true, true, true, true, true] rfl rfl (any_of HT_.out (by kernel_rfl)) (fun _ _ _ h => h) (Or.inl ⟨by rfl, ?_⟩) ?_ ?_
                 rotate_left
                 ·intro w'
                  go_simp
                  with_reducible rfl
                 rotate_left
                 ·simp only [Act.put, sB, sC, sD, i64_w, i32_w]
                  rfl
                 refine done_ (done_of HT_.out (by kernel_rfl)) ?_
                 have hnb73 := NB139_122.out
                 have hnc73 := NB122_139.out
                 have hnb74 := NB139_123.out
                 have hnc74 := NB123_139.out
                 have hcz75_0 : _ = some (Value.int .i64 a0_0) := (blk_cell BK139.out 0).trans rfl
                 have hcz75_1 : w72.cell? ⟨gb139, 1, none⟩ = some (u140001) := (blk_cell BK139.out 1).trans rfl
                 have hcz75_2 : w72.cell? ⟨gb139, 2, none⟩ = some (u140002) := (blk_cell BK139.out 2).trans rfl
                 have hfz75_0 := blk_frozen BK139.out 0
                 have hfz75_1 := blk_frozen BK139.out 1
                 have hfz75_2 := blk_frozen BK139.out 2
                 obtain ⟨Ao76, co76, eo76⟩ := Kd.R_slice HO_140002.out
                 subst eo76
                 have p148 : 0 ≤ ((ji68) : Int) := of_decide_eq_true (by first | (with_reducible assumption) | assumption)
                 have q148 : (ji68) < (x140002_2.length : Int) := of_decide_eq_true (by first | (with_reducible assumption) | assumption)
                 obtain ⟨ad148, e148, hx148_0⟩ := Kd.at_int (Kd.R_reads' HO_140002.out).2.2 (ji68) p148 q148
                 cases e148
                 replace p148 := eq_true p148
                 replace q148 := eq_true q148
                 have p71 : 0 ≤ ((ji68) : Int) := of_decide_eq_true (by first | (with_reducible assumption) | assumption)
                 have q71 : ((ji68) : Int) < ((x140002_2.length : Int) : Int) := of_decide_eq_true (by first | (with_reducible assumption) | assumption)
                 obtain ⟨go71, co71, eo71, gb71, gl71, cl71, HG71⟩ := Kd.R_form HO_140002.out (by omega)
                 (first | cases eo71 | (injection eo71 with ea_ en_ ec_; (first | subst ea_ | (injection ea_ with ea_; subst ea_)); subst ec_; clear en_))
                 have GB71 := Aside0.mk gb71
                 have GG71 := Aside0.mk HG71
                 clear gb71 gl71 HG71
                 (first | simp only [add_plain] at hx148_0 | skip)
                 obtain ⟨hx71_0, hf71_0⟩ := Kd.R_celln 0 HO_140002.out ((ji68) : Int) p71 q71
                 replace p71 := eq_true p71
                 replace q71 := eq_true q71
                 obtain ⟨hy77_, hz77_⟩ := Kd.R_celln 0 HO_140002.out ((ji68) : Int) (of_decide_eq_true (by first | (with_reducible assumption) | assumption)) (of_decide_eq_true (by first | (with_reducible assumption) | assumption))
                 have HP77 := Kd.R_putg HO_140002.out ((ji68) : Int) (wrap64 ((rd x140002_2 (ji68)) + 1))
                 try go_wp2_with (first | ((with_reducible refine gate_store (t := 3) (p := 99) rfl ?_); refine store_event (t := 3) (p := 99) (v := ?vo_w78) (w1 := (w72.setCell ⟨go71, ((ji68) : Int).toNat, none⟩ (.int .i64 (wrap64 ((rd x140002_2 (ji68)) + 1))))) ?hg ?ho ?hn ?hr ?_; (case ho => rfl); (case hg => rfl); (case hn => rfl); (case hr => first | (go_simp; done) | (go_simp; rfl)); intro w78 hw; have hg : w72.grownBy w78 (some go71) := (by rw [hw]; exact HP77.2); have hp_ : Kd.R (Kd.int .i64) 3 w78 w.heap.size (fun k_ => some k_ ≠ (u140001 : Value).ownBlock) (.slice (some ⟨go71, 0, none⟩) x140002_2.length co76) y149 := (by rw [hw, Ny149.out]; exact HP77.1); clear HP77; replace HO_15 := a_ (Kd.S_after (v := (.slice (some ⟨go71, 0, none⟩) x140002_2.length co76)) (v1 := (.slice (some ⟨go71, 0, none⟩) x140002_2.length co76)) (ok := (fun k_ => some k_ ≠ (u140001 : Value).ownBlock)) (by (with_reducible repeat (first | apply Kd.S_alloc | apply Kd.S_drewN | apply Kd.S_drew)); exact HO_15.out) hg (.inl rfl)); replace HO_61 := a_ (Kd.S_after (v := (.slice (some ⟨go71, 0, none⟩) x140002_2.length co76)) (v1 := (.slice (some ⟨go71, 0, none⟩) x140002_2.length co76)) (ok := (fun k_ => some k_ ≠ (u140001 : Value).ownBlock)) (by (with_reducible repeat (first | apply Kd.S_alloc | apply Kd.S_drewN | apply Kd.S_drew)); exact HO_61.out) hg (.inl rfl)); replace HO_140001 := a_ (Kd.R_after (v := (.slice (some ⟨go71, 0, none⟩) x140002_2.length co76)) (v1 := (.slice (some ⟨go71, 0, none⟩) x140002_2.length co76)) (ok := (fun _ => True)) (rk (Kd.R_mono HO_140001.out (fun _ hk => ⟨trivial, hk⟩))) hg (.inl rfl)); replace BK122 := a_ (blk_grown (pk BK122.out) hg (Kd.R_ne HO_140002.out BK122.out (by decide))); replace BK123 := a_ (blk_grown (pk BK123.out) hg (Kd.R_ne HO_140002.out BK123.out (by decide))); replace BK139 := a_ (blk_grown (pk BK139.out) hg (Kd.R_ne HO_140002.out BK139.out (by decide))); replace HO_140002 := a_ (hp_); replace HL143_0 := a_ (Kd.R_after (v := (.slice (some ⟨go71, 0, none⟩) x140002_2.length co76)) (v1 := (.slice (some ⟨go71, 0, none⟩) x140002_2.length co76)) (ok := (fun k_ => some k_ ≠ (.slice (some ad143) t140.length co49 : Value).ownBlock ∧ some k_ ≠ (u140001 : Value).ownBlock)) (rk (Kd.R_mono HL143_0.out (fun _ hk => ⟨⟨hk.2, hk.1.1⟩, hk.1.2⟩))) hg (.inl rfl)); replace HB := a_ (by rw [hw]; exact below_set (HB.out) GB71.out : Below w.heap.size w w78); clear hg hw hp_))
                 go_roundg k2
                 case measure => have := HJ6.out; have := HK2.out; omega
                 case rel => exact ⟨(wrap64 (x63_2 + 1)), (x140001_2), (y149), (u140001), (.slice (some ⟨go71, 0, none⟩) x140002_2.length co76), (by first | rfl | (simp; done) | (simp [*]; done)), H', ⟨by have := HJ6.out; have := HK2.out; omega⟩, ⟨by (with_reducible repeat (first | apply Kd.S_alloc | apply Kd.S_drewN | apply Kd.S_drew)); exact HO_15.out⟩, ⟨by (with_reducible repeat (first | apply Kd.S_alloc | apply Kd.S_drewN | apply Kd.S_drew)); exact HO_61.out⟩, ⟨rk (Kd.R_mono HO_140001.out (fun _ hk => hk.2))⟩, ⟨rk (HO_140002.out)⟩, ⟨pk BK122.out⟩, ⟨pk BK123.out⟩, ⟨pk BK139.out⟩, ⟨by repeat (with_reducible first | exact HB.out | refine bz ?_ (by assumption) | apply bA | apply bN | apply bD)⟩⟩
                ·rw [if_neg c70] at H
                 exact absurd H (by simp)
               ·rw [if_neg c69] at H
                exact absurd H (by simp)
             ·rw [if_neg c55] at H
              have c55b0 : (x63_2 == (wrap64 ((t140.length : Int) - 1))) = false := beq_eq_false_iff_ne.mpr c55
              have c55b1 : (x63_2 != (wrap64 ((t140.length : Int) - 1))) = true := bne_iff_ne.mpr c55
              obtain ⟨ji79, hji79⟩ : ∃ j_ : Int, (wrap64 ((wrap64 ((rd (rd_L1 t140 x63_2) 1) * a0_0)) + (rd (rd_L1 t140 x63_2) 0))) = j_ := ⟨_, rfl⟩
              replace H : (if 0 ≤ (ji79) then (if (ji79) < (x140002_2.length : Int) then (spec_AddRay.l0 k2 a5 t140 t140 (t140.length : Int) (wrap64 (x63_2 + 1)) a0_0 l0_1 l0_2 a0_0 x140001_2 (x140002_2.set ((ji79) : Int).toNat (wrap64 ((rd x140002_2 (ji79)) + 1)))) else (none)) else (none)) = some (r1, r2, r3, r4) := by first | (rw [hji79] at H; exact H) | (simp only [hji79] at H ⊢; exact H)
              have hji79w : (IntKind.i64.wrap ((wrap64 ((rd (rd_L1 t140 x63_2) 1) * a0_0)) + (rd (rd_L1 t140 x63_2) 0))) = ji79 := (i64_w _).trans hji79
              by_cases c80 : 0 ≤ (ji79)
              ·rw [if_pos c80] at H
               have c80b0 : decide (0 ≤ (ji79)) = true := decide_eq_true c80
               clear c80
               by_cases c81 : (ji79) < (x140002_2.length : Int)
               ·rw [if_pos c81] at H
                have c81b0 : decide ((ji79) < (x140002_2.length : Int)) = true := decide_eq_true c81
                clear c81
                obtain ⟨y151, hy151⟩ : ∃ y_ : List Int, y_ = (x140002_2.set ((ji79) : Int).toNat (wrap64 ((rd x140002_2 (ji79)) + 1))) := ⟨_, rfl⟩
                replace H : (spec_AddRay.l0 k2 a5 t140 t140 (t140.length : Int) (wrap64 (x63_2 + 1)) a0_0 l0_1 l0_2 a0_0 x140001_2 y151) = some (r1, r2, r3, r4) := by first | (rw [hy151]; with_reducible exact H) | (have H2_ := (Option.bind_some _ _).symm.trans H; rw [hy151]; with_reducible exact H2_) | (have H2_ := (Option.bind_some _ _).symm.trans H; with_reducible exact H2_) | with_reducible exact H | (rw [hy151]; exact H) | exact H
                have Ny151 := Aside0.mk hy151
                clear hy151
                have H' := Aside0.mk H
                clear H
                have p143 : 0 ≤ (x63_2 : Int) := of_decide_eq_true (by first | (with_reducible assumption) | assumption)
                have q143 : x63_2 < (t140.length : Int) := of_decide_eq_true (by first | (with_reducible assumption) | assumption)
                obtain ⟨ad143, A143_0, c143_0, e143, hx143_0, hl143_0, hi143_0⟩ := at_L1 (Kd.S_reads' HO_61.out).2.2 x63_2 p143 q143
                cases e143
                obtain ⟨ce143, hce143, hMe143, hcc143⟩ := Kd.S_get HO_61.out [] x63_2 p143 (by first | exact q143 | exact of_decide_eq_true (by first | (with_reducible assumption) | assumption) | (have e_ := (Kd.S_reads' HO_61.out).1; omega))
                obtain ⟨ve143_0, rfl, ge143_0⟩ := hMe143
                have hv143_0 := hcc143 0 _ rfl
                rw [Nat.add_zero, show ((Kd.slice 3 (Kd.int .i64))).sz = 1 from rfl, Nat.mul_one] at hv143_0
                replace hv143_0 := Option.some.inj (hv143_0.symm.trans hx143_0)
                rw [hv143_0] at ge143_0
                have HL143_0 := a_ (show Kd.R (Kd.int .i64) 3 _ _ _ _ (rd_L1 t140 x63_2) from ge143_0)
                clear hv143_0 ge143_0
                clear hcc143 hce143
                have HR143_0 := Aside0.mk hi143_0
                have HC143_0 := Aside0.mk hl143_0
                clear hi143_0 hl143_0
                replace p143 := eq_true p143
                replace q143 := eq_true q143
                try go_wp2
                replace HO_15 := a_ (Kd.S_drew HO_15.out)
                replace HO_61 := a_ (Kd.S_drew HO_61.out)
                replace HO_140001 := a_ (Kd.R_drew HO_140001.out)
                replace HO_140002 := a_ (Kd.R_drew HO_140002.out)
                replace HL143_0 := a_ (Kd.R_drew HL143_0.out)
                replace BK122 := a_ (blk_drew BK122.out)
                replace BK123 := a_ (blk_drew BK123.out)
                replace BK139 := a_ (blk_drew BK139.out)
                replace HR143_0 := a_ (Kd.C_drew HR143_0.out)
                replace HB := a_ (below_drew1 HB.out)
                have p144 : 0 ≤ (1 : Int) := (by omega)
                have q144 : 1 < ((rd_L1 t140 x63_2).length : Int) := of_decide_eq_true (by first | (with_reducible assumption) | assumption)
                obtain ⟨ad144, e144, hx144_0⟩ := Kd.at_int (by repeat (first | (with_reducible exact HR143_0.out) | (with_reducible refine Kd.C_alloc ?_ _) | (with_reducible refine Kd.C_drewN ?_ _) | (with_reducible refine Kd.C_drew ?_) | exact HR143_0.out)) 1 p144 q144
                cases e144
                (try simp only [show (1 : Int).toNat = 1 from rfl, Nat.reduceMul, Nat.reduceEqDiff, Go.Addr.add, ↓reduceIte] at hx144_0)
                have qi144 : (1 < (rd_L1 t140 x63_2).length) = True := eq_true (by omega)
                (try rw [show ((1 : Int)).toNat = 1 from rfl] at hx144_0)
                replace p144 := eq_true p144
                replace q144 := eq_true q144
                have p145 : 0 ≤ (0 : Int) := (by omega)
                have q145 : 0 < ((rd_L1 t140 x63_2).length : Int) := of_decide_eq_true (by first | (with_reducible assumption) | assumption)
                obtain ⟨ad145, e145, hx145_0⟩ := Kd.at_int (by repeat (first | (with_reducible exact HR143_0.out) | (with_reducible refine Kd.C_alloc ?_ _) | (with_reducible refine Kd.C_drewN ?_ _) | (with_reducible refine Kd.C_drew ?_) | exact HR143_0.out)) 0 p145 q145
                obtain rfl : ad144 = ad145 := (by injection e145)
                have qi145 : (0 < (rd_L1 t140 x63_2).length) = True := eq_true (by omega)
                (try rw [show ((0 : Int)).toNat = 0 from rfl] at hx145_0)
                (try rw [Addr.add_zero'] at hx145_0)
                replace p145 := eq_true p145
                replace q145 := eq_true q145
                refine start_ (n := 11) (S := fun w' => w'.cell? ⟨gb122, 0, none⟩ = some (.int .i64 a0_0) ∧ w'.cell? ⟨gb122, 1, none⟩ = some (.slice A0_1 l0_1.length c0_1) ∧ w'.cell? ⟨gb122, 2, none⟩ = some (.slice A0_2 l0_2.length c0_2) ∧ w'.cell? ⟨ad144.block, ad144.off + 1, none⟩ = some (.int .i64 (rd (rd_L1 t140 x63_2) 1)) ∧ w'.cell? ad144 = some (.int .i64 (rd (rd_L1 t140 x63_2) 0))) (ds := []) #[false, false, false, false, false, false, false, false, false, false, false] (by kernel_rfl) rfl rfl ⟨(blk_cell BK122.out 0).trans rfl, (blk_cell BK122.out 1).trans rfl, (blk_cell BK122.out 2).trans rfl, hx144_0, hx145_0⟩ (fun hHeld => ?_); refine with_tabW spec_AddRay.tab8 spec_AddRay.bits8 (fun HT_ HW_ => ?_)
                generalize wr.drew = w83 at HO_15 HO_61 HO_140001 HO_140002 HL143_0 BK122 BK123 BK139 HR143_0 HB hx144_0 hx145_0 hHeld ⊢
                refine pure_ (i := 0) (N := some 68) (v := ?_) (a' := ?_) #[true, false, false, false, false, false, false, false, false, false, false] rfl rfl (any_of HT_.out (by kernel_rfl)) (fun _ _ _ h => h) (Or.inl ⟨by rfl, ?_⟩) ?_ ?_
                rotate_left
                ·intro w'
                 go_simp
                 with_reducible rfl
                rotate_left
                ·simp only [Act.put, sB, sC, sD, i64_w, i32_w]
                 rfl
                refine pure_ (i := 1) (N := some 69) (v := ?_) (a' := ?_) #[true, true, false, false, false, false, false, false, false, false, false] rfl rfl (any_of HT_.out (by kernel_rfl)) (fun _ _ _ h => h) (Or.inl ⟨by rfl, ?_⟩) ?_ ?_
                rotate_left
                ·intro w'
                 go_simp
                 with_reducible rfl
                rotate_left
                ·simp only [Act.put, sB, sC, sD, i64_w, i32_w]
                 rfl
                refine pure_ (i := 3) (N := some 71) (v := ?_) (a' := ?_) #[true, true, false, true, false, false, false, false, false, false, false] rfl rfl (any_of HT_.out (by kernel_rfl)) (fun _ _ _ h => h) (Or.inl ⟨by rfl, ?_⟩) ?_ ?_
                rotate_left
                ·intro w'
                 go_simp
                 with_reducible rfl
                rotate_left
                ·simp only [Act.put, sB, sC, sD, i64_w, i32_w]
                 rfl
                refine pure_ (i := 6) (N := some 74) (v := ?_) (a' := ?_) #[true, true, false, true, false, false, true, false, false, false, false] rfl rfl (any_of HT_.out (by kernel_rfl)) (fun _ _ _ h => h) (Or.inl ⟨by rfl, ?_⟩) ?_ ?_
                rotate_left
                ·intro w'
                 go_simp
                 with_reducible rfl
                rotate_left
                ·simp only [Act.put, sB, sC, sD, i64_w, i32_w]
                 rfl
                refine pure_ (i := 7) (N := some 75) (v := ?_) (a' := ?_) #[true, true, false, true, false, false, true, true, false, false, false] rfl rfl (any_of HT_.out (by kernel_rfl)) (fun _ _ _ h => h) (Or.inl ⟨by rfl, ?_⟩) ?_ ?_
                rotate_left
                ·intro w'
                 go_simp
                 with_reducible rfl
                rotate_left
                ·simp only [Act.put, sB, sC, sD, i64_w, i32_w]
                 rfl
                refine take_ (i := 2) (N := some 70) (v := ?_) (a' := ?_) #[true, true, true, true, false, false, true, true, false, false, false] rfl rfl (take_ofW HT_.out HW_.out (by kernel_rfl)) (fun _ _ _ h => h) (Or.inl ⟨by rfl, ?_⟩) hHeld ?_ ?_
                rotate_left
                ·rintro w' ⟨s0, s1, s2, s3, s4⟩
                 go_simp
                 with_reducible rfl
                rotate_left
                ·simp only [Act.put, sB, sC, sD, i64_w, i32_w]
                 rfl
                refine take_ (i := 4) (N := some 72) (v := ?_) (a' := ?_) #[true, true, true, true, true, false, true, true, false, false, false] rfl rfl (take_ofW HT_.out HW_.out (by kernel_rfl)) (fun _ _ _ h => h) (Or.inl ⟨by rfl, ?_⟩) hHeld ?_ ?_
                rotate_left
                ·rintro w' ⟨s0, s1, s2, s3, s4⟩
                 go_simp
                 with_reducible rfl
                rotate_left
                ·simp only [Act.put, sB, sC, sD, i64_w, i32_w]
                 rfl
                refine pure_ (i := 5) (N := some 73) (v := ?_) (a' := ?_) #[true, true, true, true, true, true, true, true, false, false, false] rfl rfl (any_of HT_.out (by kernel_rfl)) (fun _ _ _ h => h) (Or.inl ⟨by rfl, ?_⟩) ?_ ?_
                rotate_left
                ·intro w'
                 go_simp
                 with_reducible rfl
                rotate_left
                ·simp only [Act.put, sB, sC, sD, i64_w, i32_w]
                 rfl
                refine take_ (i := 8) (N := some 76) (v := ?_) (a' := ?_) #[true, true, true, true, true, true, true, true, true, false, false] rfl rfl (take_ofW HT_.out HW_.out (by kernel_rfl)) (fun _ _ _ h => h) (Or.inl ⟨by rfl, ?_⟩) hHeld ?_ ?_
                rotate_left
                ·rintro w' ⟨s0, s1, s2, s3, s4⟩
                 go_simp
                 with_reducible rfl
                rotate_left
                ·simp only [Act.put, sB, sC, sD, i64_w, i32_w]
                 rfl
                refine pure_ (i := 9) (N := some 77) (v := ?_) (a' := ?_) #[true, true, true, true, true, true, true, true, true, true, false] rfl rfl (any_of HT_.out (by kernel_rfl)) (fun _ _ _ h => h) (Or.inl ⟨by rfl, ?_⟩) ?_ ?_
                rotate_left
                ·intro w'
                 go_simp
                 with_reducible rfl
                rotate_left
                ·simp only [Act.put, sB, sC, sD, i64_w, i32_w]
                 rfl
                refine pure_ (i := 10) (N := some 18) (v := ?_) (a' := ?_) #[true, true, true, true, true, true, true, true, true, true, true] rfl rfl (any_of HT_.out (by kernel_rfl)) (fun _ _ _ h => h) (Or.inl ⟨by rfl, ?_⟩) ?_ ?_
                rotate_left
                ·intro w'
                 go_simp
                 with_reducible rfl
                rotate_left
                ·simp only [Act.put, sB, sC, sD, i64_w, i32_w]
                 rfl
                refine done_ (done_of HT_.out (by kernel_rfl)) ?_
                have hnb84 := NB139_122.out
                have hnc84 := NB122_139.out
                have hnb85 := NB139_123.out
                have hnc85 := NB123_139.out
                have hcz86_0 : _ = some (Value.int .i64 a0_0) := (blk_cell BK139.out 0).trans rfl
                have hcz86_1 : w83.cell? ⟨gb139, 1, none⟩ = some (u140001) := (blk_cell BK139.out 1).trans rfl
                have hcz86_2 : w83.cell? ⟨gb139, 2, none⟩ = some (u140002) := (blk_cell BK139.out 2).trans rfl
                have hfz86_0 := blk_frozen BK139.out 0
                have hfz86_1 := blk_frozen BK139.out 1
                have hfz86_2 := blk_frozen BK139.out 2
                obtain ⟨Ao87, co87, eo87⟩ := Kd.R_slice HO_140002.out
                subst eo87
                have p150 : 0 ≤ ((ji79) : Int) := of_decide_eq_true (by first | (with_reducible assumption) | assumption)
                have q150 : (ji79) < (x140002_2.length : Int) := of_decide_eq_true (by first | (with_reducible assumption) | assumption)
                obtain ⟨ad150, e150, hx150_0⟩ := Kd.at_int (Kd.R_reads' HO_140002.out).2.2 (ji79) p150 q150
                cases e150
                replace p150 := eq_true p150
                replace q150 := eq_true q150
                have p82 : 0 ≤ ((ji79) : Int) := of_decide_eq_true (by first | (with_reducible assumption) | assumption)
                have q82 : ((ji79) : Int) < ((x140002_2.length : Int) : Int) := of_decide_eq_true (by first | (with_reducible assumption) | assumption)
                obtain ⟨go82, co82, eo82, gb82, gl82, cl82, HG82⟩ := Kd.R_form HO_140002.out (by omega)
                (first | cases eo82 | (injection eo82 with ea_ en_ ec_; (first | subst ea_ | (injection ea_ with ea_; subst ea_)); subst ec_; clear en_))
                have GB82 := Aside0.mk gb82
                have GG82 := Aside0.mk HG82
                clear gb82 gl82 HG82
                (first | simp only [add_plain] at hx150_0 | skip)
                obtain ⟨hx82_0, hf82_0⟩ := Kd.R_celln 0 HO_140002.out ((ji79) : Int) p82 q82
                replace p82 := eq_true p82
                replace q82 := eq_true q82
                obtain ⟨hy88_, hz88_⟩ := Kd.R_celln 0 HO_140002.out ((ji79) : Int) (of_decide_eq_true (by first | (with_reducible assumption) | assumption)) (of_decide_eq_true (by first | (with_reducible assumption) | assumption))
                have HP88 := Kd.R_putg HO_140002.out ((ji79) : Int) (wrap64 ((rd x140002_2 (ji79)) + 1))
                try go_wp2_with (first | ((with_reducible refine gate_store (t := 3) (p := 99) rfl ?_); refine store_event (t := 3) (p := 99) (v := ?vo_w89) (w1 := (w83.setCell ⟨go82, ((ji79) : Int).toNat, none⟩ (.int .i64 (wrap64 ((rd x140002_2 (ji79)) + 1))))) ?hg ?ho ?hn ?hr ?_; (case ho => rfl); (case hg => rfl); (case hn => rfl); (case hr => first | (go_simp; done) | (go_simp; rfl)); intro w89 hw; have hg : w83.grownBy w89 (some go82) := (by rw [hw]; exact HP88.2); have hp_ : Kd.R (Kd.int .i64) 3 w89 w.heap.size (fun k_ => some k_ ≠ (u140001 : Value).ownBlock) (.slice (some ⟨go82, 0, none⟩) x140002_2.length co87) y151 := (by rw [hw, Ny151.out]; exact HP88.1); clear HP88; replace HO_15 := a_ (Kd.S_after (v := (.slice (some ⟨go82, 0, none⟩) x140002_2.length co87)) (v1 := (.slice (some ⟨go82, 0, none⟩) x140002_2.length co87)) (ok := (fun k_ => some k_ ≠ (u140001 : Value).ownBlock)) (by (with_reducible repeat (first | apply Kd.S_alloc | apply Kd.S_drewN | apply Kd.S_drew)); exact HO_15.out) hg (.inl rfl)); replace HO_61 := a_ (Kd.S_after (v := (.slice (some ⟨go82, 0, none⟩) x140002_2.length co87)) (v1 := (.slice (some ⟨go82, 0, none⟩) x140002_2.length co87)) (ok := (fun k_ => some k_ ≠ (u140001 : Value).ownBlock)) (by (with_reducible repeat (first | apply Kd.S_alloc | apply Kd.S_drewN | apply Kd.S_drew)); exact HO_61.out) hg (.inl rfl)); replace HO_140001 := a_ (Kd.R_after (v := (.slice (some ⟨go82, 0, none⟩) x140002_2.length co87)) (v1 := (.slice (some ⟨go82, 0, none⟩) x140002_2.length co87)) (ok := (fun _ => True)) (rk (Kd.R_mono HO_140001.out (fun _ hk => ⟨trivial, hk⟩))) hg (.inl rfl)); replace BK122 := a_ (blk_grown (pk BK122.out) hg (Kd.R_ne HO_140002.out BK122.out (by decide))); replace BK123 := a_ (blk_grown (pk BK123.out) hg (Kd.R_ne HO_140002.out BK123.out (by decide))); replace BK139 := a_ (blk_grown (pk BK139.out) hg (Kd.R_ne HO_140002.out BK139.out (by decide))); replace HO_140002 := a_ (hp_); replace HL143_0 := a_ (Kd.R_after (v := (.slice (some ⟨go82, 0, none⟩) x140002_2.length co87)) (v1 := (.slice (some ⟨go82, 0, none⟩) x140002_2.length co87)) (ok := (fun k_ => some k_ ≠ (.slice (some ad143) t140.length co49 : Value).ownBlock ∧ some k_ ≠ (u140001 : Value).ownBlock)) (rk (Kd.R_mono HL143_0.out (fun _ hk => ⟨⟨hk.2, hk.1.1⟩, hk.1.2⟩))) hg (.inl rfl)); replace HB := a_ (by rw [hw]; exact below_set (HB.out) GB82.out : Below w.heap.size w w89); clear hg hw hp_))
                go_roundg k2
                case measure => have := HJ6.out; have := HK2.out; omega
                case rel => exact ⟨(wrap64 (x63_2 + 1)), (x140001_2), (y151), (u140001), (.slice (some ⟨go82, 0, none⟩) x140002_2.length co87), (by first | rfl | (simp; done) | (simp [*]; done)), H', ⟨by have := HJ6.out; have := HK2.out; omega⟩, ⟨by (with_reducible repeat (first | apply Kd.S_alloc | apply Kd.S_drewN | apply Kd.S_drew)); exact HO_15.out⟩, ⟨by (with_reducible repeat (first | apply Kd.S_alloc | apply Kd.S_drewN | apply Kd.S_drew)); exact HO_61.out⟩, ⟨rk (Kd.R_mono HO_140001.out (fun _ hk => hk.2))⟩, ⟨rk (HO_140002.out)⟩, ⟨pk BK122.out⟩, ⟨pk BK123.out⟩, ⟨pk BK139.out⟩, ⟨by repeat (with_reducible first | exact HB.out | refine bz ?_ (by assumption) | apply bA | apply bN | apply bD)⟩⟩
               ·rw [if_neg c81] at H
                exact absurd H (by simp)
              ·rw [if_neg c80] at H
               exact absurd H (by simp)
            ·rw [if_neg c54] at H
             exact absurd H (by simp)
           ·rw [if_neg c53] at H
            exact absurd H (by simp)
          ·rw [if_neg c52] at H
           exact absurd H (by simp)
         ·rw [if_neg c51] at H
          exact absurd H (by simp)
        ·rw [if_neg c50] at H
         have c50b0 : decide (x63_2 < (t140.length : Int)) = false := decide_eq_false c50
         clear c50
         replace H := Option.bind_eq_some_iff.mp H
         obtain ⟨t152, A900, H⟩ := H
         replace H : (if t152 = true then (some (a0_0, x140001_2, x140002_2, true)) else (some (0, ([] : List Int), ([] : List Int), false))) = some (r1, r2, r3, r4) := H
         have A90 := Aside0.mk A900
         clear A900
         by_cases c91 : t152 = true
         ·subst c91
          have H1 : (some (a0_0, x140001_2, x140002_2, true)) = some (r1, r2, r3, r4) := by rw [if_pos rfl] at H; exact H
          clear H
          have H := H1
          clear H1
          simp only [Option.some.injEq, Prod.mk.injEq] at H
          obtain ⟨rfl, rfl, rfl, rfl⟩ := H
          have hnb92 := NB139_122.out
          have hnc92 := NB122_139.out
          have hnb93 := NB139_123.out
          have hnc93 := NB123_139.out
          have hcz94_0 : wr.cell? ⟨gb139, 0, none⟩ = some (.int .i64 a0_0) := (blk_cell BK139.out 0).trans rfl
          have hcz94_1 : wr.cell? ⟨gb139, 1, none⟩ = some (u140001) := (blk_cell BK139.out 1).trans rfl
          have hcz94_2 : wr.cell? ⟨gb139, 2, none⟩ = some (u140002) := (blk_cell BK139.out 2).trans rfl
          have hfz94_0 := blk_frozen BK139.out 0
          have hfz94_1 := blk_frozen BK139.out 1
          have hfz94_2 := blk_frozen BK139.out 2
          obtain ⟨Ao95, co95, eo95⟩ := Kd.R_slice HO_140001.out
          subst eo95
          obtain ⟨Ao96, co96, eo96⟩ := Kd.R_slice HO_140002.out
          subst eo96
          go_wp2_with (first | ((with_reducible refine gate_callee (f := 29) rfl ?_); refine goesL_ (some 102) rfl rfl Try.func29 (by kernel_rfl) rfl #[.agg #[.int .i64 a0_0, .slice Ao95 x140001_2.length co95, .slice Ao96 x140002_2.length co96]] rfl (by (try simp only [lA, lB, lC]); first | done | rfl | (simp only [lD, lE]; rfl)) ?_; (with_reducible refine (spec_GoodCounts.calls k2 a0_0 _ _ x140001_2 _ _ x140002_2 true _ ?side1 ?side2 ?side3 ?side4 A90.out).mono ?_); (case side1 => exact cu (Kd.R_reads' HO_140001.out).2.2); (case side2 => exact (Kd.R_reads' HO_140001.out).2.1); (case side3 => exact cu (Kd.R_reads' HO_140002.out).2.2); (case side4 => exact (Kd.R_reads' HO_140002.out).2.1); rintro e w97 ⟨rfl, hb⟩; refine ⟨_, rfl, ?_⟩; replace HO_15 := a_ (Kd.S_below (by (with_reducible repeat (first | apply Kd.S_alloc | apply Kd.S_drewN | apply Kd.S_drew)); exact HO_15.out) hb); replace HO_61 := a_ (Kd.S_below (by (with_reducible repeat (first | apply Kd.S_alloc | apply Kd.S_drewN | apply Kd.S_drew)); exact HO_61.out) hb); replace HO_140001 := a_ (Kd.R_below (rk HO_140001.out) hb); replace HO_140002 := a_ (Kd.R_below (rk HO_140002.out) hb); replace BK122 := a_ (blk_below (pk BK122.out) hb); replace BK123 := a_ (blk_below (pk BK123.out) hb); replace BK139 := a_ (blk_below (pk BK139.out) hb); replace HB := a_ (below_step (by repeat (with_reducible first | exact HB.out | refine bz ?_ (by assumption) | apply bA | apply bN | apply bD)) hb); clear hb; have hcz98_0 : _ = some (Value.int .i64 a0_0) := (blk_cell BK139.out 0).trans rfl; have hcz98_1 : _ = some (Value.slice Ao95 x140001_2.length co95) := (blk_cell BK139.out 1).trans rfl; have hcz98_2 : _ = some (Value.slice Ao96 x140002_2.length co96) := (blk_cell BK139.out 2).trans rfl; have hfz98_0 := blk_frozen BK139.out 0; have hfz98_1 := blk_frozen BK139.out 1; have hfz98_2 := blk_frozen BK139.out 2; have hnb99 := NB123_122.out; have hnc99 := NB122_123.out; have hcz100_0 : _ = some (Value.int .i64 0) := (blk_cell BK123.out 0).trans rfl; have hcz100_1 : _ = some (Value.slice none 0 0) := (blk_cell BK123.out 1).trans rfl; have hcz100_2 : _ = some (Value.slice none 0 0) := (blk_cell BK123.out 2).trans rfl; have hfz100_0 := blk_frozen BK123.out 0; have hfz100_1 := blk_frozen BK123.out 1; have hfz100_2 := blk_frozen BK123.out 2))
          refine bodyPost_ret (results_ct rfl _ _ gb123 31 #[.int .i64 a0_0, .slice Ao95 x140001_2.length co95, .slice Ao96 x140002_2.length co96] (0, 0) _ rfl (by refine pk ?_; refine blk_put (cs := #[.int .i64 a0_0, .slice Ao95 x140001_2.length co95, .slice none 0 0]) ?_ 2 _ rfl; refine pk ?_; refine blk_put (cs := #[.int .i64 a0_0, .slice none 0 0, .slice none 0 0]) ?_ 1 _ rfl; refine pk ?_; refine blk_put (cs := #[.int .i64 0, .slice none 0 0, .slice none 0 0]) ?_ 0 _ rfl; refine pk ?_; exact BK123.out) Try.underlying31 rfl (by kernel_rfl)) rfl ?_
          exact ⟨_, _, by first | rfl | (simp [errW_none, errW_some] <;> rfl) | (simp [*, errW_none, errW_some] <;> rfl), by refine rk ?_; exact Kd.R_mono (fr3 HO_140001.out BK123.out (by decide) 0 (.int .i64 a0_0) 1 (.slice Ao95 x140001_2.length co95) 2 (.slice Ao96 x140002_2.length co96)) (fun _ hk => hk.1), by refine rk ?_; exact Kd.R_mono (fr3 HO_140002.out BK123.out (by decide) 0 (.int .i64 a0_0) 1 (.slice Ao95 x140001_2.length co95) 2 (.slice Ao96 x140002_2.length co96)) (fun _ hk => hk.1), by repeat (with_reducible first | exact HB.out | refine bz ?_ (by assumption) | apply bA | apply bN | apply bD)⟩
         ·replace c91 := Bool.eq_false_iff.mpr c91
          subst c91
          have H1 : (some (0, ([] : List Int), ([] : List Int), false)) = some (r1, r2, r3, r4) := by rw [if_neg (show ¬ (false = true) by decide)] at H; exact H
          clear H
          have H := H1
          clear H1
          simp only [Option.some.injEq, Prod.mk.injEq] at H
          obtain ⟨rfl, rfl, rfl, rfl⟩ := H
          have hnb101 := NB139_122.out
          have hnc101 := NB122_139.out
          have hnb102 := NB139_123.out
          have hnc102 := NB123_139.out
          have hcz103_0 : wr.cell? ⟨gb139, 0, none⟩ = some (.int .i64 a0_0) := (blk_cell BK139.out 0).trans rfl
          have hcz103_1 : wr.cell? ⟨gb139, 1, none⟩ = some (u140001) := (blk_cell BK139.out 1).trans rfl
          have hcz103_2 : wr.cell? ⟨gb139, 2, none⟩ = some (u140002) := (blk_cell BK139.out 2).trans rfl
          have hfz103_0 := blk_frozen BK139.out 0
          have hfz103_1 := blk_frozen BK139.out 1
          have hfz103_2 := blk_frozen BK139.out 2
          obtain ⟨Ao104, co104, eo104⟩ := Kd.R_slice HO_140001.out
          subst eo104
          obtain ⟨Ao105, co105, eo105⟩ := Kd.R_slice HO_140002.out
          subst eo105
          go_wp2_with (first | ((with_reducible refine gate_callee (f := 29) rfl ?_); refine goesL_ (some 102) rfl rfl Try.func29 (by kernel_rfl) rfl #[.agg #[.int .i64 a0_0, .slice Ao104 x140001_2.length co104, .slice Ao105 x140002_2.length co105]] rfl (by (try simp only [lA, lB, lC]); first | done | rfl | (simp only [lD, lE]; rfl)) ?_; (with_reducible refine (spec_GoodCounts.calls k2 a0_0 _ _ x140001_2 _ _ x140002_2 false _ ?side1 ?side2 ?side3 ?side4 A90.out).mono ?_); (case side1 => exact cu (Kd.R_reads' HO_140001.out).2.2); (case side2 => exact (Kd.R_reads' HO_140001.out).2.1); (case side3 => exact cu (Kd.R_reads' HO_140002.out).2.2); (case side4 => exact (Kd.R_reads' HO_140002.out).2.1); rintro e w106 ⟨rfl, hb⟩; refine ⟨_, rfl, ?_⟩; replace HO_15 := a_ (Kd.S_below (by (with_reducible repeat (first | apply Kd.S_alloc | apply Kd.S_drewN | apply Kd.S_drew)); exact HO_15.out) hb); replace HO_61 := a_ (Kd.S_below (by (with_reducible repeat (first | apply Kd.S_alloc | apply Kd.S_drewN | apply Kd.S_drew)); exact HO_61.out) hb); replace HO_140001 := a_ (Kd.R_below (rk HO_140001.out) hb); replace HO_140002 := a_ (Kd.R_below (rk HO_140002.out) hb); replace BK122 := a_ (blk_below (pk BK122.out) hb); replace BK123 := a_ (blk_below (pk BK123.out) hb); replace BK139 := a_ (blk_below (pk BK139.out) hb); replace HB := a_ (below_step (by repeat (with_reducible first | exact HB.out | refine bz ?_ (by assumption) | apply bA | apply bN | apply bD)) hb); clear hb; have hnb107 := NB123_122.out; have hnc107 := NB122_123.out; have hcz108_0 : _ = some (Value.int .i64 0) := (blk_cell BK123.out 0).trans rfl; have hcz108_1 : _ = some (Value.slice none 0 0) := (blk_cell BK123.out 1).trans rfl; have hcz108_2 : _ = some (Value.slice none 0 0) := (blk_cell BK123.out 2).trans rfl; have hfz108_0 := blk_frozen BK123.out 0; have hfz108_1 := blk_frozen BK123.out 1; have hfz108_2 := blk_frozen BK123.out 2))
          refine bodyPost_ret (results_ct rfl _ _ gb123 31 #[.int .i64 0, .slice none 0 0, .slice none 0 0] (0, 0) _ rfl (by refine pk ?_; refine blk_put (cs := #[.int .i64 0, .slice none 0 0, .slice none 0 0]) ?_ 2 _ rfl; refine pk ?_; refine blk_put (cs := #[.int .i64 0, .slice none 0 0, .slice none 0 0]) ?_ 1 _ rfl; refine pk ?_; refine blk_put (cs := #[.int .i64 0, .slice none 0 0, .slice none 0 0]) ?_ 0 _ rfl; refine pk ?_; exact BK123.out) Try.underlying31 rfl (by kernel_rfl)) rfl ?_
          exact ⟨_, _, by first | rfl | (simp [errW_none, errW_some] <;> rfl) | (simp [*, errW_none, errW_some] <;> rfl), by first | exact Kd.R_nil _ _ _ _ _ | exact Kd.N_nil _ _ _ _ _ | exact Kd.V_nil _ _ _ _ _ | exact Kd.Q_nil _ _ _ _ _ | exact Kd.S_nil _ _ _ _ _, by first | exact Kd.R_nil _ _ _ _ _ | exact Kd.N_nil _ _ _ _ _ | exact Kd.V_nil _ _ _ _ _ | exact Kd.Q_nil _ _ _ _ _ | exact Kd.S_nil _ _ _ _ _, by repeat (with_reducible first | exact HB.out | refine bz ?_ (by assumption) | apply bA | apply bN | apply bD)⟩
     ·rw [if_neg c30] at H
      exact absurd H (by simp)
    ·rw [if_neg c29] at H
     exact absurd H (by simp)

end Go.Proofs.Ytgkjnocjdonjdaa.PFnExactAddRay
