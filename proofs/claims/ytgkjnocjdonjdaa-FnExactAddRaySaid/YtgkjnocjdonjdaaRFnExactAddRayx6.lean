-- Written by a program of this session out of the loaded functions' print; helper lemmas as print.sh lays them.
import Derived.Test.YtgkjnocjdonjdaaUp2
import Derived.Test.YtgkjnocjdonjdaaUp
import Derived.Test.YtgkjnocjdonjdaaRFnExactAddRayx0
import Derived.Test.YtgkjnocjdonjdaaRFnExactAddRayx4
import Derived.Test.YtgkjnocjdonjdaaRFnExactAddRayx5
namespace Go.Proofs.Ytgkjnocjdonjdaa.PFnExactAddRay
open Go.RowKit Go.Proofs.YtgkjnocjdonjdaaW.PrintWords Go.Proofs.YtgkjnocjdonjdaaW.PrintLast Go.Proofs.YtgkjnocjdonjdaaW.PrintMore
attribute [local go_sem] max2_int min2_int max_two min_two max_three min_three max_four min_four  -- for this text's walks alone
theorem ev_tmp_6 {a : Act} {i : Nat} {v : Value} (h : a.tmps[i]? = some v) : a.eval (.tmp i) = v := by show a.tmps.getD i undef = v; rw [Array.getD_eq_getD_getElem?, h]; rfl
set_option linter.unusedVariables false
set_option linter.unusedSimpArgs false

/-! ### impl_AddRay: function 14 -/
mutual
def impl_AddRay.j0 : Nat → Int → Int → Int → Int → Bool → Bool → Int → List Int → List Int → Option (Int × List Int × List Int × Bool)
 | 0, _, _, _, _, _, _, _, _, _ => none
 | k + 1, x1, x2, x3, x4, x5, x43, x190000, x190001, x190002 => if x43 = true then (some (0, ([] : List Int), ([] : List Int), false)) else (if ([] : List Int).length + x190001.length < 17592186044416 then (if ([] : List Int).length + x190002.length < 17592186044416 then ((impl_LineCells.f k x1 x2 x3 x4).bind fun t201 => (impl_AddRay.l0 k x5 t201 t201 (t201.length : Int) 0 x190000 x190001 x190002 x190000 (([] : List Int) ++ x190001) (([] : List Int) ++ x190002))) else (none)) else (none))
def impl_AddRay.l0 : Nat → Bool → List (List Int) → List (List Int) → Int → Int → Int → List Int → List Int → Int → List Int → List Int → Option (Int × List Int × List Int × Bool)
 | 0, _, _, _, _, _, _, _, _, _, _, _ => none
 | k + 1, x5, x17, x59, x60, x61, x190000, x190001, x190002, x201000, x201001, x201002 => if x61 < x60 then (if 0 ≤ x61 then (if x61 < (x59.length : Int) then (if x61 = (wrap64 ((x17.length : Int) - 1)) then (if x5 = true then (if 1 < ((rd_L1 x59 x61).length : Int) then (if 0 < ((rd_L1 x59 x61).length : Int) then (if 0 ≤ (wrap64 ((wrap64 ((rd (rd_L1 x59 x61) 1) * x190000)) + (rd (rd_L1 x59 x61) 0))) then (if (wrap64 ((wrap64 ((rd (rd_L1 x59 x61) 1) * x190000)) + (rd (rd_L1 x59 x61) 0))) < (x201001.length : Int) then (impl_AddRay.l0 k x5 x17 x59 x60 (wrap64 (x61 + 1)) x190000 x190001 x190002 x201000 (x201001.set ((wrap64 ((wrap64 ((rd (rd_L1 x59 x61) 1) * x190000)) + (rd (rd_L1 x59 x61) 0))) : Int).toNat (wrap64 ((rd x201001 (wrap64 ((wrap64 ((rd (rd_L1 x59 x61) 1) * x190000)) + (rd (rd_L1 x59 x61) 0)))) + 1))) x201002) else (none)) else (none)) else (none)) else (none)) else (if 1 < ((rd_L1 x59 x61).length : Int) then (if 0 < ((rd_L1 x59 x61).length : Int) then (if 0 ≤ (wrap64 ((wrap64 ((rd (rd_L1 x59 x61) 1) * x190000)) + (rd (rd_L1 x59 x61) 0))) then (if (wrap64 ((wrap64 ((rd (rd_L1 x59 x61) 1) * x190000)) + (rd (rd_L1 x59 x61) 0))) < (x201002.length : Int) then (impl_AddRay.l0 k x5 x17 x59 x60 (wrap64 (x61 + 1)) x190000 x190001 x190002 x201000 x201001 (x201002.set ((wrap64 ((wrap64 ((rd (rd_L1 x59 x61) 1) * x190000)) + (rd (rd_L1 x59 x61) 0))) : Int).toNat (wrap64 ((rd x201002 (wrap64 ((wrap64 ((rd (rd_L1 x59 x61) 1) * x190000)) + (rd (rd_L1 x59 x61) 0)))) + 1)))) else (none)) else (none)) else (none)) else (none))) else (if 1 < ((rd_L1 x59 x61).length : Int) then (if 0 < ((rd_L1 x59 x61).length : Int) then (if 0 ≤ (wrap64 ((wrap64 ((rd (rd_L1 x59 x61) 1) * x190000)) + (rd (rd_L1 x59 x61) 0))) then (if (wrap64 ((wrap64 ((rd (rd_L1 x59 x61) 1) * x190000)) + (rd (rd_L1 x59 x61) 0))) < (x201002.length : Int) then (impl_AddRay.l0 k x5 x17 x59 x60 (wrap64 (x61 + 1)) x190000 x190001 x190002 x201000 x201001 (x201002.set ((wrap64 ((wrap64 ((rd (rd_L1 x59 x61) 1) * x190000)) + (rd (rd_L1 x59 x61) 0))) : Int).toNat (wrap64 ((rd x201002 (wrap64 ((wrap64 ((rd (rd_L1 x59 x61) 1) * x190000)) + (rd (rd_L1 x59 x61) 0)))) + 1)))) else (none)) else (none)) else (none)) else (none))) else (none)) else (none)) else ((impl_GoodCounts.f k x201000 x201001 x201002).bind fun t217 => (if t217 = true then (some (x201000, x201001, x201002, true)) else (some (0, ([] : List Int), ([] : List Int), false))))
end
def impl_AddRay.f (k : Nat) (a0_0 : Int) (l0_1 : List Int) (l0_2 : List Int) (a1 : Int) (a2 : Int) (a3 : Int) (a4 : Int) (a5 : Bool) : Option (Int × List Int × List Int × Bool) := (impl_GoodCounts.f k a0_0 l0_1 l0_2).bind fun t191 => (if t191 = true then (if a0_0 = 0 then (none) else ((impl_AddRay_1.f a1 a2 a0_0 (wrap64 ((l0_1.length : Int) / a0_0))).bind fun t192 => (if t192 = true then ((impl_AddRay_1.f a3 a4 a0_0 (wrap64 ((l0_1.length : Int) / a0_0))).bind fun t193 => (impl_AddRay.j0 k a1 a2 a3 a4 a5 (!t193) a0_0 l0_1 l0_2)) else (impl_AddRay.j0 k a1 a2 a3 a4 a5 true a0_0 l0_1 l0_2)))) else (some (0, ([] : List Int), ([] : List Int), false)))
theorem impl_AddRay.mono_l : ∀ k, (∀ y0 y1 y2 y3 y4 y5 y6 y7 y8, LeO (impl_AddRay.j0 k y0 y1 y2 y3 y4 y5 y6 y7 y8) (impl_AddRay.j0 (k + 1) y0 y1 y2 y3 y4 y5 y6 y7 y8)) ∧ (∀ y0 y1 y2 y3 y4 y5 y6 y7 y8 y9 y10, LeO (impl_AddRay.l0 k y0 y1 y2 y3 y4 y5 y6 y7 y8 y9 y10) (impl_AddRay.l0 (k + 1) y0 y1 y2 y3 y4 y5 y6 y7 y8 y9 y10))
 | 0 => ⟨fun _ _ _ _ _ _ _ _ _ r h => by simp [impl_AddRay.j0] at h, fun _ _ _ _ _ _ _ _ _ _ _ r h => by simp [impl_AddRay.l0] at h⟩
 | k + 1 => by
  obtain ⟨ih0, ih1⟩ := impl_AddRay.mono_l k
  refine ⟨?_, ?_⟩
  ·intro y0 y1 y2 y3 y4 y5 y6 y7 y8
   unfold impl_AddRay.j0
   repeat' first
   | (with_reducible exact ih0 _ _ _ _ _ _ _ _ _)
   | (with_reducible exact ih1 _ _ _ _ _ _ _ _ _ _ _)
   | (with_reducible exact impl_GoodCounts.mono _ _ _ _)
   | (with_reducible exact impl_LineCells.mono _ _ _ _ _)
   | (with_reducible exact LeO.refl _)
   | (with_reducible exact LeO.none _)
   | (with_reducible refine LeO.ite ?_ ?_)
   | (with_reducible refine LeO.bind ?_ (fun _ => ?_))
   | exact ih0 _ _ _ _ _ _ _ _ _
   | exact ih1 _ _ _ _ _ _ _ _ _ _ _
   | exact impl_GoodCounts.mono _ _ _ _
   | exact impl_LineCells.mono _ _ _ _ _
   | exact LeO.none _
   | refine LeO.ite ?_ ?_
   | refine LeO.bind ?_ (fun _ => ?_)
  ·intro y0 y1 y2 y3 y4 y5 y6 y7 y8 y9 y10
   unfold impl_AddRay.l0
   repeat' first
   | (with_reducible exact ih0 _ _ _ _ _ _ _ _ _)
   | (with_reducible exact ih1 _ _ _ _ _ _ _ _ _ _ _)
   | (with_reducible exact impl_GoodCounts.mono _ _ _ _)
   | (with_reducible exact impl_LineCells.mono _ _ _ _ _)
   | (with_reducible exact LeO.refl _)
   | (with_reducible exact LeO.none _)
   | (with_reducible refine LeO.ite ?_ ?_)
   | (with_reducible refine LeO.bind ?_ (fun _ => ?_))
   | exact ih0 _ _ _ _ _ _ _ _ _
   | exact ih1 _ _ _ _ _ _ _ _ _ _ _
   | exact impl_GoodCounts.mono _ _ _ _
   | exact impl_LineCells.mono _ _ _ _ _
   | exact LeO.none _
   | refine LeO.ite ?_ ?_
   | refine LeO.bind ?_ (fun _ => ?_)
theorem impl_AddRay.mono : ∀ a0 a1 a2 a3 a4 a5 a6 a7 k, LeO (impl_AddRay.f k a0 a1 a2 a3 a4 a5 a6 a7) (impl_AddRay.f (k + 1) a0 a1 a2 a3 a4 a5 a6 a7) := by
 intro a0 a1 a2 a3 a4 a5 a6 a7 k
 obtain ⟨ih0, ih1⟩ := impl_AddRay.mono_l k
 unfold impl_AddRay.f
 repeat' first
   | (with_reducible exact ih0 _ _ _ _ _ _ _ _ _)
   | (with_reducible exact ih1 _ _ _ _ _ _ _ _ _ _ _)
   | (with_reducible exact impl_GoodCounts.mono _ _ _ _)
   | (with_reducible exact impl_LineCells.mono _ _ _ _ _)
   | (with_reducible exact LeO.refl _)
   | (with_reducible exact LeO.none _)
   | (with_reducible refine LeO.ite ?_ ?_)
   | (with_reducible refine LeO.bind ?_ (fun _ => ?_))
   | exact ih0 _ _ _ _ _ _ _ _ _
   | exact ih1 _ _ _ _ _ _ _ _ _ _ _
   | exact impl_GoodCounts.mono _ _ _ _
   | exact impl_LineCells.mono _ _ _ _ _
   | exact LeO.none _
   | refine LeO.ite ?_ ?_
   | refine LeO.bind ?_ (fun _ => ?_)
def impl_AddRay.T7 : Bool × List (List Nat × List Nat) := (true, [([], []), ([0], [0]), ([], []), ([2], [2]), ([3], [3]), ([], []), ([5], [5]), ([6, 4], [6]), ([1, 4, 7], [1, 4, 7]), ([], []), ([9, 8, 7, 0, 1, 2, 3, 4, 5, 6, 7, 8, 9], [8, 9])])
def impl_AddRay.B7 : List Nat := [0, 1, 0, 4, 12, 0, 32, 124, 255, 0, 1023]
theorem impl_AddRay.tab7 : rtab .any (opsOf Try.f14 7) = impl_AddRay.T7 := by kernel_rfl
theorem impl_AddRay.bits7 : waitsOk impl_AddRay.T7.2 impl_AddRay.B7 = true := by kernel_rfl
def impl_AddRay.T15 : Bool × List (List Nat × List Nat) := (true, [([], []), ([], []), ([1], [1]), ([2], [2]), ([], []), ([4], [4]), ([3, 5], [3, 5]), ([], []), ([7], [7]), ([8], [8]), ([6, 9], [6, 9]), ([0, 10], [0, 10]), ([11], [11]), ([12], [12]), ([0, 10, 0, 1, 2, 3, 4, 5, 6, 7, 8, 9, 10, 11, 12, 13], [0, 10]), ([14, 13, 0, 1, 2, 3, 4, 5, 6, 7, 8, 9, 10, 11, 12, 13], [13, 14])])
def impl_AddRay.B15 : List Nat := [0, 0, 2, 6, 0, 16, 62, 0, 128, 384, 1022, 2047, 4095, 8191, 16383, 32767]
theorem impl_AddRay.tab15 : rtab .any (opsOf Try.f14 15) = impl_AddRay.T15 := by kernel_rfl
theorem impl_AddRay.bits15 : waitsOk impl_AddRay.T15.2 impl_AddRay.B15 = true := by kernel_rfl
set_option maxHeartbeats 8000000 in
set_option maxRecDepth 100000 in
theorem impl_AddRay.calls (k : Nat) (a0_0 : Int) (A0_1 : Option Addr) (c0_1 : Nat) (l0_1 : List Int) (A0_2 : Option Addr) (c0_2 : Nat) (l0_2 : List Int) (a1 : Int) (a2 : Int) (a3 : Int) (a4 : Int) (a5 : Bool) (r1 : Int) (r2 : List Int) (r3 : List Int) (r4 : Bool) (w : World) (hr0_1 : Kd.C (Kd.int .i64) w A0_1 l0_1.length l0_1) (hc0_1 : l0_1.length ≤ c0_1) (hr0_2 : Kd.C (Kd.int .i64) w A0_2 l0_2.length l0_2) (hc0_2 : l0_2.length ≤ c0_2) (h : impl_AddRay.f k a0_0 l0_1 l0_2 a1 a2 a3 a4 a5 = some (r1, r2, r3, r4)) :
  Calls Try.prog 14 #[.agg #[.int .i64 a0_0, .slice A0_1 l0_1.length c0_1, .slice A0_2 l0_2.length c0_2], .int .i64 a1, .int .i64 a2, .int .i64 a3, .int .i64 a4, .bool a5] w fun e w' => ∃ v1_ v2_ : Value, e = .returned (.tuple #[.agg #[.int .i64 r1, v1_, v2_], .bool r4]) ∧ Kd.R (Kd.int .i64) 3 w' w.heap.size (fun k_ => N_ v2_ k_) v1_ r2 ∧ Kd.R (Kd.int .i64) 3 w' w.heap.size (fun k_ => N_ v1_ k_) v2_ r3 ∧ Below w.heap.size w w' := by
 have hu31 := Try.underlying31
 have HR0_1 := Aside0.mk hr0_1
 have HC0_1 := Aside0.mk hc0_1
 clear hr0_1 hc0_1
 have HR0_2 := Aside0.mk hr0_2
 have HC0_2 := Aside0.mk hc0_2
 clear hr0_2 hc0_2
 have HB := a_ (Below.refl w.heap.size w)
 have H : ((impl_GoodCounts.f k a0_0 l0_1 l0_2).bind fun t191 => (if t191 = true then (if a0_0 = 0 then (none) else ((impl_AddRay_1.f a1 a2 a0_0 (wrap64 ((l0_1.length : Int) / a0_0))).bind fun t192 => (if t192 = true then ((impl_AddRay_1.f a3 a4 a0_0 (wrap64 ((l0_1.length : Int) / a0_0))).bind fun t193 => (impl_AddRay.j0 k a1 a2 a3 a4 a5 (!t193) a0_0 l0_1 l0_2)) else (impl_AddRay.j0 k a1 a2 a3 a4 a5 true a0_0 l0_1 l0_2)))) else (some (0, ([] : List Int), ([] : List Int), false)))) = some (r1, r2, r3, r4) := h
 clear h
 replace H := Option.bind_eq_some_iff.mp H
 obtain ⟨t191, A70, H⟩ := H
 replace H : (if t191 = true then (if a0_0 = 0 then (none) else ((impl_AddRay_1.f a1 a2 a0_0 (wrap64 ((l0_1.length : Int) / a0_0))).bind fun t192 => (if t192 = true then ((impl_AddRay_1.f a3 a4 a0_0 (wrap64 ((l0_1.length : Int) / a0_0))).bind fun t193 => (impl_AddRay.j0 k a1 a2 a3 a4 a5 (!t193) a0_0 l0_1 l0_2)) else (impl_AddRay.j0 k a1 a2 a3 a4 a5 true a0_0 l0_1 l0_2)))) else (some (0, ([] : List Int), ([] : List Int), false))) = some (r1, r2, r3, r4) := H
 have A7 := Aside0.mk A70
 clear A70
 by_cases c8 : t191 = true
 ·subst c8
  have H1 : (if a0_0 = 0 then (none) else ((impl_AddRay_1.f a1 a2 a0_0 (wrap64 ((l0_1.length : Int) / a0_0))).bind fun t192 => (if t192 = true then ((impl_AddRay_1.f a3 a4 a0_0 (wrap64 ((l0_1.length : Int) / a0_0))).bind fun t193 => (impl_AddRay.j0 k a1 a2 a3 a4 a5 (!t193) a0_0 l0_1 l0_2)) else (impl_AddRay.j0 k a1 a2 a3 a4 a5 true a0_0 l0_1 l0_2)))) = some (r1, r2, r3, r4) := by rw [if_pos rfl] at H; exact H
  clear H
  have H := H1
  clear H1
  by_cases c9 : a0_0 = 0
  ·rw [if_pos c9] at H
   exact absurd H (by simp)
  ·rw [if_neg c9] at H
   have c9b0 : (a0_0 == 0) = false := beq_eq_false_iff_ne.mpr c9
   have c9b1 : (a0_0 != 0) = true := bne_iff_ne.mpr c9
   have HC10 := Aside0.mk H
   clear H
   go_enter Try.func14, Try.ntmps14
   have hmf : ∀ (fn : Fn) (first cap : Array Value) (w : World), (Instr.makeFunc fn first cap).run Try.prog w = .ok (.func fn first cap) w := fun _ _ _ _ => rfl
   go_upto_region 5 with (first | ((with_reducible refine gate_dst (N := 6) rfl ?_); refine box_event ?hg (N := 6) ?hd (cs := #[.int .i64 a0_0, .slice A0_1 l0_1.length c0_1, .slice A0_2 l0_2.length c0_2]) (t := 31) ?hr ?_; (case hd => rfl); (case hg => rfl); (case hr => first | (go_simp; done) | (go_simp; rfl)); intro gb189 hg w11 hbox hb; have BK189 := a_ (hbox); have GW189 := a_ (bsg hg HB.out); have GE189 := a_ (bsg hg HB.out); replace HB := a_ (below_step (un HB.out) hb); clear hb hbox hg) | ((with_reducible refine gate_dst (N := 12) rfl ?_); refine box_event ?hg (N := 12) ?hd (cs := #[.int .i64 0, .slice none 0 0, .slice none 0 0]) (t := 31) ?hr ?_; (case hd => rfl); (case hg => rfl); (case hr => first | (go_simp; done) | (go_simp; rfl)); intro gb190 hg w12 hbox hb; have BK190 := a_ (hbox); have GW190 := a_ (bsg hg HB.out); have GE190 := a_ (bsg hg HB.out); replace HB := a_ (below_step (by repeat (with_reducible first | exact HB.out | refine bz ?_ (by assumption) | apply bA | apply bN | apply bD)) hb); have NB189_190 := a_ (nel hg BK189.out); have NB190_189 := a_ (nle hg BK189.out); replace BK189 := a_ (blk_below (pk BK189.out) hb); clear hb hbox hg; have hnb13 := NB189_190.out; have hnc13 := NB190_189.out; have hcz14_0 : _ = some (Value.int .i64 a0_0) := (blk_cell BK189.out 0).trans rfl; have hcz14_1 : _ = some (Value.slice A0_1 l0_1.length c0_1) := (blk_cell BK189.out 1).trans rfl; have hcz14_2 : _ = some (Value.slice A0_2 l0_2.length c0_2) := (blk_cell BK189.out 2).trans rfl; have hfz14_0 := blk_frozen BK189.out 0; have hfz14_1 := blk_frozen BK189.out 1; have hfz14_2 := blk_frozen BK189.out 2) | ((with_reducible refine gate_callee (f := 32) rfl ?_); refine goesL_ (some 22) rfl rfl Try.func32 (by kernel_rfl) rfl #[.agg #[.int .i64 a0_0, .slice A0_1 l0_1.length c0_1, .slice A0_2 l0_2.length c0_2]] rfl (by (try simp only [lA, lB, lC]); first | done | rfl | (simp only [lD, lE]; rfl)) ?_; (with_reducible refine (impl_GoodCounts.calls k a0_0 (fun k_ => k_ < w.heap.size) _ _ l0_1 (fun k_ => k_ < w.heap.size) _ _ l0_2 true _ ?side1 ?side2 A7.out).mono ?_); (case side1 => exact Kd.V_mk HC0_1.out (Kd.F_below (Kd.C_F (Kd.heap_int .i64) HR0_1.out) (by repeat (with_reducible first | exact HB.out | refine bz ?_ (by assumption) | apply bA | apply bN | apply bD)))); (case side2 => exact Kd.V_mk HC0_2.out (Kd.F_below (Kd.C_F (Kd.heap_int .i64) HR0_2.out) (by repeat (with_reducible first | exact HB.out | refine bz ?_ (by assumption) | apply bA | apply bN | apply bD)))); rintro e w15 ⟨rfl, hb⟩; refine ⟨_, rfl, ?_⟩; replace BK189 := a_ (blk_below (pk BK189.out) hb); replace BK190 := a_ (blk_below (pk BK190.out) hb); replace HB := a_ (below_step (by repeat (with_reducible first | exact HB.out | refine bz ?_ (by assumption) | apply bA | apply bN | apply bD)) hb); clear hb; have hcz16_0 : _ = some (Value.int .i64 a0_0) := (blk_cell BK189.out 0).trans rfl; have hcz16_1 : _ = some (Value.slice A0_1 l0_1.length c0_1) := (blk_cell BK189.out 1).trans rfl; have hcz16_2 : _ = some (Value.slice A0_2 l0_2.length c0_2) := (blk_cell BK189.out 2).trans rfl; have hfz16_0 := blk_frozen BK189.out 0; have hfz16_1 := blk_frozen BK189.out 1; have hfz16_2 := blk_frozen BK189.out 2) | ((with_reducible refine gate_dst (N := 14) rfl ?_); refine box_event ?hg (N := 14) ?hd (cs := #[.int .i64 0]) (t := 3) ?hr ?_; (case hd => rfl); (case hg => rfl); (case hr => first | (go_simp; done) | (go_simp; rfl)); intro gb300 hg w300 hbox hb; have n0_ := a_ (blk_below BK189.out hb); have n1_ := a_ (blk_below BK190.out hb); have n3_ := Aside0.mk hbox; have n4_ := a_ ((by rw [hg]; exact below_size HB.out) : w.heap.size ≤ gb300); have n5_ := a_ ((by rw [hg]; exact Nat.ne_of_lt (blk_lt BK189.out)) : gb189 ≠ gb300); have n6_ := a_ ((by rw [hg]; exact Nat.ne_of_lt (blk_lt BK190.out)) : gb190 ≠ gb300); have n2_ := a_ (below_step HB.out hb); clear BK189 BK190 HB; have BK189 := n0_; have BK190 := n1_; have HB := n2_; have BK300 := n3_; have GE300 := n4_; have NB189_300 := n5_; have NB190_300 := n6_; clear n0_ n1_ n2_ n3_ n4_ n5_ n6_ hb hbox hg; have hcz300 : _ = some (Value.int .i64 0) := (blk_cell BK300.out 0).trans rfl; have hfz300 := blk_frozen BK300.out 0))
   (try simp only [Act.put, sB, sC, sD])
   generalize hw301 : World.setCell w300 _ _ = w301
   have n0_ : Aside0 (w301.heap[gb189]? = some (.cells #[.int .i64 a0_0, .slice A0_1 l0_1.length c0_1, .slice A0_2 l0_2.length c0_2] 31 (0, 0))) := ⟨by rw [← hw301]; exact (Below.heap_setCell _ _ _ _ NB189_300.out).trans BK189.out⟩
   have n1_ : Aside0 (w301.heap[gb190]? = some (.cells #[.int .i64 0, .slice none 0 0, .slice none 0 0] 31 (0, 0))) := ⟨by rw [← hw301]; exact (Below.heap_setCell _ _ _ _ NB190_300.out).trans BK190.out⟩
   have n2_ : Aside0 (Below w.heap.size w w301) := ⟨by rw [← hw301]; exact below_set HB.out GE300.out⟩
   have n3_ : Aside0 (w301.heap[gb300]? = some (.cells #[.int .i64 (wrap64 ((l0_1.length : Int) / a0_0))] 3 (0, 0))) := ⟨by rw [← hw301]; exact one_setCell BK300.out⟩
   clear hw301 hcz300 hfz300 BK189 BK190 BK300 HB
   have BK189 := n0_
   have BK190 := n1_
   have BK300 := n3_
   have HB := n2_
   clear n0_ n1_ n2_ n3_
   go_cut [43] (fun v43 wc => ∃ (kq : Nat) (x43_9 : Bool), v43 = .bool x43_9 ∧ Aside0 (impl_AddRay.j0 kq a1 a2 a3 a4 a5 x43_9 a0_0 l0_1 l0_2 = some (r1, r2, r3, r4)) ∧ Aside0 (kq ≤ k) ∧ Aside0 (wc.heap[gb189]? = some (.cells #[.int .i64 a0_0, (.slice A0_1 l0_1.length c0_1), (.slice A0_2 l0_2.length c0_2)] 31 (0, 0))) ∧ Aside0 (wc.heap[gb190]? = some (.cells #[.int .i64 0, (.slice none 0 0), (.slice none 0 0)] 31 (0, 0))) ∧ Aside0 (Below w.heap.size w wc))
   case first =>
    have H := HC10.out
    clear HC10
    replace H := Option.bind_eq_some_iff.mp H
    obtain ⟨t192, A170, H⟩ := H
    replace H : (if t192 = true then ((impl_AddRay_1.f a3 a4 a0_0 (wrap64 ((l0_1.length : Int) / a0_0))).bind fun t193 => (impl_AddRay.j0 k a1 a2 a3 a4 a5 (!t193) a0_0 l0_1 l0_2)) else (impl_AddRay.j0 k a1 a2 a3 a4 a5 true a0_0 l0_1 l0_2)) = some (r1, r2, r3, r4) := H
    have A17 := Aside0.mk A170
    clear A170
    by_cases c18 : t192 = true
    ·subst c18
     have H1 : ((impl_AddRay_1.f a3 a4 a0_0 (wrap64 ((l0_1.length : Int) / a0_0))).bind fun t193 => (impl_AddRay.j0 k a1 a2 a3 a4 a5 (!t193) a0_0 l0_1 l0_2)) = some (r1, r2, r3, r4) := by rw [if_pos rfl] at H; exact H
     clear H
     have H := H1
     clear H1
     replace H := Option.bind_eq_some_iff.mp H
     obtain ⟨t193, A190, H⟩ := H
     replace H : (impl_AddRay.j0 k a1 a2 a3 a4 a5 (!t193) a0_0 l0_1 l0_2) = some (r1, r2, r3, r4) := H
     have A19 := Aside0.mk A190
     clear A190
     have H' := Aside0.mk H
     clear H
     go_wp2_with (first | (go_at_call 33; (with_reducible refine (impl_AddRay_1.calls a1 a2 a0_0 (wrap64 ((l0_1.length : Int) / a0_0)) true gb189 gb300 _ ((blk_cell BK189.out 0).trans rfl) ((blk_cell BK300.out 0).trans rfl) A17.out).mono ?_); rintro e w20 ⟨rfl, hb⟩; have n9_ := a_ (blk_below BK300.out hb); clear BK300; have BK300 := n9_; clear n9_; replace BK189 := a_ (blk_below (pk BK189.out) hb); replace BK190 := a_ (blk_below (pk BK190.out) hb); replace HB := a_ (below_step (by repeat (with_reducible first | exact HB.out | refine bz ?_ (by assumption) | apply bA | apply bN | apply bD)) hb); clear hb) | (go_at_call 33; (with_reducible refine (impl_AddRay_1.calls a3 a4 a0_0 (wrap64 ((l0_1.length : Int) / a0_0)) t193 gb189 gb300 _ ((blk_cell BK189.out 0).trans rfl) ((blk_cell BK300.out 0).trans rfl) A19.out).mono ?_); rintro e w21 ⟨rfl, hb⟩; have n9_ := a_ (blk_below BK300.out hb); clear BK300; have BK300 := n9_; clear n9_; replace BK189 := a_ (blk_below (pk BK189.out) hb); replace BK190 := a_ (blk_below (pk BK190.out) hb); replace HB := a_ (below_step (by repeat (with_reducible first | exact HB.out | refine bz ?_ (by assumption) | apply bA | apply bN | apply bD)) hb); clear hb))
     go_meet
     case rel => exact ⟨_, (!t193), (by first | rfl | (simp; done) | (simp [*]; done)), H', ⟨by first | omega | exact Nat.le_refl _⟩, ⟨pk BK189.out⟩, ⟨pk BK190.out⟩, ⟨by repeat (with_reducible first | exact HB.out | refine bz ?_ (by assumption) | apply bA | apply bN | apply bD)⟩⟩
    ·replace c18 := Bool.eq_false_iff.mpr c18
     subst c18
     have H1 : (impl_AddRay.j0 k a1 a2 a3 a4 a5 true a0_0 l0_1 l0_2) = some (r1, r2, r3, r4) := by rw [if_neg (show ¬ (false = true) by decide)] at H; exact H
     clear H
     have H := H1
     clear H1
     have H' := Aside0.mk H
     clear H
     go_wp2_with (first | (go_at_call 33; (with_reducible refine (impl_AddRay_1.calls a1 a2 a0_0 (wrap64 ((l0_1.length : Int) / a0_0)) false gb189 gb300 _ ((blk_cell BK189.out 0).trans rfl) ((blk_cell BK300.out 0).trans rfl) A17.out).mono ?_); rintro e w22 ⟨rfl, hb⟩; have n9_ := a_ (blk_below BK300.out hb); clear BK300; have BK300 := n9_; clear n9_; replace BK189 := a_ (blk_below (pk BK189.out) hb); replace BK190 := a_ (blk_below (pk BK190.out) hb); replace HB := a_ (below_step (by repeat (with_reducible first | exact HB.out | refine bz ?_ (by assumption) | apply bA | apply bN | apply bD)) hb); clear hb))
     go_meet
     case rel => exact ⟨_, (true), (by first | rfl | (simp; done) | (simp [*]; done)), H', ⟨by first | omega | exact Nat.le_refl _⟩, ⟨pk BK189.out⟩, ⟨pk BK190.out⟩, ⟨by repeat (with_reducible first | exact HB.out | refine bz ?_ (by assumption) | apply bA | apply bN | apply bD)⟩⟩
   case rest =>
    clear HC10
    clear BK300 GE300 NB189_300 NB190_300 hmf
    try clear c1; try clear p2; try clear c3; try clear p6; try clear c8; try clear c9; try clear c9b0; try clear c9b1; try clear c13; try clear c14; try clear c18; try clear hcz14_0; try clear hcz14_1; try clear hcz14_2; try clear hcz16_0; try clear hcz16_1; try clear hcz16_2; try clear hfz14_0; try clear hfz14_1; try clear hfz14_2; try clear hfz16_0; try clear hfz16_1; try clear hfz16_2
    obtain ⟨kq, x43_9, rfl, HA, HJ9, BK189, BK190, HB⟩ := hcut
    cases kq with
    | zero => exact absurd HA.out (by simp [impl_AddRay.j0])
    | succ kj9 =>
     have H := HA.out
     clear HA
     simp only [impl_AddRay.j0] at H
     by_cases c23 : x43_9 = true
     ·subst c23
      have H1 : (some (0, ([] : List Int), ([] : List Int), false)) = some (r1, r2, r3, r4) := by rw [if_pos rfl] at H; exact H
      clear H
      have H := H1
      clear H1
      simp only [Option.some.injEq, Prod.mk.injEq] at H
      obtain ⟨rfl, rfl, rfl, rfl⟩ := H
      have hnb24 := NB190_189.out
      have hnc24 := NB189_190.out
      have hcz25_0 : wc.cell? ⟨gb190, 0, none⟩ = some (.int .i64 0) := (blk_cell BK190.out 0).trans rfl
      have hcz25_1 : wc.cell? ⟨gb190, 1, none⟩ = some (.slice none 0 0) := (blk_cell BK190.out 1).trans rfl
      have hcz25_2 : wc.cell? ⟨gb190, 2, none⟩ = some (.slice none 0 0) := (blk_cell BK190.out 2).trans rfl
      have hfz25_0 := blk_frozen BK190.out 0
      have hfz25_1 := blk_frozen BK190.out 1
      have hfz25_2 := blk_frozen BK190.out 2
      go_wp2
      refine bodyPost_ret (results_ct rfl _ _ gb190 31 #[.int .i64 0, .slice none 0 0, .slice none 0 0] (0, 0) _ rfl (by refine pk ?_; refine blk_put (cs := #[.int .i64 0, .slice none 0 0, .slice none 0 0]) ?_ 2 _ rfl; refine pk ?_; refine blk_put (cs := #[.int .i64 0, .slice none 0 0, .slice none 0 0]) ?_ 1 _ rfl; refine pk ?_; refine blk_put (cs := #[.int .i64 0, .slice none 0 0, .slice none 0 0]) ?_ 0 _ rfl; refine pk ?_; exact BK190.out) Try.underlying31 rfl (by kernel_rfl)) rfl ?_
      exact ⟨_, _, by first | rfl | (simp [errW_none, errW_some] <;> rfl) | (simp [*, errW_none, errW_some] <;> rfl), by first | exact Kd.R_nil _ _ _ _ _ | exact Kd.N_nil _ _ _ _ _ | exact Kd.V_nil _ _ _ _ _ | exact Kd.Q_nil _ _ _ _ _ | exact Kd.S_nil _ _ _ _ _, by first | exact Kd.R_nil _ _ _ _ _ | exact Kd.N_nil _ _ _ _ _ | exact Kd.V_nil _ _ _ _ _ | exact Kd.Q_nil _ _ _ _ _ | exact Kd.S_nil _ _ _ _ _, by repeat (with_reducible first | exact HB.out | refine bz ?_ (by assumption) | apply bA | apply bN | apply bD)⟩
     ·replace c23 := Bool.eq_false_iff.mpr c23
      subst c23
      have H1 : (if ([] : List Int).length + l0_1.length < 17592186044416 then (if ([] : List Int).length + l0_2.length < 17592186044416 then ((impl_LineCells.f kj9 a1 a2 a3 a4).bind fun t201 => (impl_AddRay.l0 kj9 a5 t201 t201 (t201.length : Int) 0 a0_0 l0_1 l0_2 a0_0 (([] : List Int) ++ l0_1) (([] : List Int) ++ l0_2))) else (none)) else (none)) = some (r1, r2, r3, r4) := by rw [if_neg (show ¬ (false = true) by decide)] at H; exact H
      clear H
      have H := H1
      clear H1
      by_cases c26 : ([] : List Int).length + l0_1.length < 17592186044416
      ·rw [if_pos c26] at H
       have LMc26 := Aside0.mk c26
       clear c26
       obtain ⟨y194, hy194⟩ : ∃ y_ : List Int, y_ = (([] : List Int) ++ l0_1) := ⟨_, rfl⟩
       replace H : (if ([] : List Int).length + l0_2.length < 17592186044416 then ((impl_LineCells.f kj9 a1 a2 a3 a4).bind fun t201 => (impl_AddRay.l0 kj9 a5 t201 t201 (t201.length : Int) 0 a0_0 l0_1 l0_2 a0_0 y194 (([] : List Int) ++ l0_2))) else (none)) = some (r1, r2, r3, r4) := by first | (rw [hy194]; with_reducible exact H) | (have H2_ := (Option.bind_some _ _).symm.trans H; rw [hy194]; with_reducible exact H2_) | (have H2_ := (Option.bind_some _ _).symm.trans H; with_reducible exact H2_) | with_reducible exact H | (rw [hy194]; exact H) | exact H
       have Ny194 := Aside0.mk hy194
       clear hy194
       by_cases c27 : ([] : List Int).length + l0_2.length < 17592186044416
       ·rw [if_pos c27] at H
        have LMc27 := Aside0.mk c27
        clear c27
        obtain ⟨y197, hy197⟩ : ∃ y_ : List Int, y_ = (([] : List Int) ++ l0_2) := ⟨_, rfl⟩
        replace H : ((impl_LineCells.f kj9 a1 a2 a3 a4).bind fun t201 => (impl_AddRay.l0 kj9 a5 t201 t201 (t201.length : Int) 0 a0_0 l0_1 l0_2 a0_0 y194 y197)) = some (r1, r2, r3, r4) := by first | (rw [hy197]; with_reducible exact H) | (have H2_ := (Option.bind_some _ _).symm.trans H; rw [hy197]; with_reducible exact H2_) | (have H2_ := (Option.bind_some _ _).symm.trans H; with_reducible exact H2_) | with_reducible exact H | (rw [hy197]; exact H) | exact H
        have Ny197 := Aside0.mk hy197
        clear hy197
        replace H := Option.bind_eq_some_iff.mp H
        obtain ⟨t201, A280, H⟩ := H
        replace H : (impl_AddRay.l0 kj9 a5 t201 t201 (t201.length : Int) 0 a0_0 l0_1 l0_2 a0_0 y194 y197) = some (r1, r2, r3, r4) := H
        have A28 := Aside0.mk A280
        clear A280
        have H' := Aside0.mk H
        clear H
        try go_wp2
        replace BK189 := a_ (blk_drew BK189.out)
        replace BK190 := a_ (blk_drew BK190.out)
        replace HB := a_ (below_drew1 HB.out)
        refine start_ (n := 11) (S := fun w' => w'.cell? ⟨gb189, 0, none⟩ = some (.int .i64 a0_0) ∧ w'.cell? ⟨gb189, 1, none⟩ = some (.slice A0_1 l0_1.length c0_1) ∧ w'.cell? ⟨gb189, 2, none⟩ = some (.slice A0_2 l0_2.length c0_2)) (ds := []) #[false, false, false, false, false, false, false, false, false, false, false] (by kernel_rfl) rfl rfl ⟨(blk_cell BK189.out 0).trans rfl, (blk_cell BK189.out 1).trans rfl, (blk_cell BK189.out 2).trans rfl⟩ (fun hHeld => ?_); refine with_tabW impl_AddRay.tab7 impl_AddRay.bits7 (fun HT_ HW_ => ?_)
        generalize wc.drew = w29 at BK189 BK190 HB hHeld ⊢
        refine pure_ (i := 0) (N := some 45) (v := ?_) (a' := ?_) #[true, false, false, false, false, false, false, false, false, false, false] rfl rfl (any_of HT_.out (by kernel_rfl)) (fun _ _ _ h => h) (Or.inl ⟨by rfl, ?_⟩) ?_ ?_
        rotate_left
        ·intro w'
         go_simp
         with_reducible rfl
        rotate_left
        ·simp only [Act.put, sB, sC, sD, i64_w, i32_w]
         rfl
        refine pure_ (i := 2) (N := some 47) (v := ?_) (a' := ?_) #[true, false, true, false, false, false, false, false, false, false, false] rfl rfl (any_of HT_.out (by kernel_rfl)) (fun _ _ _ h => h) (Or.inl ⟨by rfl, ?_⟩) ?_ ?_
        rotate_left
        ·intro w'
         go_simp
         with_reducible rfl
        rotate_left
        ·simp only [Act.put, sB, sC, sD, i64_w, i32_w]
         rfl
        refine pure_ (i := 5) (N := some 50) (v := ?_) (a' := ?_) #[true, false, true, false, false, true, false, false, false, false, false] rfl rfl (any_of HT_.out (by kernel_rfl)) (fun _ _ _ h => h) (Or.inl ⟨by rfl, ?_⟩) ?_ ?_
        rotate_left
        ·intro w'
         go_simp
         with_reducible rfl
        rotate_left
        ·simp only [Act.put, sB, sC, sD, i64_w, i32_w]
         rfl
        refine take_ (i := 1) (N := some 46) (v := ?_) (a' := ?_) #[true, true, true, false, false, true, false, false, false, false, false] rfl rfl (take_ofW HT_.out HW_.out (by kernel_rfl)) (fun _ _ _ h => h) (Or.inl ⟨by rfl, ?_⟩) hHeld ?_ ?_
        rotate_left
        ·rintro w' ⟨s0, s1, s2⟩
         go_simp
         with_reducible rfl
        rotate_left
        ·simp only [Act.put, sB, sC, sD, i64_w, i32_w]
         rfl
        refine take_ (i := 3) (N := some 48) (v := ?_) (a' := ?_) #[true, true, true, true, false, true, false, false, false, false, false] rfl rfl (take_ofW HT_.out HW_.out (by kernel_rfl)) (fun _ _ _ h => h) (Or.inl ⟨by rfl, ?_⟩) hHeld ?_ ?_
        rotate_left
        ·rintro w' ⟨s0, s1, s2⟩
         go_simp
         with_reducible rfl
        rotate_left
        ·simp only [Act.put, sB, sC, sD, i64_w, i32_w]
         rfl
        refine take_ (i := 6) (N := some 51) (v := ?_) (a' := ?_) #[true, true, true, true, false, true, true, false, false, false, false] rfl rfl (take_ofW HT_.out HW_.out (by kernel_rfl)) (fun _ _ _ h => h) (Or.inl ⟨by rfl, ?_⟩) hHeld ?_ ?_
        rotate_left
        ·rintro w' ⟨s0, s1, s2⟩
         go_simp
         with_reducible rfl
        rotate_left
        ·simp only [Act.put, sB, sC, sD, i64_w, i32_w]
         rfl
        refine join_ (σ := Value × Value × Nat) 1 #[true, true, true, true, true, true, true, true, true, true, false] (fun s_ => [(49, s_.1), (52, s_.2.1), (16, .pointer (some ⟨s_.2.2, 0, none⟩)), (53, .agg #[.int .i64 a0_0, s_.1, s_.2.1])]) (fun s_ w' => (w'.cell? ⟨gb189, 0, none⟩ = some (.int .i64 a0_0) ∧ w'.cell? ⟨gb189, 1, none⟩ = some (.slice A0_1 l0_1.length c0_1) ∧ w'.cell? ⟨gb189, 2, none⟩ = some (.slice A0_2 l0_2.length c0_2)) ∧ (Kd.R (Kd.int .i64) 3 w' w.heap.size (fun k_ => some k_ ≠ (s_.2.1 : Value).ownBlock) s_.1 y194) ∧ (Kd.R (Kd.int .i64) 3 w' w.heap.size (fun k_ => some k_ ≠ (s_.1 : Value).ownBlock) s_.2.1 y197) ∧ (w'.heap[gb189]? = some (.cells #[.int .i64 a0_0, .slice A0_1 l0_1.length c0_1, .slice A0_2 l0_2.length c0_2] 31 (0, 0))) ∧ (w'.heap[gb190]? = some (.cells #[.int .i64 0, .slice none 0 0, .slice none 0 0] 31 (0, 0))) ∧ (w'.heap[s_.2.2]? = some (.cells #[.int .i64 0, .slice none 0 0, .slice none 0 0] 31 (0, 0))) ∧ (w.heap.size ≤ s_.2.2) ∧ (w.heap.size ≤ s_.2.2) ∧ (gb189 ≠ s_.2.2) ∧ (s_.2.2 ≠ gb189) ∧ (gb190 ≠ s_.2.2) ∧ (s_.2.2 ≠ gb190) ∧ (Below w.heap.size w w')) ?_ ?_
        rotate_left
        ·intro hCont
         refine two_ (i := 4) (j := 9) (Ni := some 49) (Nj := some 16) #[true, true, true, true, true, true, true, false, false, false, false] #[true, true, true, true, false, true, true, false, false, true, false] rfl rfl rfl rfl (two_of HT_.out (by kernel_rfl)) (by decide) (by decide) (fun K hK => ?_) (fun K hK => ?_)
         ·skip
          refine Kd.R_append_rows_step (Kd.int .i64) (w0 := w) w.heap.size rfl (.const (.slice none 0 0)) (.tmp 48) 27 3 (.int .i64 0) 8 rfl Try.underlying27 info3 rfl (by decide) (by omega) (.slice none 0 0) ([] : List Int) l0_1 _ _ _ (fun _ => True) (fun _ => False) rfl (by first | rfl | exact ev_tmp_6 e48) ?aO ?aR (fun _ _ h => h) (fun _ h => h.elim) ?aF ?aB ?aS ?aL ?_
          (case aR => exact Kd.C_below HR0_1.out (un HB.out))
          (case aB => exact (by repeat (with_reducible first | exact HB.out | refine bz ?_ (by assumption) | apply bA | apply bN | apply bD)))
          (case aF => exact (fun _ _ => trivial))
          (case aO => exact (Kd.R_nil _ _ _ _ (fun _ => True)))
          (case aS => exact (bs HB.out))
          (case aL => have := LMc26.out; omega)
          intro v195 w30 ho hb hg hat
          rw [← Ny194.out] at ho
          replace BK189 := a_ (blk_grown (pk BK189.out) hg (by simp [Value.ownBlock]))
          replace BK190 := a_ (blk_grown (pk BK190.out) hg (by simp [Value.ownBlock]))
          replace HB := a_ (hb)
          have HO196 := a_ (ho)
          clear ho hb hg hat
          refine hK.out _ _ ⟨(blk_cell BK189.out 0).trans rfl, (blk_cell BK189.out 1).trans rfl, (blk_cell BK189.out 2).trans rfl⟩ (fun hHeld => ?_)
          clear hK K
          refine norm_ (a' := ?_) ?_ ?_
          rotate_left
          ·show Act.put _ (some 49) _ = _
           simp only [Act.put, sB, sC, sD, i64_w, i32_w]
           rfl
          refine two_ (i := 7) (j := 9) (Ni := some 52) (Nj := some 16) #[true, true, true, true, true, true, true, true, false, false, false] #[true, true, true, true, true, true, true, false, false, true, false] rfl rfl rfl rfl (two_of HT_.out (by kernel_rfl)) (by decide) (by decide) (fun K hK => ?_) (fun K hK => ?_)
          ·skip
           refine Kd.R_append_rows_step (Kd.int .i64) (w0 := w) w.heap.size rfl (.const (.slice none 0 0)) (.tmp 51) 27 3 (.int .i64 0) 8 rfl Try.underlying27 info3 rfl (by decide) (by omega) (.slice none 0 0) ([] : List Int) l0_2 _ _ _ (fun k_ => N_ v195 k_) (fun _ => False) rfl (by first | rfl | exact ev_tmp_6 e51) ?aO ?aR (fun _ _ h => h) (fun _ h => h.elim) ?aF ?aB ?aS ?aL ?_
           (case aR => exact Kd.C_below HR0_2.out (un HB.out))
           (case aB => exact (by repeat (with_reducible first | exact HB.out | refine bz ?_ (by assumption) | apply bA | apply bN | apply bD)))
           (case aF => exact (fun k_ hk => Kd.fresh' (Kd.R_lt (rk HO196.out)) k_ hk))
           (case aO => exact (Kd.R_nil _ _ _ _ (fun k_ => N_ v195 k_)))
           (case aS => exact (bs HB.out))
           (case aL => have := LMc27.out; omega)
           intro v198 w31 ho hb hg hat
           rw [← Ny197.out] at ho
           replace BK189 := a_ (blk_grown (pk BK189.out) hg (by simp [Value.ownBlock]))
           replace BK190 := a_ (blk_grown (pk BK190.out) hg (by simp [Value.ownBlock]))
           replace HO196 := a_ (Kd.R_after (Kd.R_apart_nil (rk HO196.out)) hg hat)
           replace HB := a_ (hb)
           have HO199 := a_ (ho)
           clear ho hb hg hat
           obtain ⟨Ao32, co32, eo32⟩ := Kd.R_slice HO199.out
           (first | subst eo32 | (injection eo32 with f1_ f2_ f3_; obtain rfl := f1_.symm; obtain rfl := f3_.symm))
           obtain ⟨Ao33, co33, eo33⟩ := Kd.R_slice HO196.out
           (first | subst eo33 | (injection eo33 with f1_ f2_ f3_; obtain rfl := f1_.symm; obtain rfl := f3_.symm))
           refine hK.out _ _ ⟨(blk_cell BK189.out 0).trans rfl, (blk_cell BK189.out 1).trans rfl, (blk_cell BK189.out 2).trans rfl⟩ (fun hHeld => ?_)
           clear hK K
           refine norm_ (a' := ?_) ?_ ?_
           rotate_left
           ·show Act.put _ (some 52) _ = _
            simp only [Act.put, sB, sC, sD, i64_w, i32_w]
            rfl
           refine pure_ (i := 8) (N := some 53) (v := ?_) (a' := ?_) #[true, true, true, true, true, true, true, true, true, false, false] rfl rfl (any_of HT_.out (by kernel_rfl)) (fun _ _ _ h => h) (Or.inl ⟨by rfl, ?_⟩) ?_ ?_
           rotate_left
           ·intro w'
            go_simp
            with_reducible rfl
           rotate_left
           ·simp only [Act.put, sB, sC, sD, i64_w, i32_w]
            rfl
           refine one_ (i := 9) (N := some 16) #[true, true, true, true, true, true, true, true, true, true, false] rfl rfl (one_of HT_.out (by kernel_rfl)) (by decide) (fun K hK => ?_)
           refine box_step ?hg (N := 16) ?hd (cs := #[.int .i64 0, .slice none 0 0, .slice none 0 0]) (t := 31) ?hr ?_; (case hd => rfl); (case hg => rfl); (case hr => first | (go_simp; done) | (go_simp; rfl))
           intro gb200 hg w34 hbox hb
           replace HO196 := a_ (Kd.R_below (rk HO196.out) hb)
           replace HO199 := a_ (Kd.R_below (rk HO199.out) hb)
           have BK200 := a_ (hbox)
           have GW200 := a_ (bsg hg HB.out)
           have GE200 := a_ (bsg hg HB.out)
           replace HB := a_ (below_step (by repeat (with_reducible first | exact HB.out | refine bz ?_ (by assumption) | apply bA | apply bN | apply bD)) hb)
           have NB189_200 := a_ (nel hg BK189.out)
           have NB200_189 := a_ (nle hg BK189.out)
           replace BK189 := a_ (blk_below (pk BK189.out) hb)
           have NB190_200 := a_ (nel hg BK190.out)
           have NB200_190 := a_ (nle hg BK190.out)
           replace BK190 := a_ (blk_below (pk BK190.out) hb)
           clear hb hbox hg
           refine hK.out _ _ ⟨(blk_cell BK189.out 0).trans rfl, (blk_cell BK189.out 1).trans rfl, (blk_cell BK189.out 2).trans rfl⟩ (fun hHeld => ?_)
           clear hK K
           refine norm_ (a' := ?_) ?_ ?_
           rotate_left
           ·show Act.put _ (some 16) _ = _
            simp only [Act.put, sB, sC, sD, i64_w, i32_w]
            rfl
           exact norm_ (by simp only [putAll, Act.put, sB, sC, sD]) (hCont (.slice Ao33 y194.length co33, .slice Ao32 y197.length co32, gb200) _ ⟨hHeld, (rk (Kd.R_mono HO196.out (fun _ hk => hk.2))), (rk HO199.out), (pk BK189.out), (pk BK190.out), (pk BK200.out), GW200.out, GE200.out, NB189_200.out, NB200_189.out, NB190_200.out, NB200_190.out, (by repeat (with_reducible first | exact HB.out | refine bz ?_ (by assumption) | apply bA | apply bN | apply bD))⟩)
          ·skip
           refine box_step ?hg (N := 16) ?hd (cs := #[.int .i64 0, .slice none 0 0, .slice none 0 0]) (t := 31) ?hr ?_; (case hd => rfl); (case hg => rfl); (case hr => first | (go_simp; done) | (go_simp; rfl))
           intro gb200 hg w31 hbox hb
           replace HO196 := a_ (Kd.R_below (rk HO196.out) hb)
           have BK200 := a_ (hbox)
           have GW200 := a_ (bsg hg HB.out)
           have GE200 := a_ (bsg hg HB.out)
           replace HB := a_ (below_step (by repeat (with_reducible first | exact HB.out | refine bz ?_ (by assumption) | apply bA | apply bN | apply bD)) hb)
           have NB189_200 := a_ (nel hg BK189.out)
           have NB200_189 := a_ (nle hg BK189.out)
           replace BK189 := a_ (blk_below (pk BK189.out) hb)
           have NB190_200 := a_ (nel hg BK190.out)
           have NB200_190 := a_ (nle hg BK190.out)
           replace BK190 := a_ (blk_below (pk BK190.out) hb)
           clear hb hbox hg
           refine hK.out _ _ ⟨(blk_cell BK189.out 0).trans rfl, (blk_cell BK189.out 1).trans rfl, (blk_cell BK189.out 2).trans rfl⟩ (fun hHeld => ?_)
           clear hK K
           refine norm_ (a' := ?_) ?_ ?_
           rotate_left
           ·show Act.put _ (some 16) _ = _
            simp only [Act.put, sB, sC, sD, i64_w, i32_w]
            rfl
           refine one_ (i := 7) (N := some 52) #[true, true, true, true, true, true, true, true, false, true, false] rfl rfl (one_of HT_.out (by kernel_rfl)) (by decide) (fun K hK => ?_)
           refine Kd.R_append_rows_step (Kd.int .i64) (w0 := w) w.heap.size rfl (.const (.slice none 0 0)) (.tmp 51) 27 3 (.int .i64 0) 8 rfl Try.underlying27 info3 rfl (by decide) (by omega) (.slice none 0 0) ([] : List Int) l0_2 _ _ _ (fun k_ => N_ v195 k_) (fun _ => False) rfl (by first | rfl | exact ev_tmp_6 e51) ?aO ?aR (fun _ _ h => h) (fun _ h => h.elim) ?aF ?aB ?aS ?aL ?_
           (case aR => exact Kd.C_below HR0_2.out (un HB.out))
           (case aB => exact (by repeat (with_reducible first | exact HB.out | refine bz ?_ (by assumption) | apply bA | apply bN | apply bD)))
           (case aF => exact (fun k_ hk => Kd.fresh' (Kd.R_lt (rk HO196.out)) k_ hk))
           (case aO => exact (Kd.R_nil _ _ _ _ (fun k_ => N_ v195 k_)))
           (case aS => exact (bs HB.out))
           (case aL => have := LMc27.out; omega)
           intro v198 w32 ho hb hg hat
           rw [← Ny197.out] at ho
           replace BK189 := a_ (blk_grown (pk BK189.out) hg (by simp [Value.ownBlock]))
           replace BK190 := a_ (blk_grown (pk BK190.out) hg (by simp [Value.ownBlock]))
           replace HO196 := a_ (Kd.R_after (Kd.R_apart_nil (rk HO196.out)) hg hat)
           replace BK200 := a_ (blk_grown (pk BK200.out) hg (by simp [Value.ownBlock]))
           replace HB := a_ (hb)
           have HO199 := a_ (ho)
           clear ho hb hg hat
           obtain ⟨Ao33, co33, eo33⟩ := Kd.R_slice HO199.out
           (first | subst eo33 | (injection eo33 with f1_ f2_ f3_; obtain rfl := f1_.symm; obtain rfl := f3_.symm))
           obtain ⟨Ao34, co34, eo34⟩ := Kd.R_slice HO196.out
           (first | subst eo34 | (injection eo34 with f1_ f2_ f3_; obtain rfl := f1_.symm; obtain rfl := f3_.symm))
           refine hK.out _ _ ⟨(blk_cell BK189.out 0).trans rfl, (blk_cell BK189.out 1).trans rfl, (blk_cell BK189.out 2).trans rfl⟩ (fun hHeld => ?_)
           clear hK K
           refine norm_ (a' := ?_) ?_ ?_
           rotate_left
           ·show Act.put _ (some 52) _ = _
            simp only [Act.put, sB, sC, sD, i64_w, i32_w]
            rfl
           refine pure_ (i := 8) (N := some 53) (v := ?_) (a' := ?_) #[true, true, true, true, true, true, true, true, true, true, false] rfl rfl (any_of HT_.out (by kernel_rfl)) (fun _ _ _ h => h) (Or.inl ⟨by rfl, ?_⟩) ?_ ?_
           rotate_left
           ·intro w'
            go_simp
            with_reducible rfl
           rotate_left
           ·simp only [Act.put, sB, sC, sD, i64_w, i32_w]
            rfl
           exact norm_ (by simp only [putAll, Act.put, sB, sC, sD]) (hCont (.slice Ao34 y194.length co34, .slice Ao33 y197.length co33, gb200) _ ⟨hHeld, (rk (Kd.R_mono HO196.out (fun _ hk => hk.2))), (rk HO199.out), (pk BK189.out), (pk BK190.out), (pk BK200.out), GW200.out, GE200.out, NB189_200.out, NB200_189.out, NB190_200.out, NB200_190.out, (by repeat (with_reducible first | exact HB.out | refine bz ?_ (by assumption) | apply bA | apply bN | apply bD))⟩)
         ·skip
          refine box_step ?hg (N := 16) ?hd (cs := #[.int .i64 0, .slice none 0 0, .slice none 0 0]) (t := 31) ?hr ?_; (case hd => rfl); (case hg => rfl); (case hr => first | (go_simp; done) | (go_simp; rfl))
          intro gb200 hg w30 hbox hb
          have BK200 := a_ (hbox)
          have GW200 := a_ (bsg hg HB.out)
          have GE200 := a_ (bsg hg HB.out)
          replace HB := a_ (below_step (by repeat (with_reducible first | exact HB.out | refine bz ?_ (by assumption) | apply bA | apply bN | apply bD)) hb)
          have NB189_200 := a_ (nel hg BK189.out)
          have NB200_189 := a_ (nle hg BK189.out)
          replace BK189 := a_ (blk_below (pk BK189.out) hb)
          have NB190_200 := a_ (nel hg BK190.out)
          have NB200_190 := a_ (nle hg BK190.out)
          replace BK190 := a_ (blk_below (pk BK190.out) hb)
          clear hb hbox hg
          refine hK.out _ _ ⟨(blk_cell BK189.out 0).trans rfl, (blk_cell BK189.out 1).trans rfl, (blk_cell BK189.out 2).trans rfl⟩ (fun hHeld => ?_)
          clear hK K
          refine norm_ (a' := ?_) ?_ ?_
          rotate_left
          ·show Act.put _ (some 16) _ = _
           simp only [Act.put, sB, sC, sD, i64_w, i32_w]
           rfl
          refine one_ (i := 4) (N := some 49) #[true, true, true, true, true, true, true, false, false, true, false] rfl rfl (one_of HT_.out (by kernel_rfl)) (by decide) (fun K hK => ?_)
          refine Kd.R_append_rows_step (Kd.int .i64) (w0 := w) w.heap.size rfl (.const (.slice none 0 0)) (.tmp 48) 27 3 (.int .i64 0) 8 rfl Try.underlying27 info3 rfl (by decide) (by omega) (.slice none 0 0) ([] : List Int) l0_1 _ _ _ (fun _ => True) (fun _ => False) rfl (by first | rfl | exact ev_tmp_6 e48) ?aO ?aR (fun _ _ h => h) (fun _ h => h.elim) ?aF ?aB ?aS ?aL ?_
          (case aR => exact Kd.C_below HR0_1.out (un HB.out))
          (case aB => exact (by repeat (with_reducible first | exact HB.out | refine bz ?_ (by assumption) | apply bA | apply bN | apply bD)))
          (case aF => exact (fun _ _ => trivial))
          (case aO => exact (Kd.R_nil _ _ _ _ (fun _ => True)))
          (case aS => exact (bs HB.out))
          (case aL => have := LMc26.out; omega)
          intro v195 w31 ho hb hg hat
          rw [← Ny194.out] at ho
          replace BK189 := a_ (blk_grown (pk BK189.out) hg (by simp [Value.ownBlock]))
          replace BK190 := a_ (blk_grown (pk BK190.out) hg (by simp [Value.ownBlock]))
          replace BK200 := a_ (blk_grown (pk BK200.out) hg (by simp [Value.ownBlock]))
          replace HB := a_ (hb)
          have HO196 := a_ (ho)
          clear ho hb hg hat
          refine hK.out _ _ ⟨(blk_cell BK189.out 0).trans rfl, (blk_cell BK189.out 1).trans rfl, (blk_cell BK189.out 2).trans rfl⟩ (fun hHeld => ?_)
          clear hK K
          refine norm_ (a' := ?_) ?_ ?_
          rotate_left
          ·show Act.put _ (some 49) _ = _
           simp only [Act.put, sB, sC, sD, i64_w, i32_w]
           rfl
          refine one_ (i := 7) (N := some 52) #[true, true, true, true, true, true, true, true, false, true, false] rfl rfl (one_of HT_.out (by kernel_rfl)) (by decide) (fun K hK => ?_)
          refine Kd.R_append_rows_step (Kd.int .i64) (w0 := w) w.heap.size rfl (.const (.slice none 0 0)) (.tmp 51) 27 3 (.int .i64 0) 8 rfl Try.underlying27 info3 rfl (by decide) (by omega) (.slice none 0 0) ([] : List Int) l0_2 _ _ _ (fun k_ => N_ v195 k_) (fun _ => False) rfl (by first | rfl | exact ev_tmp_6 e51) ?aO ?aR (fun _ _ h => h) (fun _ h => h.elim) ?aF ?aB ?aS ?aL ?_
          (case aR => exact Kd.C_below HR0_2.out (un HB.out))
          (case aB => exact (by repeat (with_reducible first | exact HB.out | refine bz ?_ (by assumption) | apply bA | apply bN | apply bD)))
          (case aF => exact (fun k_ hk => Kd.fresh' (Kd.R_lt (rk HO196.out)) k_ hk))
          (case aO => exact (Kd.R_nil _ _ _ _ (fun k_ => N_ v195 k_)))
          (case aS => exact (bs HB.out))
          (case aL => have := LMc27.out; omega)
          intro v198 w32 ho hb hg hat
          rw [← Ny197.out] at ho
          replace BK189 := a_ (blk_grown (pk BK189.out) hg (by simp [Value.ownBlock]))
          replace BK190 := a_ (blk_grown (pk BK190.out) hg (by simp [Value.ownBlock]))
          replace BK200 := a_ (blk_grown (pk BK200.out) hg (by simp [Value.ownBlock]))
          replace HO196 := a_ (Kd.R_after (Kd.R_apart_nil (rk HO196.out)) hg hat)
          replace HB := a_ (hb)
          have HO199 := a_ (ho)
          clear ho hb hg hat
          obtain ⟨Ao33, co33, eo33⟩ := Kd.R_slice HO199.out
          (first | subst eo33 | (injection eo33 with f1_ f2_ f3_; obtain rfl := f1_.symm; obtain rfl := f3_.symm))
          obtain ⟨Ao34, co34, eo34⟩ := Kd.R_slice HO196.out
          (first | subst eo34 | (injection eo34 with f1_ f2_ f3_; obtain rfl := f1_.symm; obtain rfl := f3_.symm))
          refine hK.out _ _ ⟨(blk_cell BK189.out 0).trans rfl, (blk_cell BK189.out 1).trans rfl, (blk_cell BK189.out 2).trans rfl⟩ (fun hHeld => ?_)
          clear hK K
          refine norm_ (a' := ?_) ?_ ?_
          rotate_left
          ·show Act.put _ (some 52) _ = _
           simp only [Act.put, sB, sC, sD, i64_w, i32_w]
           rfl
          refine pure_ (i := 8) (N := some 53) (v := ?_) (a' := ?_) #[true, true, true, true, true, true, true, true, true, true, false] rfl rfl (any_of HT_.out (by kernel_rfl)) (fun _ _ _ h => h) (Or.inl ⟨by rfl, ?_⟩) ?_ ?_
          rotate_left
          ·intro w'
           go_simp
           with_reducible rfl
          rotate_left
          ·simp only [Act.put, sB, sC, sD, i64_w, i32_w]
           rfl
          exact norm_ (by simp only [putAll, Act.put, sB, sC, sD]) (hCont (.slice Ao34 y194.length co34, .slice Ao33 y197.length co33, gb200) _ ⟨hHeld, (rk (Kd.R_mono HO196.out (fun _ hk => hk.2))), (rk HO199.out), (pk BK189.out), (pk BK190.out), (pk BK200.out), GW200.out, GE200.out, NB189_200.out, NB200_189.out, NB190_200.out, NB200_190.out, (by repeat (with_reducible first | exact HB.out | refine bz ?_ (by assumption) | apply bA | apply bN | apply bD))⟩)
        rintro ⟨v195, v198, gb200⟩ w35 ⟨hS_, h0_, h1_, h2_, h3_, h4_, h5_, h6_, h7_, h8_, h9_, h10_, h11_⟩
        have n0_ : Aside0 (Kd.R (Kd.int .i64) 3 w35 w.heap.size (fun k_ => N_ v198 k_) v195 y194) := ⟨h0_⟩
        have n1_ : Aside0 (Kd.R (Kd.int .i64) 3 w35 w.heap.size (fun k_ => N_ v195 k_) v198 y197) := ⟨h1_⟩
        have n2_ : Aside0 (w35.heap[gb189]? = some (.cells #[.int .i64 a0_0, .slice A0_1 l0_1.length c0_1, .slice A0_2 l0_2.length c0_2] 31 (0, 0))) := ⟨h2_⟩
        have n3_ : Aside0 (w35.heap[gb190]? = some (.cells #[.int .i64 0, .slice none 0 0, .slice none 0 0] 31 (0, 0))) := ⟨h3_⟩
        have n4_ : Aside0 (w35.heap[gb200]? = some (.cells #[.int .i64 0, .slice none 0 0, .slice none 0 0] 31 (0, 0))) := ⟨h4_⟩
        have n5_ : Aside0 (w.heap.size ≤ gb200) := ⟨h5_⟩
        have n6_ : Aside0 (w.heap.size ≤ gb200) := ⟨h6_⟩
        have n7_ : Aside0 (gb189 ≠ gb200) := ⟨h7_⟩
        have n8_ : Aside0 (gb200 ≠ gb189) := ⟨h8_⟩
        have n9_ : Aside0 (gb190 ≠ gb200) := ⟨h9_⟩
        have n10_ : Aside0 (gb200 ≠ gb190) := ⟨h10_⟩
        have n11_ : Aside0 (Below w.heap.size w w35) := ⟨h11_⟩
        clear BK189
        clear BK190
        clear HB
        clear h0_ h1_ h2_ h3_ h4_ h5_ h6_ h7_ h8_ h9_ h10_ h11_
        have HO196 := n0_
        have HO199 := n1_
        have BK189 := n2_
        have BK190 := n3_
        have BK200 := n4_
        have GW200 := n5_
        have GE200 := n6_
        have NB189_200 := n7_
        have NB200_189 := n8_
        have NB190_200 := n9_
        have NB200_190 := n10_
        have HB := n11_
        clear n0_ n1_ n2_ n3_ n4_ n5_ n6_ n7_ n8_ n9_ n10_ n11_
        have hHeld : w35.cell? ⟨gb189, 0, none⟩ = some (.int .i64 a0_0) ∧ w35.cell? ⟨gb189, 1, none⟩ = some (.slice A0_1 l0_1.length c0_1) ∧ w35.cell? ⟨gb189, 2, none⟩ = some (.slice A0_2 l0_2.length c0_2) := hS_
        obtain ⟨Ao36, co36, eo36⟩ := Kd.R_slice HO199.out
        (first | subst eo36 | (injection eo36 with f1_ f2_ f3_; obtain rfl := f1_.symm; obtain rfl := f3_.symm))
        obtain ⟨Ao37, co37, eo37⟩ := Kd.R_slice HO196.out
        (first | subst eo37 | (injection eo37 with f1_ f2_ f3_; obtain rfl := f1_.symm; obtain rfl := f3_.symm))
        refine norm_ (a' := ?_) ?_ ?_
        rotate_left
        ·simp only [putAll, Act.put, sB, sC, sD]
         rfl
        refine one_ (i := 10) (N := none) #[true, true, true, true, true, true, true, true, true, true, true] rfl rfl (one_of HT_.out (by kernel_rfl)) (by decide) (fun K hK => ?_)
        have hs38 : w35.cell? ⟨gb200, 0, none⟩ = some (.int .i64 0) := (blk_cell BK200.out 0).trans rfl
        have hfs38 := blk_frozen BK200.out 0
        have hns38_0 := NB189_200.out
        have hns38_1 := NB190_200.out
        have hms38_0 := NB200_189.out
        have hms38_1 := NB200_190.out
        have hs39 : w35.cell? ⟨gb200, 1, none⟩ = some (.slice none 0 0) := (blk_cell BK200.out 1).trans rfl
        have hfs39 := blk_frozen BK200.out 1
        have hns39_0 := NB189_200.out
        have hns39_1 := NB190_200.out
        have hms39_0 := NB200_189.out
        have hms39_1 := NB200_190.out
        have hs40 : w35.cell? ⟨gb200, 2, none⟩ = some (.slice none 0 0) := (blk_cell BK200.out 2).trans rfl
        have hfs40 := blk_frozen BK200.out 2
        have hns40_0 := NB189_200.out
        have hns40_1 := NB190_200.out
        have hms40_0 := NB200_189.out
        have hms40_1 := NB200_190.out
        refine skip_ (w1 := ?_) ?_ ?_ ?_ ?_
        rotate_left
        ·rfl
        ·rfl
        ·go_simp
         rfl
        refine hK.out _ _ ⟨((cell_far (p := ⟨gb200, _, none⟩) NB189_200.out _).trans (((cell_far (p := ⟨gb200, _, none⟩) NB189_200.out _).trans (((cell_far (p := ⟨gb200, _, none⟩) NB189_200.out _).trans (hHeld.1)))))), ((cell_far (p := ⟨gb200, _, none⟩) NB189_200.out _).trans (((cell_far (p := ⟨gb200, _, none⟩) NB189_200.out _).trans (((cell_far (p := ⟨gb200, _, none⟩) NB189_200.out _).trans (hHeld.2.1)))))), ((cell_far (p := ⟨gb200, _, none⟩) NB189_200.out _).trans (((cell_far (p := ⟨gb200, _, none⟩) NB189_200.out _).trans (((cell_far (p := ⟨gb200, _, none⟩) NB189_200.out _).trans (hHeld.2.2))))))⟩ (fun hHeld => ?_)
        clear hK K
        refine done_ (done_of HT_.out (by kernel_rfl)) ?_
        try go_wp2_with (first | ((with_reducible refine gate_callee (f := 7) rfl ?_); refine goesL_ (some 58) rfl rfl Try.func7 (by kernel_rfl) rfl #[.int .i64 a1, .int .i64 a2, .int .i64 a3, .int .i64 a4] rfl (by (try simp only [lA, lB, lC]); first | done | rfl | (simp only [lD, lE]; rfl)) ?_; (with_reducible refine (impl_LineCells.calls kj9 a1 a2 a3 a4 t201 _ A28.out).mono ?_); rintro e w41 ⟨v202, rfl, ho0, hb⟩; refine ⟨_, rfl, ?_⟩; have HO203 := a_ (Kd.S_lower (Kd.S_new' (Kd.S_new' ho0 (Kd.R_lt (rk (Kd.R_mono (fr3 HO196.out BK200.out (by decide) 0 (.int .i64 a0_0) 1 (.slice Ao37 y194.length co37) 2 (.slice Ao36 y197.length co36)) (fun _ h_ => h_.1))))) (Kd.R_lt (rk (Kd.R_mono (fr3 HO199.out BK200.out (by decide) 0 (.int .i64 a0_0) 1 (.slice Ao37 y194.length co37) 2 (.slice Ao36 y197.length co36)) (fun _ h_ => h_.1))))) (bs HB.out)); replace HO196 := a_ (Kd.R_below (rk (Kd.R_mono (fr3 HO196.out BK200.out (by decide) 0 (.int .i64 a0_0) 1 (.slice Ao37 y194.length co37) 2 (.slice Ao36 y197.length co36)) (fun _ h_ => h_.1))) hb); replace HO199 := a_ (Kd.R_below (rk (Kd.R_mono (fr3 HO199.out BK200.out (by decide) 0 (.int .i64 a0_0) 1 (.slice Ao37 y194.length co37) 2 (.slice Ao36 y197.length co36)) (fun _ h_ => h_.1))) hb); replace BK189 := a_ (blk_below (g := gb189) (o := .cells #[.int .i64 a0_0, .slice A0_1 l0_1.length c0_1, .slice A0_2 l0_2.length c0_2] 31 (0, 0)) (by refine pk ?_; refine blk_far ?_ NB189_200.out _; refine pk ?_; refine blk_far ?_ NB189_200.out _; refine pk ?_; refine blk_far ?_ NB189_200.out _; refine pk ?_; exact BK189.out) hb); replace BK190 := a_ (blk_below (g := gb190) (o := .cells #[.int .i64 0, .slice none 0 0, .slice none 0 0] 31 (0, 0)) (by refine pk ?_; refine blk_far ?_ NB190_200.out _; refine pk ?_; refine blk_far ?_ NB190_200.out _; refine pk ?_; refine blk_far ?_ NB190_200.out _; refine pk ?_; exact BK190.out) hb); replace BK200 := a_ (blk_below (g := gb200) (o := .cells #[.int .i64 a0_0, .slice Ao37 y194.length co37, .slice Ao36 y197.length co36] 31 (0, 0)) (by refine pk ?_; refine blk_put (cs := #[.int .i64 a0_0, .slice Ao37 y194.length co37, .slice none 0 0]) ?_ 2 _ rfl; refine pk ?_; refine blk_put (cs := #[.int .i64 a0_0, .slice none 0 0, .slice none 0 0]) ?_ 1 _ rfl; refine pk ?_; refine blk_put (cs := #[.int .i64 0, .slice none 0 0, .slice none 0 0]) ?_ 0 _ rfl; refine pk ?_; exact BK200.out) hb); replace HB := a_ (below_step (by repeat (with_reducible first | exact HB.out | refine bz ?_ (by assumption) | apply bA | apply bN | apply bD)) hb); clear hb ho0; obtain ⟨Ao42, co42, eo42⟩ := Kd.S_slice HO203.out; subst eo42))
        go_loopg [61] kj9 (fun kq v61 w' => ∃ (x61_2 : Int) (x201001_2 : List Int) (x201002_2 : List Int) (u201001 : Value) (u201002 : Value), v61 = .int .i64 x61_2 ∧ Aside0 (impl_AddRay.l0 kq a5 t201 t201 (t201.length : Int) x61_2 a0_0 l0_1 l0_2 a0_0 x201001_2 x201002_2 = some (r1, r2, r3, r4)) ∧ Aside0 (kq ≤ kj9) ∧ Aside0 (Kd.S (Kd.slice 3 (Kd.int .i64)) 27 w' w.heap.size (fun k_ => some k_ ≠ (u201001 : Value).ownBlock ∧ some k_ ≠ (u201002 : Value).ownBlock) (.slice Ao42 t201.length co42) t201) ∧ Aside0 (Kd.S (Kd.slice 3 (Kd.int .i64)) 27 w' w.heap.size (fun k_ => some k_ ≠ (u201001 : Value).ownBlock ∧ some k_ ≠ (u201002 : Value).ownBlock) (.slice Ao42 t201.length co42) t201) ∧ Aside0 (Kd.R (Kd.int .i64) 3 w' w.heap.size (fun k_ => some k_ ≠ (u201002 : Value).ownBlock) u201001 x201001_2) ∧ Aside0 (Kd.R (Kd.int .i64) 3 w' w.heap.size (fun k_ => some k_ ≠ (u201001 : Value).ownBlock) u201002 x201002_2) ∧ Aside0 (w'.heap[gb189]? = some (.cells #[.int .i64 a0_0, (.slice A0_1 l0_1.length c0_1), (.slice A0_2 l0_2.length c0_2)] 31 (0, 0))) ∧ Aside0 (w'.heap[gb190]? = some (.cells #[.int .i64 0, (.slice none 0 0), (.slice none 0 0)] 31 (0, 0))) ∧ Aside0 (w'.heap[gb200]? = some (.cells #[.int .i64 a0_0, u201001, u201002] 31 (0, 0))) ∧ Aside0 (Below w.heap.size w w'))
        case atStart => exact ⟨(0), (y194), (y197), (.slice Ao37 y194.length co37), (.slice Ao36 y197.length co36), (by first | rfl | (simp; done) | (simp [*]; done)), H', ⟨Nat.le_refl _⟩, ⟨by (with_reducible repeat (first | apply Kd.S_alloc | apply Kd.S_drewN | apply Kd.S_drew)); exact Kd.S_mono HO203.out (fun _ hk => ⟨hk.1.2, hk.2⟩)⟩, ⟨by (with_reducible repeat (first | apply Kd.S_alloc | apply Kd.S_drewN | apply Kd.S_drew)); exact Kd.S_mono HO203.out (fun _ hk => ⟨hk.1.2, hk.2⟩)⟩, ⟨rk (HO196.out)⟩, ⟨rk (HO199.out)⟩, ⟨pk BK189.out⟩, ⟨pk BK190.out⟩, ⟨pk BK200.out⟩, ⟨by repeat (with_reducible first | exact HB.out | refine bz ?_ (by assumption) | apply bA | apply bN | apply bD)⟩⟩
        case round =>
         clear H'
         try clear c1; try clear c2; try clear p2; try clear c3; try clear p6; try clear c7; try clear c8; try clear c9; try clear c9b0; try clear c9b1; try clear c13; try clear c14; try clear c18; try clear c23; try clear c24; try clear c26; try clear c27; try clear c32; try clear hcz14_0; try clear hcz14_1; try clear hcz14_2; try clear hcz16_0; try clear hcz16_1; try clear hcz16_2; try clear hcz25_0; try clear hcz25_1; try clear hcz25_2; try clear hfz14_0; try clear hfz14_1; try clear hfz14_2; try clear hfz16_0; try clear hfz16_1; try clear hfz16_2; try clear hfz25_0; try clear hfz25_1; try clear hfz25_2; try clear p2; try clear p6
         obtain ⟨x61_2, x201001_2, x201002_2, u201001, u201002, rfl, HA, HK2, HO_17, HO_59, HO_201001, HO_201002, BK189, BK190, BK200, HB⟩ := hrel
         cases gk with
         | zero => exact absurd HA.out (by simp [impl_AddRay.l0])
         | succ k2 =>
          have H := HA.out
          clear HA
          simp only [impl_AddRay.l0] at H
          by_cases c43 : x61_2 < (t201.length : Int)
          ·rw [if_pos c43] at H
           have c43b0 : decide (x61_2 < (t201.length : Int)) = true := decide_eq_true c43
           clear c43
           by_cases c44 : 0 ≤ x61_2
           ·rw [if_pos c44] at H
            have c44b0 : decide (0 ≤ x61_2) = true := decide_eq_true c44
            clear c44
            by_cases c45 : x61_2 < (t201.length : Int)
            ·rw [if_pos c45] at H
             have c45b0 : decide (x61_2 < (t201.length : Int)) = true := decide_eq_true c45
             clear c45
             by_cases c46 : x61_2 = (wrap64 ((t201.length : Int) - 1))
             ·rw [if_pos c46] at H
              have c46b0 : (x61_2 == (wrap64 ((t201.length : Int) - 1))) = true := beq_iff_eq.mpr c46
              have c46b1 : (x61_2 != (wrap64 ((t201.length : Int) - 1))) = false := bne_eq_false_iff_eq.mpr c46
              clear c46
              by_cases c47 : a5 = true
              ·subst c47
               have H1 : (if 1 < ((rd_L1 t201 x61_2).length : Int) then (if 0 < ((rd_L1 t201 x61_2).length : Int) then (if 0 ≤ (wrap64 ((wrap64 ((rd (rd_L1 t201 x61_2) 1) * a0_0)) + (rd (rd_L1 t201 x61_2) 0))) then (if (wrap64 ((wrap64 ((rd (rd_L1 t201 x61_2) 1) * a0_0)) + (rd (rd_L1 t201 x61_2) 0))) < (x201001_2.length : Int) then (impl_AddRay.l0 k2 true t201 t201 (t201.length : Int) (wrap64 (x61_2 + 1)) a0_0 l0_1 l0_2 a0_0 (x201001_2.set ((wrap64 ((wrap64 ((rd (rd_L1 t201 x61_2) 1) * a0_0)) + (rd (rd_L1 t201 x61_2) 0))) : Int).toNat (wrap64 ((rd x201001_2 (wrap64 ((wrap64 ((rd (rd_L1 t201 x61_2) 1) * a0_0)) + (rd (rd_L1 t201 x61_2) 0)))) + 1))) x201002_2) else (none)) else (none)) else (none)) else (none)) = some (r1, r2, r3, r4) := by rw [if_pos rfl] at H; exact H
               clear H
               have H := H1
               clear H1
               by_cases c48 : 1 < ((rd_L1 t201 x61_2).length : Int)
               ·rw [if_pos c48] at H
                have c48b0 : decide (1 < ((rd_L1 t201 x61_2).length : Int)) = true := decide_eq_true c48
                have c48b1 : decide (1 < (rd_L1 t201 x61_2).length) = true := decide_eq_true (by omega)
                clear c48
                by_cases c49 : 0 < ((rd_L1 t201 x61_2).length : Int)
                ·rw [if_pos c49] at H
                 have c49b0 : decide (0 < ((rd_L1 t201 x61_2).length : Int)) = true := decide_eq_true c49
                 have c49b1 : decide (0 < (rd_L1 t201 x61_2).length) = true := decide_eq_true (by omega)
                 clear c49
                 obtain ⟨ji50, hji50⟩ : ∃ j_ : Int, (wrap64 ((wrap64 ((rd (rd_L1 t201 x61_2) 1) * a0_0)) + (rd (rd_L1 t201 x61_2) 0))) = j_ := ⟨_, rfl⟩
                 replace H : (if 0 ≤ (ji50) then (if (ji50) < (x201001_2.length : Int) then (impl_AddRay.l0 k2 true t201 t201 (t201.length : Int) (wrap64 (x61_2 + 1)) a0_0 l0_1 l0_2 a0_0 (x201001_2.set ((ji50) : Int).toNat (wrap64 ((rd x201001_2 (ji50)) + 1))) x201002_2) else (none)) else (none)) = some (r1, r2, r3, r4) := by first | (rw [hji50] at H; exact H) | (simp only [hji50] at H ⊢; exact H)
                 have hji50w : (IntKind.i64.wrap ((wrap64 ((rd (rd_L1 t201 x61_2) 1) * a0_0)) + (rd (rd_L1 t201 x61_2) 0))) = ji50 := (i64_w _).trans hji50
                 by_cases c51 : 0 ≤ (ji50)
                 ·rw [if_pos c51] at H
                  have c51b0 : decide (0 ≤ (ji50)) = true := decide_eq_true c51
                  clear c51
                  by_cases c52 : (ji50) < (x201001_2.length : Int)
                  ·rw [if_pos c52] at H
                   have c52b0 : decide ((ji50) < (x201001_2.length : Int)) = true := decide_eq_true c52
                   clear c52
                   obtain ⟨y208, hy208⟩ : ∃ y_ : List Int, y_ = (x201001_2.set ((ji50) : Int).toNat (wrap64 ((rd x201001_2 (ji50)) + 1))) := ⟨_, rfl⟩
                   replace H : (impl_AddRay.l0 k2 true t201 t201 (t201.length : Int) (wrap64 (x61_2 + 1)) a0_0 l0_1 l0_2 a0_0 y208 x201002_2) = some (r1, r2, r3, r4) := by first | (rw [hy208]; with_reducible exact H) | (have H2_ := (Option.bind_some _ _).symm.trans H; rw [hy208]; with_reducible exact H2_) | (have H2_ := (Option.bind_some _ _).symm.trans H; with_reducible exact H2_) | with_reducible exact H | (rw [hy208]; exact H) | exact H
                   have Ny208 := Aside0.mk hy208
                   clear hy208
                   have H' := Aside0.mk H
                   clear H
                   have p204 : 0 ≤ (x61_2 : Int) := of_decide_eq_true (by first | (with_reducible assumption) | assumption)
                   have q204 : x61_2 < (t201.length : Int) := of_decide_eq_true (by first | (with_reducible assumption) | assumption)
                   obtain ⟨ad204, A204_0, c204_0, e204, hx204_0, hl204_0, hi204_0⟩ := at_L1 (Kd.S_reads' HO_59.out).2.2 x61_2 p204 q204
                   cases e204
                   obtain ⟨ce204, hce204, hMe204, hcc204⟩ := Kd.S_get HO_59.out [] x61_2 p204 (by first | exact q204 | exact of_decide_eq_true (by first | (with_reducible assumption) | assumption) | (have e_ := (Kd.S_reads' HO_59.out).1; omega))
                   obtain ⟨ve204_0, rfl, ge204_0⟩ := hMe204
                   have hv204_0 := hcc204 0 _ rfl
                   rw [Nat.add_zero, show ((Kd.slice 3 (Kd.int .i64))).sz = 1 from rfl, Nat.mul_one] at hv204_0
                   replace hv204_0 := Option.some.inj (hv204_0.symm.trans hx204_0)
                   rw [hv204_0] at ge204_0
                   have HL204_0 := a_ (show Kd.R (Kd.int .i64) 3 _ _ _ _ (rd_L1 t201 x61_2) from ge204_0)
                   clear hv204_0 ge204_0
                   clear hcc204 hce204
                   have HR204_0 := Aside0.mk hi204_0
                   have HC204_0 := Aside0.mk hl204_0
                   clear hi204_0 hl204_0
                   replace p204 := eq_true p204
                   replace q204 := eq_true q204
                   have hnb54 := NB200_189.out
                   have hnc54 := NB189_200.out
                   have hnb55 := NB200_190.out
                   have hnc55 := NB190_200.out
                   have hcz56_0 : wr.cell? ⟨gb200, 0, none⟩ = some (.int .i64 a0_0) := (blk_cell BK200.out 0).trans rfl
                   have hcz56_1 : wr.cell? ⟨gb200, 1, none⟩ = some (u201001) := (blk_cell BK200.out 1).trans rfl
                   have hcz56_2 : wr.cell? ⟨gb200, 2, none⟩ = some (u201002) := (blk_cell BK200.out 2).trans rfl
                   have hfz56_0 := blk_frozen BK200.out 0
                   have hfz56_1 := blk_frozen BK200.out 1
                   have hfz56_2 := blk_frozen BK200.out 2
                   try go_wp2
                   replace HO_17 := a_ (Kd.S_drew HO_17.out)
                   replace HO_59 := a_ (Kd.S_drew HO_59.out)
                   replace HO_201001 := a_ (Kd.R_drew HO_201001.out)
                   replace HO_201002 := a_ (Kd.R_drew HO_201002.out)
                   replace HL204_0 := a_ (Kd.R_drew HL204_0.out)
                   replace BK189 := a_ (blk_drew BK189.out)
                   replace BK190 := a_ (blk_drew BK190.out)
                   replace BK200 := a_ (blk_drew BK200.out)
                   replace HR204_0 := a_ (Kd.C_drew HR204_0.out)
                   replace HB := a_ (below_drew1 HB.out)
                   have p205 : 0 ≤ (1 : Int) := (by omega)
                   have q205 : 1 < ((rd_L1 t201 x61_2).length : Int) := of_decide_eq_true (by first | (with_reducible assumption) | assumption)
                   obtain ⟨ad205, e205, hx205_0⟩ := Kd.at_int (by repeat (first | (with_reducible exact HR204_0.out) | (with_reducible refine Kd.C_alloc ?_ _) | (with_reducible refine Kd.C_drewN ?_ _) | (with_reducible refine Kd.C_drew ?_) | exact HR204_0.out)) 1 p205 q205
                   cases e205
                   (try simp only [show (1 : Int).toNat = 1 from rfl, Nat.reduceMul, Nat.reduceEqDiff, Go.Addr.add, ↓reduceIte] at hx205_0)
                   have qi205 : (1 < (rd_L1 t201 x61_2).length) = True := eq_true (by omega)
                   (try rw [show ((1 : Int)).toNat = 1 from rfl] at hx205_0)
                   replace p205 := eq_true p205
                   replace q205 := eq_true q205
                   have p206 : 0 ≤ (0 : Int) := (by omega)
                   have q206 : 0 < ((rd_L1 t201 x61_2).length : Int) := of_decide_eq_true (by first | (with_reducible assumption) | assumption)
                   obtain ⟨ad206, e206, hx206_0⟩ := Kd.at_int (by repeat (first | (with_reducible exact HR204_0.out) | (with_reducible refine Kd.C_alloc ?_ _) | (with_reducible refine Kd.C_drewN ?_ _) | (with_reducible refine Kd.C_drew ?_) | exact HR204_0.out)) 0 p206 q206
                   obtain rfl : ad205 = ad206 := (by injection e206)
                   have qi206 : (0 < (rd_L1 t201 x61_2).length) = True := eq_true (by omega)
                   (try rw [show ((0 : Int)).toNat = 0 from rfl] at hx206_0)
                   (try rw [Addr.add_zero'] at hx206_0)
                   replace p206 := eq_true p206
                   replace q206 := eq_true q206
                   obtain ⟨Ao58, co58, eo58⟩ := Kd.R_slice HO_201001.out
                   (first | subst eo58 | (injection eo58 with f1_ f2_ f3_; obtain rfl := f1_.symm; obtain rfl := f3_.symm))
                   have p207 : 0 ≤ ((ji50) : Int) := of_decide_eq_true (by first | (with_reducible assumption) | assumption)
                   have q207 : (ji50) < (x201001_2.length : Int) := of_decide_eq_true (by first | (with_reducible assumption) | assumption)
                   obtain ⟨ad207, e207, hx207_0⟩ := Kd.at_int (Kd.R_reads' HO_201001.out).2.2 (ji50) p207 q207
                   cases e207
                   replace p207 := eq_true p207
                   replace q207 := eq_true q207
                   have p53 : 0 ≤ ((ji50) : Int) := of_decide_eq_true (by first | (with_reducible assumption) | assumption)
                   have q53 : ((ji50) : Int) < ((x201001_2.length : Int) : Int) := of_decide_eq_true (by first | (with_reducible assumption) | assumption)
                   obtain ⟨go53, co53, eo53, gb53, gl53, cl53, HG53⟩ := Kd.R_form HO_201001.out (by omega)
                   (first | cases eo53 | (injection eo53 with ea_ en_ ec_; (first | subst ea_ | (injection ea_ with ea_; subst ea_)); subst ec_; clear en_))
                   have GB53 := Aside0.mk gb53
                   have GG53 := Aside0.mk HG53
                   clear gb53 gl53 HG53
                   (first | simp only [add_plain] at hx207_0 | skip)
                   obtain ⟨hx53_0, hf53_0⟩ := Kd.R_celln 0 HO_201001.out ((ji50) : Int) p53 q53
                   replace p53 := eq_true p53
                   replace q53 := eq_true q53
                   have HP59 := Kd.R_putn HO_201001.out ((ji50) : Int) (wrap64 ((rd x201001_2 (ji50)) + 1))
                   rw [← Ny208.out] at HP59
                   have HQ59 := Aside0.mk HP59
                   clear HP59
                   refine start_ (n := 16) (S := fun w' => w'.cell? ⟨gb189, 0, none⟩ = some (.int .i64 a0_0) ∧ w'.cell? ⟨gb189, 1, none⟩ = some (.slice A0_1 l0_1.length c0_1) ∧ w'.cell? ⟨gb189, 2, none⟩ = some (.slice A0_2 l0_2.length c0_2) ∧ w'.cell? ⟨ad205.block, ad205.off + 1, none⟩ = some (.int .i64 (rd (rd_L1 t201 x61_2) 1)) ∧ w'.cell? ad205 = some (.int .i64 (rd (rd_L1 t201 x61_2) 0)) ∧ w'.cell? ⟨go53, ((ji50)).toNat, none⟩ = some (.int .i64 (rd x201001_2 (ji50)))) (ds := [15]) #[false, false, false, false, false, false, false, false, false, false, false, false, false, false, false, false] (by kernel_rfl) rfl rfl ⟨(blk_cell BK189.out 0).trans rfl, (blk_cell BK189.out 1).trans rfl, (blk_cell BK189.out 2).trans rfl, hx205_0, hx206_0, hx207_0⟩ (fun hHeld => ?_); refine with_tabW impl_AddRay.tab15 impl_AddRay.bits15 (fun HT_ HW_ => ?_)
                   generalize wr.drew = w57 at HO_17 HO_59 HO_201001 HO_201002 HL204_0 BK189 BK190 BK200 HR204_0 HB GG53 HQ59 hf53_0 hx205_0 hx206_0 hx207_0 hx53_0 hHeld ⊢
                   refine pure_ (i := 0) (N := some 78) (v := ?_) (a' := ?_) #[true, false, false, false, false, false, false, false, false, false, false, false, false, false, false, false] rfl rfl (any_of HT_.out (by kernel_rfl)) (fun _ _ _ h => h) (Or.inl ⟨by rfl, ?_⟩) ?_ ?_
                   rotate_left
                   ·intro w'
                    go_simp
                    with_reducible rfl
                   rotate_left
                   ·simp only [Act.put, sB, sC, sD, i64_w, i32_w]
                    rfl
                   refine pure_ (i := 1) (N := some 79) (v := ?_) (a' := ?_) #[true, true, false, false, false, false, false, false, false, false, false, false, false, false, false, false] rfl rfl (any_of HT_.out (by kernel_rfl)) (fun _ _ _ h => h) (Or.inl ⟨by rfl, ?_⟩) ?_ ?_
                   rotate_left
                   ·intro w'
                    go_simp
                    with_reducible rfl
                   rotate_left
                   ·simp only [Act.put, sB, sC, sD, i64_w, i32_w]
                    rfl
                   refine pure_ (i := 2) (N := some 80) (v := ?_) (a' := ?_) #[true, true, true, false, false, false, false, false, false, false, false, false, false, false, false, false] rfl rfl (any_of HT_.out (by kernel_rfl)) (fun _ _ _ h => h) (Or.inl ⟨by rfl, ?_⟩) ?_ ?_
                   rotate_left
                   ·intro w'
                    go_simp
                    with_reducible rfl
                   rotate_left
                   ·simp only [Act.put, sB, sC, sD, i64_w, i32_w]
                    rfl
                   refine pure_ (i := 4) (N := some 82) (v := ?_) (a' := ?_) #[true, true, true, false, true, false, false, false, false, false, false, false, false, false, false, false] rfl rfl (any_of HT_.out (by kernel_rfl)) (fun _ _ _ h => h) (Or.inl ⟨by rfl, ?_⟩) ?_ ?_
                   rotate_left
                   ·intro w'
                    go_simp
                    with_reducible rfl
                   rotate_left
                   ·simp only [Act.put, sB, sC, sD, i64_w, i32_w]
                    rfl
                   refine pure_ (i := 7) (N := some 85) (v := ?_) (a' := ?_) #[true, true, true, false, true, false, false, true, false, false, false, false, false, false, false, false] rfl rfl (any_of HT_.out (by kernel_rfl)) (fun _ _ _ h => h) (Or.inl ⟨by rfl, ?_⟩) ?_ ?_
                   rotate_left
                   ·intro w'
                    go_simp
                    with_reducible rfl
                   rotate_left
                   ·simp only [Act.put, sB, sC, sD, i64_w, i32_w]
                    rfl
                   refine pure_ (i := 8) (N := some 86) (v := ?_) (a' := ?_) #[true, true, true, false, true, false, false, true, true, false, false, false, false, false, false, false] rfl rfl (any_of HT_.out (by kernel_rfl)) (fun _ _ _ h => h) (Or.inl ⟨by rfl, ?_⟩) ?_ ?_
                   rotate_left
                   ·intro w'
                    go_simp
                    with_reducible rfl
                   rotate_left
                   ·simp only [Act.put, sB, sC, sD, i64_w, i32_w]
                    rfl
                   refine take_ (i := 3) (N := some 81) (v := ?_) (a' := ?_) #[true, true, true, true, true, false, false, true, true, false, false, false, false, false, false, false] rfl rfl (take_ofW HT_.out HW_.out (by kernel_rfl)) (fun _ _ _ h => h) (Or.inl ⟨by rfl, ?_⟩) hHeld ?_ ?_
                   rotate_left
                   ·rintro w' ⟨s0, s1, s2, s3, s4, s5⟩
                    go_simp
                    with_reducible rfl
                   rotate_left
                   ·simp only [Act.put, sB, sC, sD, i64_w, i32_w]
                    rfl
                   refine take_ (i := 5) (N := some 83) (v := ?_) (a' := ?_) #[true, true, true, true, true, true, false, true, true, false, false, false, false, false, false, false] rfl rfl (take_ofW HT_.out HW_.out (by kernel_rfl)) (fun _ _ _ h => h) (Or.inl ⟨by rfl, ?_⟩) hHeld ?_ ?_
                   rotate_left
                   ·rintro w' ⟨s0, s1, s2, s3, s4, s5⟩
                    go_simp
                    with_reducible rfl
                   rotate_left
                   ·simp only [Act.put, sB, sC, sD, i64_w, i32_w]
                    rfl
                   refine pure_ (i := 6) (N := some 84) (v := ?_) (a' := ?_) #[true, true, true, true, true, true, true, true, true, false, false, false, false, false, false, false] rfl rfl (any_of HT_.out (by kernel_rfl)) (fun _ _ _ h => h) (Or.inl ⟨by rfl, ?_⟩) ?_ ?_
                   rotate_left
                   ·intro w'
                    go_simp
                    with_reducible rfl
                   rotate_left
                   ·simp only [Act.put, sB, sC, sD, i64_w, i32_w]
                    rfl
                   refine take_ (i := 9) (N := some 87) (v := ?_) (a' := ?_) #[true, true, true, true, true, true, true, true, true, true, false, false, false, false, false, false] rfl rfl (take_ofW HT_.out HW_.out (by kernel_rfl)) (fun _ _ _ h => h) (Or.inl ⟨by rfl, ?_⟩) hHeld ?_ ?_
                   rotate_left
                   ·rintro w' ⟨s0, s1, s2, s3, s4, s5⟩
                    go_simp
                    with_reducible rfl
                   rotate_left
                   ·simp only [Act.put, sB, sC, sD, i64_w, i32_w]
                    rfl
                   refine pure_ (i := 10) (N := some 88) (v := ?_) (a' := ?_) #[true, true, true, true, true, true, true, true, true, true, true, false, false, false, false, false] rfl rfl (any_of HT_.out (by kernel_rfl)) (fun _ _ _ h => h) (Or.inl ⟨by rfl, ?_⟩) ?_ ?_
                   rotate_left
                   ·intro w'
                    go_simp
                    with_reducible rfl
                   rotate_left
                   ·simp only [Act.put, sB, sC, sD, i64_w, i32_w]
                    rfl
                   refine pure_ (i := 11) (N := some 89) (v := ?_) (a' := ?_) #[true, true, true, true, true, true, true, true, true, true, true, true, false, false, false, false] rfl rfl (any_of HT_.out (by kernel_rfl)) (fun _ _ _ h => h) (Or.inl ⟨by rfl, ?_⟩) ?_ ?_
                   rotate_left
                   ·intro w'
                    go_simp
                    with_reducible rfl
                   rotate_left
                   ·simp only [Act.put, sB, sC, sD, i64_w, i32_w]
                    rfl
                   refine take_ (i := 12) (N := some 90) (v := ?_) (a' := ?_) #[true, true, true, true, true, true, true, true, true, true, true, true, true, false, false, false] rfl rfl (take_ofW HT_.out HW_.out (by kernel_rfl)) (fun _ _ _ h => h) (Or.inl ⟨by rfl, ?_⟩) hHeld ?_ ?_
                   rotate_left
                   ·rintro w' ⟨s0, s1, s2, s3, s4, s5⟩
                    go_simp
                    with_reducible rfl
                   rotate_left
                   ·simp only [Act.put, sB, sC, sD, i64_w, i32_w]
                    rfl
                   refine pure_ (i := 13) (N := some 91) (v := ?_) (a' := ?_) #[true, true, true, true, true, true, true, true, true, true, true, true, true, true, false, false] rfl rfl (any_of HT_.out (by kernel_rfl)) (fun _ _ _ h => h) (Or.inl ⟨by rfl, ?_⟩) ?_ ?_
                   rotate_left
                   ·intro w'
                    go_simp
                    with_reducible rfl
                   rotate_left
                   ·simp only [Act.put, sB, sC, sD, i64_w, i32_w]
                    rfl
                   refine pure_ (i := 14) (N := some 92) (v := ?_) (a' := ?_) #[true, true, true, true, true, true, true, true, true, true, true, true, true, true, true, false] rfl rfl (any_of HT_.out (by kernel_rfl)) (fun _ _ _ h => h) (Or.inl ⟨by rfl, ?_⟩) ?_ ?_
                   rotate_left
                   ·intro w'
                    go_simp
                    with_reducible rfl
                   rotate_left
                   ·simp only [Act.put, sB, sC, sD, i64_w, i32_w]
                    rfl
                   refine last_ (i := 15) (N := none) #[true, true, true, true, true, true, true, true, true, true, true, true, true, true, true, true] rfl rfl (one_of HT_.out (by kernel_rfl)) (by decide) (fun K hK => ?_)
                   refine skip_ (w1 := ?_) ?_ ?_ ?_ ?_
                   rotate_left
                   ·rfl
                   ·rfl
                   ·go_simp
                    rfl
                   refine hK.out _ _ ?_
                   clear hK K
                   refine done_ (done_of HT_.out (by kernel_rfl)) ?_
                   try go_wp2
                   go_roundg k2
                   case measure => have := HJ9.out; have := HK2.out; omega
                   case rel => exact ⟨(wrap64 (x61_2 + 1)), (y208), (x201002_2), (.slice (some ⟨go53, 0, none⟩) x201001_2.length co58), (u201002), (by first | rfl | (simp; done) | (simp [*]; done)), H', ⟨by have := HJ9.out; have := HK2.out; omega⟩, ⟨by (with_reducible repeat (first | apply Kd.S_alloc | apply Kd.S_drewN | apply Kd.S_drew)); exact Kd.S_mono (Kd.S_far (p := ⟨go53, ((ji50) : Int).toNat, none⟩) (Kd.S_mono HO_17.out (fun k_ hk => (⟨hk, fun e_ => hk.1 (by rw [e_]; rfl)⟩ : _ ∧ k_ ≠ go53))) (fun _ hk => hk.2) (.int .i64 (wrap64 ((rd x201001_2 (ji50)) + 1)))) (fun _ hk => hk.1)⟩, ⟨by (with_reducible repeat (first | apply Kd.S_alloc | apply Kd.S_drewN | apply Kd.S_drew)); exact Kd.S_mono (Kd.S_far (p := ⟨go53, ((ji50) : Int).toNat, none⟩) (Kd.S_mono HO_59.out (fun k_ hk => (⟨hk, fun e_ => hk.1 (by rw [e_]; rfl)⟩ : _ ∧ k_ ≠ go53))) (fun _ hk => hk.2) (.int .i64 (wrap64 ((rd x201001_2 (ji50)) + 1)))) (fun _ hk => hk.1)⟩, ⟨by refine rk ?_; exact HQ59.out⟩, ⟨rk (Kd.R_mono (Kd.R_far (p := ⟨go53, ((ji50) : Int).toNat, none⟩) (Kd.R_mono HO_201002.out (fun k_ hk => (⟨hk, fun e_ => hk (by rw [e_]; rfl)⟩ : _ ∧ k_ ≠ go53))) (fun _ hk => hk.2) (.int .i64 (wrap64 ((rd x201001_2 (ji50)) + 1)))) (fun _ hk => hk.1))⟩, ⟨by refine pk ?_; refine blk_far ?_ (by have h_ := Kd.R_ne HO_201001.out BK189.out (by decide); intro e_; exact h_ (by rw [e_]; rfl)) _; refine pk ?_; exact BK189.out⟩, ⟨by refine pk ?_; refine blk_far ?_ (by have h_ := Kd.R_ne HO_201001.out BK190.out (by decide); intro e_; exact h_ (by rw [e_]; rfl)) _; refine pk ?_; exact BK190.out⟩, ⟨by refine pk ?_; refine blk_far ?_ (by have h_ := Kd.R_ne HO_201001.out BK200.out (by decide); intro e_; exact h_ (by rw [e_]; rfl)) _; refine pk ?_; exact BK200.out⟩, ⟨by repeat (first | (with_reducible first | exact HB.out | apply below_alloc | apply pw_below_drewN | apply below_drew1 | refine below_set ?_ GB53.out | refine below_set ?_ GE189.out | refine below_set ?_ GE190.out | refine below_set ?_ GE200.out) | exact HB.out)⟩⟩
                  ·rw [if_neg c52] at H
                   exact absurd H (by simp)
                 ·rw [if_neg c51] at H
                  exact absurd H (by simp)
                ·rw [if_neg c49] at H
                 exact absurd H (by simp)
               ·rw [if_neg c48] at H
                exact absurd H (by simp)
              ·replace c47 := Bool.eq_false_iff.mpr c47
               subst c47
               have H1 : (if 1 < ((rd_L1 t201 x61_2).length : Int) then (if 0 < ((rd_L1 t201 x61_2).length : Int) then (if 0 ≤ (wrap64 ((wrap64 ((rd (rd_L1 t201 x61_2) 1) * a0_0)) + (rd (rd_L1 t201 x61_2) 0))) then (if (wrap64 ((wrap64 ((rd (rd_L1 t201 x61_2) 1) * a0_0)) + (rd (rd_L1 t201 x61_2) 0))) < (x201002_2.length : Int) then (impl_AddRay.l0 k2 false t201 t201 (t201.length : Int) (wrap64 (x61_2 + 1)) a0_0 l0_1 l0_2 a0_0 x201001_2 (x201002_2.set ((wrap64 ((wrap64 ((rd (rd_L1 t201 x61_2) 1) * a0_0)) + (rd (rd_L1 t201 x61_2) 0))) : Int).toNat (wrap64 ((rd x201002_2 (wrap64 ((wrap64 ((rd (rd_L1 t201 x61_2) 1) * a0_0)) + (rd (rd_L1 t201 x61_2) 0)))) + 1)))) else (none)) else (none)) else (none)) else (none)) = some (r1, r2, r3, r4) := by rw [if_neg (show ¬ (false = true) by decide)] at H; exact H
               clear H
               have H := H1
               clear H1
               by_cases c60 : 1 < ((rd_L1 t201 x61_2).length : Int)
               ·rw [if_pos c60] at H
                have c60b0 : decide (1 < ((rd_L1 t201 x61_2).length : Int)) = true := decide_eq_true c60
                have c60b1 : decide (1 < (rd_L1 t201 x61_2).length) = true := decide_eq_true (by omega)
                clear c60
                by_cases c61 : 0 < ((rd_L1 t201 x61_2).length : Int)
                ·rw [if_pos c61] at H
                 have c61b0 : decide (0 < ((rd_L1 t201 x61_2).length : Int)) = true := decide_eq_true c61
                 have c61b1 : decide (0 < (rd_L1 t201 x61_2).length) = true := decide_eq_true (by omega)
                 clear c61
                 obtain ⟨ji62, hji62⟩ : ∃ j_ : Int, (wrap64 ((wrap64 ((rd (rd_L1 t201 x61_2) 1) * a0_0)) + (rd (rd_L1 t201 x61_2) 0))) = j_ := ⟨_, rfl⟩
                 replace H : (if 0 ≤ (ji62) then (if (ji62) < (x201002_2.length : Int) then (impl_AddRay.l0 k2 false t201 t201 (t201.length : Int) (wrap64 (x61_2 + 1)) a0_0 l0_1 l0_2 a0_0 x201001_2 (x201002_2.set ((ji62) : Int).toNat (wrap64 ((rd x201002_2 (ji62)) + 1)))) else (none)) else (none)) = some (r1, r2, r3, r4) := by first | (rw [hji62] at H; exact H) | (simp only [hji62] at H ⊢; exact H)
                 have hji62w : (IntKind.i64.wrap ((wrap64 ((rd (rd_L1 t201 x61_2) 1) * a0_0)) + (rd (rd_L1 t201 x61_2) 0))) = ji62 := (i64_w _).trans hji62
                 by_cases c63 : 0 ≤ (ji62)
                 ·rw [if_pos c63] at H
                  have c63b0 : decide (0 ≤ (ji62)) = true := decide_eq_true c63
                  clear c63
                  by_cases c64 : (ji62) < (x201002_2.length : Int)
                  ·rw [if_pos c64] at H
                   have c64b0 : decide ((ji62) < (x201002_2.length : Int)) = true := decide_eq_true c64
                   clear c64
                   obtain ⟨y212, hy212⟩ : ∃ y_ : List Int, y_ = (x201002_2.set ((ji62) : Int).toNat (wrap64 ((rd x201002_2 (ji62)) + 1))) := ⟨_, rfl⟩
                   replace H : (impl_AddRay.l0 k2 false t201 t201 (t201.length : Int) (wrap64 (x61_2 + 1)) a0_0 l0_1 l0_2 a0_0 x201001_2 y212) = some (r1, r2, r3, r4) := by first | (rw [hy212]; with_reducible exact H) | (have H2_ := (Option.bind_some _ _).symm.trans H; rw [hy212]; with_reducible exact H2_) | (have H2_ := (Option.bind_some _ _).symm.trans H; with_reducible exact H2_) | with_reducible exact H | (rw [hy212]; exact H) | exact H
                   have Ny212 := Aside0.mk hy212
                   clear hy212
                   have H' := Aside0.mk H
                   clear H
                   have p204 : 0 ≤ (x61_2 : Int) := of_decide_eq_true (by first | (with_reducible assumption) | assumption)
                   have q204 : x61_2 < (t201.length : Int) := of_decide_eq_true (by first | (with_reducible assumption) | assumption)
                   obtain ⟨ad204, A204_0, c204_0, e204, hx204_0, hl204_0, hi204_0⟩ := at_L1 (Kd.S_reads' HO_59.out).2.2 x61_2 p204 q204
                   cases e204
                   obtain ⟨ce204, hce204, hMe204, hcc204⟩ := Kd.S_get HO_59.out [] x61_2 p204 (by first | exact q204 | exact of_decide_eq_true (by first | (with_reducible assumption) | assumption) | (have e_ := (Kd.S_reads' HO_59.out).1; omega))
                   obtain ⟨ve204_0, rfl, ge204_0⟩ := hMe204
                   have hv204_0 := hcc204 0 _ rfl
                   rw [Nat.add_zero, show ((Kd.slice 3 (Kd.int .i64))).sz = 1 from rfl, Nat.mul_one] at hv204_0
                   replace hv204_0 := Option.some.inj (hv204_0.symm.trans hx204_0)
                   rw [hv204_0] at ge204_0
                   have HL204_0 := a_ (show Kd.R (Kd.int .i64) 3 _ _ _ _ (rd_L1 t201 x61_2) from ge204_0)
                   clear hv204_0 ge204_0
                   clear hcc204 hce204
                   have HR204_0 := Aside0.mk hi204_0
                   have HC204_0 := Aside0.mk hl204_0
                   clear hi204_0 hl204_0
                   replace p204 := eq_true p204
                   replace q204 := eq_true q204
                   have hnb66 := NB200_189.out
                   have hnc66 := NB189_200.out
                   have hnb67 := NB200_190.out
                   have hnc67 := NB190_200.out
                   have hcz68_0 : wr.cell? ⟨gb200, 0, none⟩ = some (.int .i64 a0_0) := (blk_cell BK200.out 0).trans rfl
                   have hcz68_1 : wr.cell? ⟨gb200, 1, none⟩ = some (u201001) := (blk_cell BK200.out 1).trans rfl
                   have hcz68_2 : wr.cell? ⟨gb200, 2, none⟩ = some (u201002) := (blk_cell BK200.out 2).trans rfl
                   have hfz68_0 := blk_frozen BK200.out 0
                   have hfz68_1 := blk_frozen BK200.out 1
                   have hfz68_2 := blk_frozen BK200.out 2
                   try go_wp2
                   replace HO_17 := a_ (Kd.S_drew HO_17.out)
                   replace HO_59 := a_ (Kd.S_drew HO_59.out)
                   replace HO_201001 := a_ (Kd.R_drew HO_201001.out)
                   replace HO_201002 := a_ (Kd.R_drew HO_201002.out)
                   replace HL204_0 := a_ (Kd.R_drew HL204_0.out)
                   replace BK189 := a_ (blk_drew BK189.out)
                   replace BK190 := a_ (blk_drew BK190.out)
                   replace BK200 := a_ (blk_drew BK200.out)
                   replace HR204_0 := a_ (Kd.C_drew HR204_0.out)
                   replace HB := a_ (below_drew1 HB.out)
                   have p209 : 0 ≤ (1 : Int) := (by omega)
                   have q209 : 1 < ((rd_L1 t201 x61_2).length : Int) := of_decide_eq_true (by first | (with_reducible assumption) | assumption)
                   obtain ⟨ad209, e209, hx209_0⟩ := Kd.at_int (by repeat (first | (with_reducible exact HR204_0.out) | (with_reducible refine Kd.C_alloc ?_ _) | (with_reducible refine Kd.C_drewN ?_ _) | (with_reducible refine Kd.C_drew ?_) | exact HR204_0.out)) 1 p209 q209
                   cases e209
                   (try simp only [show (1 : Int).toNat = 1 from rfl, Nat.reduceMul, Nat.reduceEqDiff, Go.Addr.add, ↓reduceIte] at hx209_0)
                   have qi209 : (1 < (rd_L1 t201 x61_2).length) = True := eq_true (by omega)
                   (try rw [show ((1 : Int)).toNat = 1 from rfl] at hx209_0)
                   replace p209 := eq_true p209
                   replace q209 := eq_true q209
                   have p210 : 0 ≤ (0 : Int) := (by omega)
                   have q210 : 0 < ((rd_L1 t201 x61_2).length : Int) := of_decide_eq_true (by first | (with_reducible assumption) | assumption)
                   obtain ⟨ad210, e210, hx210_0⟩ := Kd.at_int (by repeat (first | (with_reducible exact HR204_0.out) | (with_reducible refine Kd.C_alloc ?_ _) | (with_reducible refine Kd.C_drewN ?_ _) | (with_reducible refine Kd.C_drew ?_) | exact HR204_0.out)) 0 p210 q210
                   obtain rfl : ad209 = ad210 := (by injection e210)
                   have qi210 : (0 < (rd_L1 t201 x61_2).length) = True := eq_true (by omega)
                   (try rw [show ((0 : Int)).toNat = 0 from rfl] at hx210_0)
                   (try rw [Addr.add_zero'] at hx210_0)
                   replace p210 := eq_true p210
                   replace q210 := eq_true q210
                   obtain ⟨Ao70, co70, eo70⟩ := Kd.R_slice HO_201002.out
                   (first | subst eo70 | (injection eo70 with f1_ f2_ f3_; obtain rfl := f1_.symm; obtain rfl := f3_.symm))
                   have p211 : 0 ≤ ((ji62) : Int) := of_decide_eq_true (by first | (with_reducible assumption) | assumption)
                   have q211 : (ji62) < (x201002_2.length : Int) := of_decide_eq_true (by first | (with_reducible assumption) | assumption)
                   obtain ⟨ad211, e211, hx211_0⟩ := Kd.at_int (Kd.R_reads' HO_201002.out).2.2 (ji62) p211 q211
                   cases e211
                   replace p211 := eq_true p211
                   replace q211 := eq_true q211
                   have p65 : 0 ≤ ((ji62) : Int) := of_decide_eq_true (by first | (with_reducible assumption) | assumption)
                   have q65 : ((ji62) : Int) < ((x201002_2.length : Int) : Int) := of_decide_eq_true (by first | (with_reducible assumption) | assumption)
                   obtain ⟨go65, co65, eo65, gb65, gl65, cl65, HG65⟩ := Kd.R_form HO_201002.out (by omega)
                   (first | cases eo65 | (injection eo65 with ea_ en_ ec_; (first | subst ea_ | (injection ea_ with ea_; subst ea_)); subst ec_; clear en_))
                   have GB65 := Aside0.mk gb65
                   have GG65 := Aside0.mk HG65
                   clear gb65 gl65 HG65
                   (first | simp only [add_plain] at hx211_0 | skip)
                   obtain ⟨hx65_0, hf65_0⟩ := Kd.R_celln 0 HO_201002.out ((ji62) : Int) p65 q65
                   replace p65 := eq_true p65
                   replace q65 := eq_true q65
                   have HP71 := Kd.R_putn HO_201002.out ((ji62) : Int) (wrap64 ((rd x201002_2 (ji62)) + 1))
                   rw [← Ny212.out] at HP71
                   have HQ71 := Aside0.mk HP71
                   clear HP71
                   refine start_ (n := 16) (S := fun w' => w'.cell? ⟨gb189, 0, none⟩ = some (.int .i64 a0_0) ∧ w'.cell? ⟨gb189, 1, none⟩ = some (.slice A0_1 l0_1.length c0_1) ∧ w'.cell? ⟨gb189, 2, none⟩ = some (.slice A0_2 l0_2.length c0_2) ∧ w'.cell? ⟨ad209.block, ad209.off + 1, none⟩ = some (.int .i64 (rd (rd_L1 t201 x61_2) 1)) ∧ w'.cell? ad209 = some (.int .i64 (rd (rd_L1 t201 x61_2) 0)) ∧ w'.cell? ⟨go65, ((ji62)).toNat, none⟩ = some (.int .i64 (rd x201002_2 (ji62)))) (ds := [15]) #[false, false, false, false, false, false, false, false, false, false, false, false, false, false, false, false] (by kernel_rfl) rfl rfl ⟨(blk_cell BK189.out 0).trans rfl, (blk_cell BK189.out 1).trans rfl, (blk_cell BK189.out 2).trans rfl, hx209_0, hx210_0, hx211_0⟩ (fun hHeld => ?_); refine with_tabW impl_AddRay.tab15 impl_AddRay.bits15 (fun HT_ HW_ => ?_)
                   generalize wr.drew = w69 at HO_17 HO_59 HO_201001 HO_201002 HL204_0 BK189 BK190 BK200 HR204_0 HB GG65 HQ71 hf65_0 hx209_0 hx210_0 hx211_0 hx65_0 hHeld ⊢
                   refine pure_ (i := 0) (N := some 78) (v := ?_) (a' := ?_) #[true, false, false, false, false, false, false, false, false, false, false, false, false, false, false, false] rfl rfl (any_of HT_.out (by kernel_rfl)) (fun _ _ _ h => h) (Or.inl ⟨by rfl, ?_⟩) ?_ ?_
                   rotate_left
                   ·intro w'
                    go_simp
                    with_reducible rfl
                   rotate_left
                   ·simp only [Act.put, sB, sC, sD, i64_w, i32_w]
                    rfl
                   refine pure_ (i := 1) (N := some 79) (v := ?_) (a' := ?_) #[true, true, false, false, false, false, false, false, false, false, false, false, false, false, false, false] rfl rfl (any_of HT_.out (by kernel_rfl)) (fun _ _ _ h => h) (Or.inl ⟨by rfl, ?_⟩) ?_ ?_
                   rotate_left
                   ·intro w'
                    go_simp
                    with_reducible rfl
                   rotate_left
                   ·simp only [Act.put, sB, sC, sD, i64_w, i32_w]
                    rfl
                   refine pure_ (i := 2) (N := some 80) (v := ?_) (a' := ?_) #[true, true, true, false, false, false, false, false, false, false, false, false, false, false, false, false] rfl rfl (any_of HT_.out (by kernel_rfl)) (fun _ _ _ h => h) (Or.inl ⟨by rfl, ?_⟩) ?_ ?_
                   rotate_left
                   ·intro w'
                    go_simp
                    with_reducible rfl
                   rotate_left
                   ·simp only [Act.put, sB, sC, sD, i64_w, i32_w]
                    rfl
                   refine pure_ (i := 4) (N := some 82) (v := ?_) (a' := ?_) #[true, true, true, false, true, false, false, false, false, false, false, false, false, false, false, false] rfl rfl (any_of HT_.out (by kernel_rfl)) (fun _ _ _ h => h) (Or.inl ⟨by rfl, ?_⟩) ?_ ?_
                   rotate_left
                   ·intro w'
                    go_simp
                    with_reducible rfl
                   rotate_left
                   ·simp only [Act.put, sB, sC, sD, i64_w, i32_w]
                    rfl
                   refine pure_ (i := 7) (N := some 85) (v := ?_) (a' := ?_) #[true, true, true, false, true, false, false, true, false, false, false, false, false, false, false, false] rfl rfl (any_of HT_.out (by kernel_rfl)) (fun _ _ _ h => h) (Or.inl ⟨by rfl, ?_⟩) ?_ ?_
                   rotate_left
                   ·intro w'
                    go_simp
                    with_reducible rfl
                   rotate_left
                   ·simp only [Act.put, sB, sC, sD, i64_w, i32_w]
                    rfl
                   refine pure_ (i := 8) (N := some 86) (v := ?_) (a' := ?_) #[true, true, true, false, true, false, false, true, true, false, false, false, false, false, false, false] rfl rfl (any_of HT_.out (by kernel_rfl)) (fun _ _ _ h => h) (Or.inl ⟨by rfl, ?_⟩) ?_ ?_
                   rotate_left
                   ·intro w'
                    go_simp
                    with_reducible rfl
                   rotate_left
                   ·simp only [Act.put, sB, sC, sD, i64_w, i32_w]
                    rfl
                   refine take_ (i := 3) (N := some 81) (v := ?_) (a' := ?_) #[true, true, true, true, true, false, false, true, true, false, false, false, false, false, false, false] rfl rfl (take_ofW HT_.out HW_.out (by kernel_rfl)) (fun _ _ _ h => h) (Or.inl ⟨by rfl, ?_⟩) hHeld ?_ ?_
                   rotate_left
                   ·rintro w' ⟨s0, s1, s2, s3, s4, s5⟩
                    go_simp
                    with_reducible rfl
                   rotate_left
                   ·simp only [Act.put, sB, sC, sD, i64_w, i32_w]
                    rfl
                   refine take_ (i := 5) (N := some 83) (v := ?_) (a' := ?_) #[true, true, true, true, true, true, false, true, true, false, false, false, false, false, false, false] rfl rfl (take_ofW HT_.out HW_.out (by kernel_rfl)) (fun _ _ _ h => h) (Or.inl ⟨by rfl, ?_⟩) hHeld ?_ ?_
                   rotate_left
                   ·rintro w' ⟨s0, s1, s2, s3, s4, s5⟩
                    go_simp
                    with_reducible rfl
                   rotate_left
                   ·simp only [Act.put, sB, sC, sD, i64_w, i32_w]
                    rfl
                   refine pure_ (i := 6) (N := some 84) (v := ?_) (a' := ?_) #[true, true, true, true, true, true, true, true, true, false, false, false, false, false, false, false] rfl rfl (any_of HT_.out (by kernel_rfl)) (fun _ _ _ h => h) (Or.inl ⟨by rfl, ?_⟩) ?_ ?_
                   rotate_left
                   ·intro w'
                    go_simp
                    with_reducible rfl
                   rotate_left
                   ·simp only [Act.put, sB, sC, sD, i64_w, i32_w]
                    rfl
                   refine take_ (i := 9) (N := some 87) (v := ?_) (a' := ?_) #[true, true, true, true, true, true, true, true, true, true, false, false, false, false, false, false] rfl rfl (take_ofW HT_.out HW_.out (by kernel_rfl)) (fun _ _ _ h => h) (Or.inl ⟨by rfl, ?_⟩) hHeld ?_ ?_
                   rotate_left
                   ·rintro w' ⟨s0, s1, s2, s3, s4, s5⟩
                    go_simp
                    with_reducible rfl
                   rotate_left
                   ·simp only [Act.put, sB, sC, sD, i64_w, i32_w]
                    rfl
                   refine pure_ (i := 10) (N := some 88) (v := ?_) (a' := ?_) #[true, true, true, true, true, true, true, true, true, true, true, false, false, false, false, false] rfl rfl (any_of HT_.out (by kernel_rfl)) (fun _ _ _ h => h) (Or.inl ⟨by rfl, ?_⟩) ?_ ?_
                   rotate_left
                   ·intro w'
                    go_simp
                    with_reducible rfl
                   rotate_left
                   ·simp only [Act.put, sB, sC, sD, i64_w, i32_w]
                    rfl
                   refine pure_ (i := 11) (N := some 89) (v := ?_) (a' := ?_) #[true, true, true, true, true, true, true, true, true, true, true, true, false, false, false, false] rfl rfl (any_of HT_.out (by kernel_rfl)) (fun _ _ _ h => h) (Or.inl ⟨by rfl, ?_⟩) ?_ ?_
                   rotate_left
                   ·intro w'
                    go_simp
                    with_reducible rfl
                   rotate_left
                   ·simp only [Act.put, sB, sC, sD, i64_w, i32_w]
                    rfl
                   refine take_ (i := 12) (N := some 90) (v := ?_) (a' := ?_) #[true, true, true, true, true, true, true, true, true, true, true, true, true, false, false, false] rfl rfl (take_ofW HT_.out HW_.out (by kernel_rfl)) (fun _ _ _ h => h) (Or.inl ⟨by rfl, ?_⟩) hHeld ?_ ?_
                   rotate_left
                   ·rintro w' ⟨s0, s1, s2, s3, s4, s5⟩
                    go_simp
                    with_reducible rfl
                   rotate_left
                   ·simp only [Act.put, sB, sC, sD, i64_w, i32_w]
                    rfl
                   refine pure_ (i := 13) (N := some 91) (v := ?_) (a' := ?_) #[true, true, true, true, true, true, true, true, true, true, true, true, true, true, false, false] rfl rfl (any_of HT_.out (by kernel_rfl)) (fun _ _ _ h => h) (Or.inl ⟨by rfl, ?_⟩) ?_ ?_
                   rotate_left
                   ·intro w'
                    go_simp
                    with_reducible rfl
                   rotate_left
                   ·simp only [Act.put, sB, sC, sD, i64_w, i32_w]
                    rfl
                   refine pure_ (i := 14) (N := some 92) (v := ?_) (a' := ?_) #[true, true, true, true, true, true, true, true, true, true, true, true, true, true, true, false] rfl rfl (any_of HT_.out (by kernel_rfl)) (fun _ _ _ h => h) (Or.inl ⟨by rfl, ?_⟩) ?_ ?_
                   rotate_left
                   ·intro w'
                    go_simp
                    with_reducible rfl
                   rotate_left
                   ·simp only [Act.put, sB, sC, sD, i64_w, i32_w]
                    rfl
                   refine last_ (i := 15) (N := none) #[true, true, true, true, true, true, true, true, true, true, true, true, true, true, true, true] rfl rfl (one_of HT_.out (by kernel_rfl)) (by decide) (fun K hK => ?_)
                   refine skip_ (w1 := ?_) ?_ ?_ ?_ ?_
                   rotate_left
                   ·rfl
                   ·rfl
                   ·go_simp
                    rfl
                   refine hK.out _ _ ?_
                   clear hK K
                   refine done_ (done_of HT_.out (by kernel_rfl)) ?_
                   try go_wp2
                   go_roundg k2
                   case measure => have := HJ9.out; have := HK2.out; omega
                   case rel => exact ⟨(wrap64 (x61_2 + 1)), (x201001_2), (y212), (u201001), (.slice (some ⟨go65, 0, none⟩) x201002_2.length co70), (by first | rfl | (simp; done) | (simp [*]; done)), H', ⟨by have := HJ9.out; have := HK2.out; omega⟩, ⟨by (with_reducible repeat (first | apply Kd.S_alloc | apply Kd.S_drewN | apply Kd.S_drew)); exact Kd.S_mono (Kd.S_far (p := ⟨go65, ((ji62) : Int).toNat, none⟩) (Kd.S_mono HO_17.out (fun k_ hk => (⟨hk, fun e_ => hk.2 (by rw [e_]; rfl)⟩ : _ ∧ k_ ≠ go65))) (fun _ hk => hk.2) (.int .i64 (wrap64 ((rd x201002_2 (ji62)) + 1)))) (fun _ hk => hk.1)⟩, ⟨by (with_reducible repeat (first | apply Kd.S_alloc | apply Kd.S_drewN | apply Kd.S_drew)); exact Kd.S_mono (Kd.S_far (p := ⟨go65, ((ji62) : Int).toNat, none⟩) (Kd.S_mono HO_59.out (fun k_ hk => (⟨hk, fun e_ => hk.2 (by rw [e_]; rfl)⟩ : _ ∧ k_ ≠ go65))) (fun _ hk => hk.2) (.int .i64 (wrap64 ((rd x201002_2 (ji62)) + 1)))) (fun _ hk => hk.1)⟩, ⟨rk (Kd.R_mono (Kd.R_far (p := ⟨go65, ((ji62) : Int).toNat, none⟩) (Kd.R_mono HO_201001.out (fun k_ hk => (⟨hk, fun e_ => hk (by rw [e_]; rfl)⟩ : _ ∧ k_ ≠ go65))) (fun _ hk => hk.2) (.int .i64 (wrap64 ((rd x201002_2 (ji62)) + 1)))) (fun _ hk => hk.1))⟩, ⟨by refine rk ?_; exact HQ71.out⟩, ⟨by refine pk ?_; refine blk_far ?_ (by have h_ := Kd.R_ne HO_201002.out BK189.out (by decide); intro e_; exact h_ (by rw [e_]; rfl)) _; refine pk ?_; exact BK189.out⟩, ⟨by refine pk ?_; refine blk_far ?_ (by have h_ := Kd.R_ne HO_201002.out BK190.out (by decide); intro e_; exact h_ (by rw [e_]; rfl)) _; refine pk ?_; exact BK190.out⟩, ⟨by refine pk ?_; refine blk_far ?_ (by have h_ := Kd.R_ne HO_201002.out BK200.out (by decide); intro e_; exact h_ (by rw [e_]; rfl)) _; refine pk ?_; exact BK200.out⟩, ⟨by repeat (first | (with_reducible first | exact HB.out | apply below_alloc | apply pw_below_drewN | apply below_drew1 | refine below_set ?_ GB65.out | refine below_set ?_ GE189.out | refine below_set ?_ GE190.out | refine below_set ?_ GE200.out) | exact HB.out)⟩⟩
                  ·rw [if_neg c64] at H
                   exact absurd H (by simp)
                 ·rw [if_neg c63] at H
                  exact absurd H (by simp)
                ·rw [if_neg c61] at H
                 exact absurd H (by simp)
               ·rw [if_neg c60] at H
                exact absurd H (by simp)
             ·rw [if_neg c46] at H
              have c46b0 : (x61_2 == (wrap64 ((t201.length : Int) - 1))) = false := beq_eq_false_iff_ne.mpr c46
              have c46b1 : (x61_2 != (wrap64 ((t201.length : Int) - 1))) = true := bne_iff_ne.mpr c46
              by_cases c72 : 1 < ((rd_L1 t201 x61_2).length : Int)
              ·rw [if_pos c72] at H
               have c72b0 : decide (1 < ((rd_L1 t201 x61_2).length : Int)) = true := decide_eq_true c72
               have c72b1 : decide (1 < (rd_L1 t201 x61_2).length) = true := decide_eq_true (by omega)
               clear c72
               by_cases c73 : 0 < ((rd_L1 t201 x61_2).length : Int)
               ·rw [if_pos c73] at H
                have c73b0 : decide (0 < ((rd_L1 t201 x61_2).length : Int)) = true := decide_eq_true c73
                have c73b1 : decide (0 < (rd_L1 t201 x61_2).length) = true := decide_eq_true (by omega)
                clear c73
                obtain ⟨ji74, hji74⟩ : ∃ j_ : Int, (wrap64 ((wrap64 ((rd (rd_L1 t201 x61_2) 1) * a0_0)) + (rd (rd_L1 t201 x61_2) 0))) = j_ := ⟨_, rfl⟩
                replace H : (if 0 ≤ (ji74) then (if (ji74) < (x201002_2.length : Int) then (impl_AddRay.l0 k2 a5 t201 t201 (t201.length : Int) (wrap64 (x61_2 + 1)) a0_0 l0_1 l0_2 a0_0 x201001_2 (x201002_2.set ((ji74) : Int).toNat (wrap64 ((rd x201002_2 (ji74)) + 1)))) else (none)) else (none)) = some (r1, r2, r3, r4) := by first | (rw [hji74] at H; exact H) | (simp only [hji74] at H ⊢; exact H)
                have hji74w : (IntKind.i64.wrap ((wrap64 ((rd (rd_L1 t201 x61_2) 1) * a0_0)) + (rd (rd_L1 t201 x61_2) 0))) = ji74 := (i64_w _).trans hji74
                by_cases c75 : 0 ≤ (ji74)
                ·rw [if_pos c75] at H
                 have c75b0 : decide (0 ≤ (ji74)) = true := decide_eq_true c75
                 clear c75
                 by_cases c76 : (ji74) < (x201002_2.length : Int)
                 ·rw [if_pos c76] at H
                  have c76b0 : decide ((ji74) < (x201002_2.length : Int)) = true := decide_eq_true c76
                  clear c76
                  obtain ⟨y216, hy216⟩ : ∃ y_ : List Int, y_ = (x201002_2.set ((ji74) : Int).toNat (wrap64 ((rd x201002_2 (ji74)) + 1))) := ⟨_, rfl⟩
                  replace H : (impl_AddRay.l0 k2 a5 t201 t201 (t201.length : Int) (wrap64 (x61_2 + 1)) a0_0 l0_1 l0_2 a0_0 x201001_2 y216) = some (r1, r2, r3, r4) := by first | (rw [hy216]; with_reducible exact H) | (have H2_ := (Option.bind_some _ _).symm.trans H; rw [hy216]; with_reducible exact H2_) | (have H2_ := (Option.bind_some _ _).symm.trans H; with_reducible exact H2_) | with_reducible exact H | (rw [hy216]; exact H) | exact H
                  have Ny216 := Aside0.mk hy216
                  clear hy216
                  have H' := Aside0.mk H
                  clear H
                  have p204 : 0 ≤ (x61_2 : Int) := of_decide_eq_true (by first | (with_reducible assumption) | assumption)
                  have q204 : x61_2 < (t201.length : Int) := of_decide_eq_true (by first | (with_reducible assumption) | assumption)
                  obtain ⟨ad204, A204_0, c204_0, e204, hx204_0, hl204_0, hi204_0⟩ := at_L1 (Kd.S_reads' HO_59.out).2.2 x61_2 p204 q204
                  cases e204
                  obtain ⟨ce204, hce204, hMe204, hcc204⟩ := Kd.S_get HO_59.out [] x61_2 p204 (by first | exact q204 | exact of_decide_eq_true (by first | (with_reducible assumption) | assumption) | (have e_ := (Kd.S_reads' HO_59.out).1; omega))
                  obtain ⟨ve204_0, rfl, ge204_0⟩ := hMe204
                  have hv204_0 := hcc204 0 _ rfl
                  rw [Nat.add_zero, show ((Kd.slice 3 (Kd.int .i64))).sz = 1 from rfl, Nat.mul_one] at hv204_0
                  replace hv204_0 := Option.some.inj (hv204_0.symm.trans hx204_0)
                  rw [hv204_0] at ge204_0
                  have HL204_0 := a_ (show Kd.R (Kd.int .i64) 3 _ _ _ _ (rd_L1 t201 x61_2) from ge204_0)
                  clear hv204_0 ge204_0
                  clear hcc204 hce204
                  have HR204_0 := Aside0.mk hi204_0
                  have HC204_0 := Aside0.mk hl204_0
                  clear hi204_0 hl204_0
                  replace p204 := eq_true p204
                  replace q204 := eq_true q204
                  have hnb78 := NB200_189.out
                  have hnc78 := NB189_200.out
                  have hnb79 := NB200_190.out
                  have hnc79 := NB190_200.out
                  have hcz80_0 : wr.cell? ⟨gb200, 0, none⟩ = some (.int .i64 a0_0) := (blk_cell BK200.out 0).trans rfl
                  have hcz80_1 : wr.cell? ⟨gb200, 1, none⟩ = some (u201001) := (blk_cell BK200.out 1).trans rfl
                  have hcz80_2 : wr.cell? ⟨gb200, 2, none⟩ = some (u201002) := (blk_cell BK200.out 2).trans rfl
                  have hfz80_0 := blk_frozen BK200.out 0
                  have hfz80_1 := blk_frozen BK200.out 1
                  have hfz80_2 := blk_frozen BK200.out 2
                  try go_wp2
                  replace HO_17 := a_ (Kd.S_drew HO_17.out)
                  replace HO_59 := a_ (Kd.S_drew HO_59.out)
                  replace HO_201001 := a_ (Kd.R_drew HO_201001.out)
                  replace HO_201002 := a_ (Kd.R_drew HO_201002.out)
                  replace HL204_0 := a_ (Kd.R_drew HL204_0.out)
                  replace BK189 := a_ (blk_drew BK189.out)
                  replace BK190 := a_ (blk_drew BK190.out)
                  replace BK200 := a_ (blk_drew BK200.out)
                  replace HR204_0 := a_ (Kd.C_drew HR204_0.out)
                  replace HB := a_ (below_drew1 HB.out)
                  have p213 : 0 ≤ (1 : Int) := (by omega)
                  have q213 : 1 < ((rd_L1 t201 x61_2).length : Int) := of_decide_eq_true (by first | (with_reducible assumption) | assumption)
                  obtain ⟨ad213, e213, hx213_0⟩ := Kd.at_int (by repeat (first | (with_reducible exact HR204_0.out) | (with_reducible refine Kd.C_alloc ?_ _) | (with_reducible refine Kd.C_drewN ?_ _) | (with_reducible refine Kd.C_drew ?_) | exact HR204_0.out)) 1 p213 q213
                  cases e213
                  (try simp only [show (1 : Int).toNat = 1 from rfl, Nat.reduceMul, Nat.reduceEqDiff, Go.Addr.add, ↓reduceIte] at hx213_0)
                  have qi213 : (1 < (rd_L1 t201 x61_2).length) = True := eq_true (by omega)
                  (try rw [show ((1 : Int)).toNat = 1 from rfl] at hx213_0)
                  replace p213 := eq_true p213
                  replace q213 := eq_true q213
                  have p214 : 0 ≤ (0 : Int) := (by omega)
                  have q214 : 0 < ((rd_L1 t201 x61_2).length : Int) := of_decide_eq_true (by first | (with_reducible assumption) | assumption)
                  obtain ⟨ad214, e214, hx214_0⟩ := Kd.at_int (by repeat (first | (with_reducible exact HR204_0.out) | (with_reducible refine Kd.C_alloc ?_ _) | (with_reducible refine Kd.C_drewN ?_ _) | (with_reducible refine Kd.C_drew ?_) | exact HR204_0.out)) 0 p214 q214
                  obtain rfl : ad213 = ad214 := (by injection e214)
                  have qi214 : (0 < (rd_L1 t201 x61_2).length) = True := eq_true (by omega)
                  (try rw [show ((0 : Int)).toNat = 0 from rfl] at hx214_0)
                  (try rw [Addr.add_zero'] at hx214_0)
                  replace p214 := eq_true p214
                  replace q214 := eq_true q214
                  obtain ⟨Ao82, co82, eo82⟩ := Kd.R_slice HO_201002.out
                  (first | subst eo82 | (injection eo82 with f1_ f2_ f3_; obtain rfl := f1_.symm; obtain rfl := f3_.symm))
                  have p215 : 0 ≤ ((ji74) : Int) := of_decide_eq_true (by first | (with_reducible assumption) | assumption)
                  have q215 : (ji74) < (x201002_2.length : Int) := of_decide_eq_true (by first | (with_reducible assumption) | assumption)
                  obtain ⟨ad215, e215, hx215_0⟩ := Kd.at_int (Kd.R_reads' HO_201002.out).2.2 (ji74) p215 q215
                  cases e215
                  replace p215 := eq_true p215
                  replace q215 := eq_true q215
                  have p77 : 0 ≤ ((ji74) : Int) := of_decide_eq_true (by first | (with_reducible assumption) | assumption)
                  have q77 : ((ji74) : Int) < ((x201002_2.length : Int) : Int) := of_decide_eq_true (by first | (with_reducible assumption) | assumption)
                  obtain ⟨go77, co77, eo77, gb77, gl77, cl77, HG77⟩ := Kd.R_form HO_201002.out (by omega)
                  (first | cases eo77 | (injection eo77 with ea_ en_ ec_; (first | subst ea_ | (injection ea_ with ea_; subst ea_)); subst ec_; clear en_))
                  have GB77 := Aside0.mk gb77
                  have GG77 := Aside0.mk HG77
                  clear gb77 gl77 HG77
                  (first | simp only [add_plain] at hx215_0 | skip)
                  obtain ⟨hx77_0, hf77_0⟩ := Kd.R_celln 0 HO_201002.out ((ji74) : Int) p77 q77
                  replace p77 := eq_true p77
                  replace q77 := eq_true q77
                  have HP83 := Kd.R_putn HO_201002.out ((ji74) : Int) (wrap64 ((rd x201002_2 (ji74)) + 1))
                  rw [← Ny216.out] at HP83
                  have HQ83 := Aside0.mk HP83
                  clear HP83
                  refine start_ (n := 16) (S := fun w' => w'.cell? ⟨gb189, 0, none⟩ = some (.int .i64 a0_0) ∧ w'.cell? ⟨gb189, 1, none⟩ = some (.slice A0_1 l0_1.length c0_1) ∧ w'.cell? ⟨gb189, 2, none⟩ = some (.slice A0_2 l0_2.length c0_2) ∧ w'.cell? ⟨ad213.block, ad213.off + 1, none⟩ = some (.int .i64 (rd (rd_L1 t201 x61_2) 1)) ∧ w'.cell? ad213 = some (.int .i64 (rd (rd_L1 t201 x61_2) 0)) ∧ w'.cell? ⟨go77, ((ji74)).toNat, none⟩ = some (.int .i64 (rd x201002_2 (ji74)))) (ds := [15]) #[false, false, false, false, false, false, false, false, false, false, false, false, false, false, false, false] (by kernel_rfl) rfl rfl ⟨(blk_cell BK189.out 0).trans rfl, (blk_cell BK189.out 1).trans rfl, (blk_cell BK189.out 2).trans rfl, hx213_0, hx214_0, hx215_0⟩ (fun hHeld => ?_); refine with_tabW impl_AddRay.tab15 impl_AddRay.bits15 (fun HT_ HW_ => ?_)
                  generalize wr.drew = w81 at HO_17 HO_59 HO_201001 HO_201002 HL204_0 BK189 BK190 BK200 HR204_0 HB GG77 HQ83 hf77_0 hx213_0 hx214_0 hx215_0 hx77_0 hHeld ⊢
                  refine pure_ (i := 0) (N := some 78) (v := ?_) (a' := ?_) #[true, false, false, false, false, false, false, false, false, false, false, false, false, false, false, false] rfl rfl (any_of HT_.out (by kernel_rfl)) (fun _ _ _ h => h) (Or.inl ⟨by rfl, ?_⟩) ?_ ?_
                  rotate_left
                  ·intro w'
                   go_simp
                   with_reducible rfl
                  rotate_left
                  ·simp only [Act.put, sB, sC, sD, i64_w, i32_w]
                   rfl
                  refine pure_ (i := 1) (N := some 79) (v := ?_) (a' := ?_) #[true, true, false, false, false, false, false, false, false, false, false, false, false, false, false, false] rfl rfl (any_of HT_.out (by kernel_rfl)) (fun _ _ _ h => h) (Or.inl ⟨by rfl, ?_⟩) ?_ ?_
                  rotate_left
                  ·intro w'
                   go_simp
                   with_reducible rfl
                  rotate_left
                  ·simp only [Act.put, sB, sC, sD, i64_w, i32_w]
                   rfl
                  refine pure_ (i := 2) (N := some 80) (v := ?_) (a' := ?_) #[true, true, true, false, false, false, false, false, false, false, false, false, false, false, false, false] rfl rfl (any_of HT_.out (by kernel_rfl)) (fun _ _ _ h => h) (Or.inl ⟨by rfl, ?_⟩) ?_ ?_
                  rotate_left
                  ·intro w'
                   go_simp
                   with_reducible rfl
                  rotate_left
                  ·simp only [Act.put, sB, sC, sD, i64_w, i32_w]
                   rfl
                  refine pure_ (i := 4) (N := some 82) (v := ?_) (a' := ?_) #[true, true, true, false, true, false, false, false, false, false, false, false, false, false, false, false] rfl rfl (any_of HT_.out (by kernel_rfl)) (fun _ _ _ h => h) (Or.inl ⟨by rfl, ?_⟩) ?_ ?_
                  rotate_left
                  ·intro w'
                   go_simp
                   with_reducible rfl
                  rotate_left
                  ·simp only [Act.put, sB, sC, sD, i64_w, i32_w]
                   rfl
                  refine pure_ (i := 7) (N := some 85) (v := ?_) (a' := ?_) #[true, true, true, false, true, false, false, true, false, false, false, false, false, false, false, false] rfl rfl (any_of HT_.out (by kernel_rfl)) (fun _ _ _ h => h) (Or.inl ⟨by rfl, ?_⟩) ?_ ?_
                  rotate_left
                  ·intro w'
                   go_simp
                   with_reducible rfl
                  rotate_left
                  ·simp only [Act.put, sB, sC, sD, i64_w, i32_w]
                   rfl
                  refine pure_ (i := 8) (N := some 86) (v := ?_) (a' := ?_) #[true, true, true, false, true, false, false, true, true, false, false, false, false, false, false, false] rfl rfl (any_of HT_.out (by kernel_rfl)) (fun _ _ _ h => h) (Or.inl ⟨by rfl, ?_⟩) ?_ ?_
                  rotate_left
                  ·intro w'
                   go_simp
                   with_reducible rfl
                  rotate_left
                  ·simp only [Act.put, sB, sC, sD, i64_w, i32_w]
                   rfl
                  refine take_ (i := 3) (N := some 81) (v := ?_) (a' := ?_) #[true, true, true, true, true, false, false, true, true, false, false, false, false, false, false, false] rfl rfl (take_ofW HT_.out HW_.out (by kernel_rfl)) (fun _ _ _ h => h) (Or.inl ⟨by rfl, ?_⟩) hHeld ?_ ?_
                  rotate_left
                  ·rintro w' ⟨s0, s1, s2, s3, s4, s5⟩
                   go_simp
                   with_reducible rfl
                  rotate_left
                  ·simp only [Act.put, sB, sC, sD, i64_w, i32_w]
                   rfl
                  refine take_ (i := 5) (N := some 83) (v := ?_) (a' := ?_) #[true, true, true, true, true, true, false, true, true, false, false, false, false, false, false, false] rfl rfl (take_ofW HT_.out HW_.out (by kernel_rfl)) (fun _ _ _ h => h) (Or.inl ⟨by rfl, ?_⟩) hHeld ?_ ?_
                  rotate_left
                  ·rintro w' ⟨s0, s1, s2, s3, s4, s5⟩
                   go_simp
                   with_reducible rfl
                  rotate_left
                  ·simp only [Act.put, sB, sC, sD, i64_w, i32_w]
                   rfl
                  refine pure_ (i := 6) (N := some 84) (v := ?_) (a' := ?_) #[true, true, true, true, true, true, true, true, true, false, false, false, false, false, false, false] rfl rfl (any_of HT_.out (by kernel_rfl)) (fun _ _ _ h => h) (Or.inl ⟨by rfl, ?_⟩) ?_ ?_
                  rotate_left
                  ·intro w'
                   go_simp
                   with_reducible rfl
                  rotate_left
                  ·simp only [Act.put, sB, sC, sD, i64_w, i32_w]
                   rfl
                  refine take_ (i := 9) (N := some 87) (v := ?_) (a' := ?_) #[true, true, true, true, true, true, true, true, true, true, false, false, false, false, false, false] rfl rfl (take_ofW HT_.out HW_.out (by kernel_rfl)) (fun _ _ _ h => h) (Or.inl ⟨by rfl, ?_⟩) hHeld ?_ ?_
                  rotate_left
                  ·rintro w' ⟨s0, s1, s2, s3, s4, s5⟩
                   go_simp
                   with_reducible rfl
                  rotate_left
                  ·simp only [Act.put, sB, sC, sD, i64_w, i32_w]
                   rfl
                  refine pure_ (i := 10) (N := some 88) (v := ?_) (a' := ?_) #[true, true, true, true, true, true, true, true, true, true, true, false, false, false, false, false] rfl rfl (any_of HT_.out (by kernel_rfl)) (fun _ _ _ h => h) (Or.inl ⟨by rfl, ?_⟩) ?_ ?_
                  rotate_left
                  ·intro w'
                   go_simp
                   with_reducible rfl
                  rotate_left
                  ·simp only [Act.put, sB, sC, sD, i64_w, i32_w]
                   rfl
                  refine pure_ (i := 11) (N := some 89) (v := ?_) (a' := ?_) #[true, true, true, true, true, true, true, true, true, true, true, true, false, false, false, false] rfl rfl (any_of HT_.out (by kernel_rfl)) (fun _ _ _ h => h) (Or.inl ⟨by rfl, ?_⟩) ?_ ?_
                  rotate_left
                  ·intro w'
                   go_simp
                   with_reducible rfl
                  rotate_left
                  ·simp only [Act.put, sB, sC, sD, i64_w, i32_w]
                   rfl
                  refine take_ (i := 12) (N := some 90) (v := ?_) (a' := ?_) #[true, true, true, true, true, true, true, true, true, true, true, true, true, false, false, false] rfl rfl (take_ofW HT_.out HW_.out (by kernel_rfl)) (fun _ _ _ h => h) (Or.inl ⟨by rfl, ?_⟩) hHeld ?_ ?_
                  rotate_left
                  ·rintro w' ⟨s0, s1, s2, s3, s4, s5⟩
                   go_simp
                   with_reducible rfl
                  rotate_left
                  ·simp only [Act.put, sB, sC, sD, i64_w, i32_w]
                   rfl
                  refine pure_ (i := 13) (N := some 91) (v := ?_) (a' := ?_) #[true, true, true, true, true, true, true, true, true, true, true, true, true, true, false, false] rfl rfl (any_of HT_.out (by kernel_rfl)) (fun _ _ _ h => h) (Or.inl ⟨by rfl, ?_⟩) ?_ ?_
                  rotate_left
                  ·intro w'
                   go_simp
                   with_reducible rfl
                  rotate_left
                  ·simp only [Act.put, sB, sC, sD, i64_w, i32_w]
                   rfl
                  refine pure_ (i := 14) (N := some 92) (v := ?_) (a' := ?_) #[true, true, true, true, true, true, true, true, true, true, true, true, true, true, true, false] rfl rfl (any_of HT_.out (by kernel_rfl)) (fun _ _ _ h => h) (Or.inl ⟨by rfl, ?_⟩) ?_ ?_
                  rotate_left
                  ·intro w'
                   go_simp
                   with_reducible rfl
                  rotate_left
                  ·simp only [Act.put, sB, sC, sD, i64_w, i32_w]
                   rfl
                  refine last_ (i := 15) (N := none) #[true, true, true, true, true, true, true, true, true, true, true, true, true, true, true, true] rfl rfl (one_of HT_.out (by kernel_rfl)) (by decide) (fun K hK => ?_)
                  refine skip_ (w1 := ?_) ?_ ?_ ?_ ?_
                  rotate_left
                  ·rfl
                  ·rfl
                  ·go_simp
                   rfl
                  refine hK.out _ _ ?_
                  clear hK K
                  refine done_ (done_of HT_.out (by kernel_rfl)) ?_
                  try go_wp2
                  go_roundg k2
                  case measure => have := HJ9.out; have := HK2.out; omega
                  case rel => exact ⟨(wrap64 (x61_2 + 1)), (x201001_2), (y216), (u201001), (.slice (some ⟨go77, 0, none⟩) x201002_2.length co82), (by first | rfl | (simp; done) | (simp [*]; done)), H', ⟨by have := HJ9.out; have := HK2.out; omega⟩, ⟨by (with_reducible repeat (first | apply Kd.S_alloc | apply Kd.S_drewN | apply Kd.S_drew)); exact Kd.S_mono (Kd.S_far (p := ⟨go77, ((ji74) : Int).toNat, none⟩) (Kd.S_mono HO_17.out (fun k_ hk => (⟨hk, fun e_ => hk.2 (by rw [e_]; rfl)⟩ : _ ∧ k_ ≠ go77))) (fun _ hk => hk.2) (.int .i64 (wrap64 ((rd x201002_2 (ji74)) + 1)))) (fun _ hk => hk.1)⟩, ⟨by (with_reducible repeat (first | apply Kd.S_alloc | apply Kd.S_drewN | apply Kd.S_drew)); exact Kd.S_mono (Kd.S_far (p := ⟨go77, ((ji74) : Int).toNat, none⟩) (Kd.S_mono HO_59.out (fun k_ hk => (⟨hk, fun e_ => hk.2 (by rw [e_]; rfl)⟩ : _ ∧ k_ ≠ go77))) (fun _ hk => hk.2) (.int .i64 (wrap64 ((rd x201002_2 (ji74)) + 1)))) (fun _ hk => hk.1)⟩, ⟨rk (Kd.R_mono (Kd.R_far (p := ⟨go77, ((ji74) : Int).toNat, none⟩) (Kd.R_mono HO_201001.out (fun k_ hk => (⟨hk, fun e_ => hk (by rw [e_]; rfl)⟩ : _ ∧ k_ ≠ go77))) (fun _ hk => hk.2) (.int .i64 (wrap64 ((rd x201002_2 (ji74)) + 1)))) (fun _ hk => hk.1))⟩, ⟨by refine rk ?_; exact HQ83.out⟩, ⟨by refine pk ?_; refine blk_far ?_ (by have h_ := Kd.R_ne HO_201002.out BK189.out (by decide); intro e_; exact h_ (by rw [e_]; rfl)) _; refine pk ?_; exact BK189.out⟩, ⟨by refine pk ?_; refine blk_far ?_ (by have h_ := Kd.R_ne HO_201002.out BK190.out (by decide); intro e_; exact h_ (by rw [e_]; rfl)) _; refine pk ?_; exact BK190.out⟩, ⟨by refine pk ?_; refine blk_far ?_ (by have h_ := Kd.R_ne HO_201002.out BK200.out (by decide); intro e_; exact h_ (by rw [e_]; rfl)) _; refine pk ?_; exact BK200.out⟩, ⟨by repeat (first | (with_reducible first | exact HB.out | apply below_alloc | apply pw_below_drewN | apply below_drew1 | refine below_set ?_ GB77.out | refine below_set ?_ GE189.out | refine below_set ?_ GE190.out | refine below_set ?_ GE200.out) | exact HB.out)⟩⟩
                 ·rw [if_neg c76] at H
                  exact absurd H (by simp)
                ·rw [if_neg c75] at H
                 exact absurd H (by simp)
               ·rw [if_neg c73] at H
                exact absurd H (by simp)
              ·rw [if_neg c72] at H
               exact absurd H (by simp)
            ·rw [if_neg c45] at H
             exact absurd H (by simp)
           ·rw [if_neg c44] at H
            exact absurd H (by simp)
          ·rw [if_neg c43] at H
           have c43b0 : decide (x61_2 < (t201.length : Int)) = false := decide_eq_false c43
           clear c43
           replace H := Option.bind_eq_some_iff.mp H
           obtain ⟨t217, A840, H⟩ := H
           replace H : (if t217 = true then (some (a0_0, x201001_2, x201002_2, true)) else (some (0, ([] : List Int), ([] : List Int), false))) = some (r1, r2, r3, r4) := H
           have A84 := Aside0.mk A840
           clear A840
           by_cases c85 : t217 = true
           ·subst c85
            have H1 : (some (a0_0, x201001_2, x201002_2, true)) = some (r1, r2, r3, r4) := by rw [if_pos rfl] at H; exact H
            clear H
            have H := H1
            clear H1
            simp only [Option.some.injEq, Prod.mk.injEq] at H
            obtain ⟨rfl, rfl, rfl, rfl⟩ := H
            have hnb86 := NB200_189.out
            have hnc86 := NB189_200.out
            have hnb87 := NB200_190.out
            have hnc87 := NB190_200.out
            have hcz88_0 : wr.cell? ⟨gb200, 0, none⟩ = some (.int .i64 a0_0) := (blk_cell BK200.out 0).trans rfl
            have hcz88_1 : wr.cell? ⟨gb200, 1, none⟩ = some (u201001) := (blk_cell BK200.out 1).trans rfl
            have hcz88_2 : wr.cell? ⟨gb200, 2, none⟩ = some (u201002) := (blk_cell BK200.out 2).trans rfl
            have hfz88_0 := blk_frozen BK200.out 0
            have hfz88_1 := blk_frozen BK200.out 1
            have hfz88_2 := blk_frozen BK200.out 2
            obtain ⟨Ao89, co89, eo89⟩ := Kd.R_slice HO_201001.out
            subst eo89
            obtain ⟨Ao90, co90, eo90⟩ := Kd.R_slice HO_201002.out
            subst eo90
            go_wp2_with (first | ((with_reducible refine gate_callee (f := 32) rfl ?_); refine goesL_ (some 95) rfl rfl Try.func32 (by kernel_rfl) rfl #[.agg #[.int .i64 a0_0, .slice Ao89 x201001_2.length co89, .slice Ao90 x201002_2.length co90]] rfl (by (try simp only [lA, lB, lC]); first | done | rfl | (simp only [lD, lE]; rfl)) ?_; (with_reducible refine (impl_GoodCounts.calls k2 a0_0 (fun k_ => some k_ = (.slice Ao89 x201001_2.length co89 : Value).ownBlock) _ _ x201001_2 (fun k_ => some k_ = (.slice Ao90 x201002_2.length co90 : Value).ownBlock) _ _ x201002_2 true _ ?side1 ?side2 A84.out).mono ?_); (case side1 => exact Kd.R_V (Kd.R_tight rfl (Kd.R_types (Kd.R_types (Kd.R_types (Kd.R_apart' (Kd.R_apart' (HO_201001.out) (Kd.S_typed HO_17.out) (by decide)) (Kd.S_typed HO_59.out) (by decide)) BK189.out (by decide)) BK190.out (by decide)) BK200.out (by decide)))); (case side2 => exact Kd.R_V (Kd.R_tight rfl (Kd.R_types (Kd.R_types (Kd.R_types (Kd.R_apart' (Kd.R_apart' (HO_201002.out) (Kd.S_typed HO_17.out) (by decide)) (Kd.S_typed HO_59.out) (by decide)) BK189.out (by decide)) BK190.out (by decide)) BK200.out (by decide)))); rintro e w91 ⟨rfl, hb⟩; refine ⟨_, rfl, ?_⟩; replace HO_17 := a_ (Kd.S_below (by (with_reducible repeat (first | apply Kd.S_alloc | apply Kd.S_drewN | apply Kd.S_drew)); exact HO_17.out) hb); replace HO_59 := a_ (Kd.S_below (by (with_reducible repeat (first | apply Kd.S_alloc | apply Kd.S_drewN | apply Kd.S_drew)); exact HO_59.out) hb); replace HO_201001 := a_ (Kd.R_below (rk HO_201001.out) hb); replace HO_201002 := a_ (Kd.R_below (rk HO_201002.out) hb); replace BK189 := a_ (blk_below (pk BK189.out) hb); replace BK190 := a_ (blk_below (pk BK190.out) hb); replace BK200 := a_ (blk_below (pk BK200.out) hb); replace HB := a_ (below_step (by repeat (with_reducible first | exact HB.out | refine bz ?_ (by assumption) | apply bA | apply bN | apply bD)) hb); clear hb; have hcz92_0 : _ = some (Value.int .i64 a0_0) := (blk_cell BK200.out 0).trans rfl; have hcz92_1 : _ = some (Value.slice Ao89 x201001_2.length co89) := (blk_cell BK200.out 1).trans rfl; have hcz92_2 : _ = some (Value.slice Ao90 x201002_2.length co90) := (blk_cell BK200.out 2).trans rfl; have hfz92_0 := blk_frozen BK200.out 0; have hfz92_1 := blk_frozen BK200.out 1; have hfz92_2 := blk_frozen BK200.out 2; have hnb93 := NB190_189.out; have hnc93 := NB189_190.out; have hcz94_0 : _ = some (Value.int .i64 0) := (blk_cell BK190.out 0).trans rfl; have hcz94_1 : _ = some (Value.slice none 0 0) := (blk_cell BK190.out 1).trans rfl; have hcz94_2 : _ = some (Value.slice none 0 0) := (blk_cell BK190.out 2).trans rfl; have hfz94_0 := blk_frozen BK190.out 0; have hfz94_1 := blk_frozen BK190.out 1; have hfz94_2 := blk_frozen BK190.out 2))
            refine bodyPost_ret (results_ct rfl _ _ gb190 31 #[.int .i64 a0_0, .slice Ao89 x201001_2.length co89, .slice Ao90 x201002_2.length co90] (0, 0) _ rfl (by refine pk ?_; refine blk_put (cs := #[.int .i64 a0_0, .slice Ao89 x201001_2.length co89, .slice none 0 0]) ?_ 2 _ rfl; refine pk ?_; refine blk_put (cs := #[.int .i64 a0_0, .slice none 0 0, .slice none 0 0]) ?_ 1 _ rfl; refine pk ?_; refine blk_put (cs := #[.int .i64 0, .slice none 0 0, .slice none 0 0]) ?_ 0 _ rfl; refine pk ?_; exact BK190.out) Try.underlying31 rfl (by kernel_rfl)) rfl ?_
            exact ⟨_, _, by first | rfl | (simp [errW_none, errW_some] <;> rfl) | (simp [*, errW_none, errW_some] <;> rfl), by refine rk ?_; exact Kd.R_mono (fr3 HO_201001.out BK190.out (by decide) 0 (.int .i64 a0_0) 1 (.slice Ao89 x201001_2.length co89) 2 (.slice Ao90 x201002_2.length co90)) (fun _ hk => hk.1), by refine rk ?_; exact Kd.R_mono (fr3 HO_201002.out BK190.out (by decide) 0 (.int .i64 a0_0) 1 (.slice Ao89 x201001_2.length co89) 2 (.slice Ao90 x201002_2.length co90)) (fun _ hk => hk.1), by repeat (with_reducible first | exact HB.out | refine bz ?_ (by assumption) | apply bA | apply bN | apply bD)⟩
           ·replace c85 := Bool.eq_false_iff.mpr c85
            subst c85
            have H1 : (some (0, ([] : List Int), ([] : List Int), false)) = some (r1, r2, r3, r4) := by rw [if_neg (show ¬ (false = true) by decide)] at H; exact H
            clear H
            have H := H1
            clear H1
            simp only [Option.some.injEq, Prod.mk.injEq] at H
            obtain ⟨rfl, rfl, rfl, rfl⟩ := H
            have hnb95 := NB200_189.out
            have hnc95 := NB189_200.out
            have hnb96 := NB200_190.out
            have hnc96 := NB190_200.out
            have hcz97_0 : wr.cell? ⟨gb200, 0, none⟩ = some (.int .i64 a0_0) := (blk_cell BK200.out 0).trans rfl
            have hcz97_1 : wr.cell? ⟨gb200, 1, none⟩ = some (u201001) := (blk_cell BK200.out 1).trans rfl
            have hcz97_2 : wr.cell? ⟨gb200, 2, none⟩ = some (u201002) := (blk_cell BK200.out 2).trans rfl
            have hfz97_0 := blk_frozen BK200.out 0
            have hfz97_1 := blk_frozen BK200.out 1
            have hfz97_2 := blk_frozen BK200.out 2
            obtain ⟨Ao98, co98, eo98⟩ := Kd.R_slice HO_201001.out
            subst eo98
            obtain ⟨Ao99, co99, eo99⟩ := Kd.R_slice HO_201002.out
            subst eo99
            go_wp2_with (first | ((with_reducible refine gate_callee (f := 32) rfl ?_); refine goesL_ (some 95) rfl rfl Try.func32 (by kernel_rfl) rfl #[.agg #[.int .i64 a0_0, .slice Ao98 x201001_2.length co98, .slice Ao99 x201002_2.length co99]] rfl (by (try simp only [lA, lB, lC]); first | done | rfl | (simp only [lD, lE]; rfl)) ?_; (with_reducible refine (impl_GoodCounts.calls k2 a0_0 (fun k_ => some k_ = (.slice Ao98 x201001_2.length co98 : Value).ownBlock) _ _ x201001_2 (fun k_ => some k_ = (.slice Ao99 x201002_2.length co99 : Value).ownBlock) _ _ x201002_2 false _ ?side1 ?side2 A84.out).mono ?_); (case side1 => exact Kd.R_V (Kd.R_tight rfl (Kd.R_types (Kd.R_types (Kd.R_types (Kd.R_apart' (Kd.R_apart' (HO_201001.out) (Kd.S_typed HO_17.out) (by decide)) (Kd.S_typed HO_59.out) (by decide)) BK189.out (by decide)) BK190.out (by decide)) BK200.out (by decide)))); (case side2 => exact Kd.R_V (Kd.R_tight rfl (Kd.R_types (Kd.R_types (Kd.R_types (Kd.R_apart' (Kd.R_apart' (HO_201002.out) (Kd.S_typed HO_17.out) (by decide)) (Kd.S_typed HO_59.out) (by decide)) BK189.out (by decide)) BK190.out (by decide)) BK200.out (by decide)))); rintro e w100 ⟨rfl, hb⟩; refine ⟨_, rfl, ?_⟩; replace HO_17 := a_ (Kd.S_below (by (with_reducible repeat (first | apply Kd.S_alloc | apply Kd.S_drewN | apply Kd.S_drew)); exact HO_17.out) hb); replace HO_59 := a_ (Kd.S_below (by (with_reducible repeat (first | apply Kd.S_alloc | apply Kd.S_drewN | apply Kd.S_drew)); exact HO_59.out) hb); replace HO_201001 := a_ (Kd.R_below (rk HO_201001.out) hb); replace HO_201002 := a_ (Kd.R_below (rk HO_201002.out) hb); replace BK189 := a_ (blk_below (pk BK189.out) hb); replace BK190 := a_ (blk_below (pk BK190.out) hb); replace BK200 := a_ (blk_below (pk BK200.out) hb); replace HB := a_ (below_step (by repeat (with_reducible first | exact HB.out | refine bz ?_ (by assumption) | apply bA | apply bN | apply bD)) hb); clear hb; have hnb101 := NB190_189.out; have hnc101 := NB189_190.out; have hcz102_0 : _ = some (Value.int .i64 0) := (blk_cell BK190.out 0).trans rfl; have hcz102_1 : _ = some (Value.slice none 0 0) := (blk_cell BK190.out 1).trans rfl; have hcz102_2 : _ = some (Value.slice none 0 0) := (blk_cell BK190.out 2).trans rfl; have hfz102_0 := blk_frozen BK190.out 0; have hfz102_1 := blk_frozen BK190.out 1; have hfz102_2 := blk_frozen BK190.out 2))
            refine bodyPost_ret (results_ct rfl _ _ gb190 31 #[.int .i64 0, .slice none 0 0, .slice none 0 0] (0, 0) _ rfl (by refine pk ?_; refine blk_put (cs := #[.int .i64 0, .slice none 0 0, .slice none 0 0]) ?_ 2 _ rfl; refine pk ?_; refine blk_put (cs := #[.int .i64 0, .slice none 0 0, .slice none 0 0]) ?_ 1 _ rfl; refine pk ?_; refine blk_put (cs := #[.int .i64 0, .slice none 0 0, .slice none 0 0]) ?_ 0 _ rfl; refine pk ?_; exact BK190.out) Try.underlying31 rfl (by kernel_rfl)) rfl ?_
            exact ⟨_, _, by first | rfl | (simp [errW_none, errW_some] <;> rfl) | (simp [*, errW_none, errW_some] <;> rfl), by first | exact Kd.R_nil _ _ _ _ _ | exact Kd.N_nil _ _ _ _ _ | exact Kd.V_nil _ _ _ _ _ | exact Kd.Q_nil _ _ _ _ _ | exact Kd.S_nil _ _ _ _ _, by first | exact Kd.R_nil _ _ _ _ _ | exact Kd.N_nil _ _ _ _ _ | exact Kd.V_nil _ _ _ _ _ | exact Kd.Q_nil _ _ _ _ _ | exact Kd.S_nil _ _ _ _ _, by repeat (with_reducible first | exact HB.out | refine bz ?_ (by assumption) | apply bA | apply bN | apply bD)⟩
       ·rw [if_neg c27] at H
        exact absurd H (by simp)
      ·rw [if_neg c26] at H
       exact absurd H (by simp)
 ·replace c8 := Bool.eq_false_iff.mpr c8
  subst c8
  have H1 : (some (0, ([] : List Int), ([] : List Int), false)) = some (r1, r2, r3, r4) := by rw [if_neg (show ¬ (false = true) by decide)] at H; exact H
  clear H
  have H := H1
  clear H1
  simp only [Option.some.injEq, Prod.mk.injEq] at H
  obtain ⟨rfl, rfl, rfl, rfl⟩ := H
  go_enter Try.func14, Try.ntmps14
  go_wp2_with (first | ((with_reducible refine gate_dst (N := 6) rfl ?_); refine box_event ?hg (N := 6) ?hd (cs := #[.int .i64 a0_0, .slice A0_1 l0_1.length c0_1, .slice A0_2 l0_2.length c0_2]) (t := 31) ?hr ?_; (case hd => rfl); (case hg => rfl); (case hr => first | (go_simp; done) | (go_simp; rfl)); intro gb189 hg w103 hbox hb; have BK189 := a_ (hbox); have GW189 := a_ (bsg hg HB.out); have GE189 := a_ (bsg hg HB.out); replace HB := a_ (below_step (un HB.out) hb); clear hb hbox hg) | ((with_reducible refine gate_dst (N := 12) rfl ?_); refine box_event ?hg (N := 12) ?hd (cs := #[.int .i64 0, .slice none 0 0, .slice none 0 0]) (t := 31) ?hr ?_; (case hd => rfl); (case hg => rfl); (case hr => first | (go_simp; done) | (go_simp; rfl)); intro gb190 hg w104 hbox hb; have BK190 := a_ (hbox); have GW190 := a_ (bsg hg HB.out); have GE190 := a_ (bsg hg HB.out); replace HB := a_ (below_step (by repeat (with_reducible first | exact HB.out | refine bz ?_ (by assumption) | apply bA | apply bN | apply bD)) hb); have NB189_190 := a_ (nel hg BK189.out); have NB190_189 := a_ (nle hg BK189.out); replace BK189 := a_ (blk_below (pk BK189.out) hb); clear hb hbox hg; have hnb105 := NB189_190.out; have hnc105 := NB190_189.out; have hcz106_0 : _ = some (Value.int .i64 a0_0) := (blk_cell BK189.out 0).trans rfl; have hcz106_1 : _ = some (Value.slice A0_1 l0_1.length c0_1) := (blk_cell BK189.out 1).trans rfl; have hcz106_2 : _ = some (Value.slice A0_2 l0_2.length c0_2) := (blk_cell BK189.out 2).trans rfl; have hfz106_0 := blk_frozen BK189.out 0; have hfz106_1 := blk_frozen BK189.out 1; have hfz106_2 := blk_frozen BK189.out 2) | ((with_reducible refine gate_callee (f := 32) rfl ?_); refine goesL_ (some 22) rfl rfl Try.func32 (by kernel_rfl) rfl #[.agg #[.int .i64 a0_0, .slice A0_1 l0_1.length c0_1, .slice A0_2 l0_2.length c0_2]] rfl (by (try simp only [lA, lB, lC]); first | done | rfl | (simp only [lD, lE]; rfl)) ?_; (with_reducible refine (impl_GoodCounts.calls k a0_0 (fun k_ => k_ < w.heap.size) _ _ l0_1 (fun k_ => k_ < w.heap.size) _ _ l0_2 false _ ?side1 ?side2 A7.out).mono ?_); (case side1 => exact Kd.V_mk HC0_1.out (Kd.F_below (Kd.C_F (Kd.heap_int .i64) HR0_1.out) (by repeat (with_reducible first | exact HB.out | refine bz ?_ (by assumption) | apply bA | apply bN | apply bD)))); (case side2 => exact Kd.V_mk HC0_2.out (Kd.F_below (Kd.C_F (Kd.heap_int .i64) HR0_2.out) (by repeat (with_reducible first | exact HB.out | refine bz ?_ (by assumption) | apply bA | apply bN | apply bD)))); rintro e w107 ⟨rfl, hb⟩; refine ⟨_, rfl, ?_⟩; replace BK189 := a_ (blk_below (pk BK189.out) hb); replace BK190 := a_ (blk_below (pk BK190.out) hb); replace HB := a_ (below_step (by repeat (with_reducible first | exact HB.out | refine bz ?_ (by assumption) | apply bA | apply bN | apply bD)) hb); clear hb; have hcz108_0 : _ = some (Value.int .i64 0) := (blk_cell BK190.out 0).trans rfl; have hcz108_1 : _ = some (Value.slice none 0 0) := (blk_cell BK190.out 1).trans rfl; have hcz108_2 : _ = some (Value.slice none 0 0) := (blk_cell BK190.out 2).trans rfl; have hfz108_0 := blk_frozen BK190.out 0; have hfz108_1 := blk_frozen BK190.out 1; have hfz108_2 := blk_frozen BK190.out 2))
  refine bodyPost_ret (results_ct rfl _ _ gb190 31 #[.int .i64 0, .slice none 0 0, .slice none 0 0] (0, 0) _ rfl (by refine pk ?_; refine blk_put (cs := #[.int .i64 0, .slice none 0 0, .slice none 0 0]) ?_ 2 _ rfl; refine pk ?_; refine blk_put (cs := #[.int .i64 0, .slice none 0 0, .slice none 0 0]) ?_ 1 _ rfl; refine pk ?_; refine blk_put (cs := #[.int .i64 0, .slice none 0 0, .slice none 0 0]) ?_ 0 _ rfl; refine pk ?_; exact BK190.out) Try.underlying31 rfl (by kernel_rfl)) rfl ?_
  exact ⟨_, _, by first | rfl | (simp [errW_none, errW_some] <;> rfl) | (simp [*, errW_none, errW_some] <;> rfl), by first | exact Kd.R_nil _ _ _ _ _ | exact Kd.N_nil _ _ _ _ _ | exact Kd.V_nil _ _ _ _ _ | exact Kd.Q_nil _ _ _ _ _ | exact Kd.S_nil _ _ _ _ _, by first | exact Kd.R_nil _ _ _ _ _ | exact Kd.N_nil _ _ _ _ _ | exact Kd.V_nil _ _ _ _ _ | exact Kd.Q_nil _ _ _ _ _ | exact Kd.S_nil _ _ _ _ _, by repeat (with_reducible first | exact HB.out | refine bz ?_ (by assumption) | apply bA | apply bN | apply bD)⟩

end Go.Proofs.Ytgkjnocjdonjdaa.PFnExactAddRay
