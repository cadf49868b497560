-- Written by a program of this session out of the loaded functions' print; helper lemmas as print.sh lays them.
import Derived.Test.YtgkjnocjdonjdaaUp2
import Derived.Test.YtgkjnocjdonjdaaUp
import Derived.Test.YtgkjnocjdonjdaaRFnCountsx0
import Derived.Test.YtgkjnocjdonjdaaRFnCountsx4
import Derived.Test.YtgkjnocjdonjdaaRFnCountsx5
namespace Go.Proofs.Ytgkjnocjdonjdaa.PFnCounts
open Go.RowKit Go.Proofs.YtgkjnocjdonjdaaW.PrintWords Go.Proofs.YtgkjnocjdonjdaaW.PrintLast Go.Proofs.YtgkjnocjdonjdaaW.PrintMore
attribute [local go_sem] max2_int min2_int max_two min_two max_three min_three max_four min_four  -- for this text's walks alone
theorem ev_tmp_6 {a : Act} {i : Nat} {v : Value} (h : a.tmps[i]? = some v) : a.eval (.tmp i) = v := by show a.tmps.getD i undef = v; rw [Array.getD_eq_getD_getElem?, h]; rfl
set_option linter.unusedVariables false
set_option linter.unusedSimpArgs false

/-! ### impl_AddRay: function 14 -/
mutual
def impl_AddRay.j0 : Nat → Int → Int → Int → Int → Bool → Bool → Int → List Int → List Int → Option (Int × List Int × List Int × Bool)
 | 0, _, _, _, _, _, _, _, _, _ => none
 | k + 1, x1, x2, x3, x4, x5, x43, x173000, x173001, x173002 => if x43 = true then (some (0, ([] : List Int), ([] : List Int), false)) else (if ([] : List Int).length + x173001.length < 17592186044416 then (if ([] : List Int).length + x173002.length < 17592186044416 then ((impl_LineCells.f k x1 x2 x3 x4).bind fun t184 => (impl_AddRay.l0 k x5 t184 t184 (t184.length : Int) 0 x173000 x173001 x173002 x173000 (([] : List Int) ++ x173001) (([] : List Int) ++ x173002))) else (none)) else (none))
def impl_AddRay.l0 : Nat → Bool → List (List Int) → List (List Int) → Int → Int → Int → List Int → List Int → Int → List Int → List Int → Option (Int × List Int × List Int × Bool)
 | 0, _, _, _, _, _, _, _, _, _, _, _ => none
 | k + 1, x5, x17, x59, x60, x61, x173000, x173001, x173002, x184000, x184001, x184002 => if x61 < x60 then (if 0 ≤ x61 then (if x61 < (x59.length : Int) then (if x61 = (wrap64 ((x17.length : Int) - 1)) then (if x5 = true then (if 1 < ((rd_L1 x59 x61).length : Int) then (if 0 < ((rd_L1 x59 x61).length : Int) then (if 0 ≤ (wrap64 ((wrap64 ((rd (rd_L1 x59 x61) 1) * x173000)) + (rd (rd_L1 x59 x61) 0))) then (if (wrap64 ((wrap64 ((rd (rd_L1 x59 x61) 1) * x173000)) + (rd (rd_L1 x59 x61) 0))) < (x184001.length : Int) then (impl_AddRay.l0 k x5 x17 x59 x60 (wrap64 (x61 + 1)) x173000 x173001 x173002 x184000 (x184001.set ((wrap64 ((wrap64 ((rd (rd_L1 x59 x61) 1) * x173000)) + (rd (rd_L1 x59 x61) 0))) : Int).toNat (wrap64 ((rd x184001 (wrap64 ((wrap64 ((rd (rd_L1 x59 x61) 1) * x173000)) + (rd (rd_L1 x59 x61) 0)))) + 1))) x184002) else (none)) else (none)) else (none)) else (none)) else (if 1 < ((rd_L1 x59 x61).length : Int) then (if 0 < ((rd_L1 x59 x61).length : Int) then (if 0 ≤ (wrap64 ((wrap64 ((rd (rd_L1 x59 x61) 1) * x173000)) + (rd (rd_L1 x59 x61) 0))) then (if (wrap64 ((wrap64 ((rd (rd_L1 x59 x61) 1) * x173000)) + (rd (rd_L1 x59 x61) 0))) < (x184002.length : Int) then (impl_AddRay.l0 k x5 x17 x59 x60 (wrap64 (x61 + 1)) x173000 x173001 x173002 x184000 x184001 (x184002.set ((wrap64 ((wrap64 ((rd (rd_L1 x59 x61) 1) * x173000)) + (rd (rd_L1 x59 x61) 0))) : Int).toNat (wrap64 ((rd x184002 (wrap64 ((wrap64 ((rd (rd_L1 x59 x61) 1) * x173000)) + (rd (rd_L1 x59 x61) 0)))) + 1)))) else (none)) else (none)) else (none)) else (none))) else (if 1 < ((rd_L1 x59 x61).length : Int) then (if 0 < ((rd_L1 x59 x61).length : Int) then (if 0 ≤ (wrap64 ((wrap64 ((rd (rd_L1 x59 x61) 1) * x173000)) + (rd (rd_L1 x59 x61) 0))) then (if (wrap64 ((wrap64 ((rd (rd_L1 x59 x61) 1) * x173000)) + (rd (rd_L1 x59 x61) 0))) < (x184002.length : Int) then (impl_AddRay.l0 k x5 x17 x59 x60 (wrap64 (x61 + 1)) x173000 x173001 x173002 x184000 x184001 (x184002.set ((wrap64 ((wrap64 ((rd (rd_L1 x59 x61) 1) * x173000)) + (rd (rd_L1 x59 x61) 0))) : Int).toNat (wrap64 ((rd x184002 (wrap64 ((wrap64 ((rd (rd_L1 x59 x61) 1) * x173000)) + (rd (rd_L1 x59 x61) 0)))) + 1)))) else (none)) else (none)) else (none)) else (none))) else (none)) else (none)) else ((impl_GoodCounts.f k x184000 x184001 x184002).bind fun t200 => (if t200 = true then (some (x184000, x184001, x184002, true)) else (some (0, ([] : List Int), ([] : List Int), false))))
end
def impl_AddRay.f (k : Nat) (a0_0 : Int) (l0_1 : List Int) (l0_2 : List Int) (a1 : Int) (a2 : Int) (a3 : Int) (a4 : Int) (a5 : Bool) : Option (Int × List Int × List Int × Bool) := (impl_GoodCounts.f k a0_0 l0_1 l0_2).bind fun t174 => (if t174 = true then (if a0_0 = 0 then (none) else ((impl_AddRay_1.f a1 a2 a0_0 (wrap64 ((l0_1.length : Int) / a0_0))).bind fun t175 => (if t175 = true then ((impl_AddRay_1.f a3 a4 a0_0 (wrap64 ((l0_1.length : Int) / a0_0))).bind fun t176 => (impl_AddRay.j0 k a1 a2 a3 a4 a5 (!t176) a0_0 l0_1 l0_2)) else (impl_AddRay.j0 k a1 a2 a3 a4 a5 true a0_0 l0_1 l0_2)))) else (some (0, ([] : List Int), ([] : List Int), false)))
theorem impl_AddRay.mono_l : ∀ k, (∀ y0 y1 y2 y3 y4 y5 y6 y7 y8, LeO (impl_AddRay.j0 k y0 y1 y2 y3 y4 y5 y6 y7 y8) (impl_AddRay.j0 (k + 1) y0 y1 y2 y3 y4 y5 y6 y7 y8)) ∧ (∀ y0 y1 y2 y3 y4 y5 y6 y7 y8 y9 y10, LeO (impl_AddRay.l0 k y0 y1 y2 y3 y4 y5 y6 y7 y8 y9 y10) (impl_AddRay.l0 (k + 1) y0 y1 y2 y3 y4 y5 y6 y7 y8 y9 y10))
 | 0 => ⟨fun _ _ _ _ _ _ _ _ _ r h => by simp [impl_AddRay.j0] at h, fun _ _ _ _ _ _ _ _ _ _ _ r h => by simp [impl_AddRay.l0] at h⟩
 | k + 1 => by
  obtain ⟨ih0, ih1⟩ := impl_AddRay.mono_l k
  refine ⟨?_, ?_⟩
  ·intro y0 y1 y2 y3 y4 y5 y6 y7 y8
   unfold impl_AddRay.j0
   repeat' first
   | (with_reducible exact ih0 _ _ _ _ _ _ _ _ _)
   | (with_reducible exact ih1 _ _ _ _ _ _ _ _ _ _ _)
   | (with_reducible exact impl_GoodCounts.mono _ _ _ _)
   | (with_reducible exact impl_LineCells.mono _ _ _ _ _)
   | (with_reducible exact LeO.refl _)
   | (with_reducible exact LeO.none _)
   | (with_reducible refine LeO.ite ?_ ?_)
   | (with_reducible refine LeO.bind ?_ (fun _ => ?_))
   | exact ih0 _ _ _ _ _ _ _ _ _
   | exact ih1 _ _ _ _ _ _ _ _ _ _ _
   | exact impl_GoodCounts.mono _ _ _ _
   | exact impl_LineCells.mono _ _ _ _ _
   | exact LeO.none _
   | refine LeO.ite ?_ ?_
   | refine LeO.bind ?_ (fun _ => ?_)
  ·intro y0 y1 y2 y3 y4 y5 y6 y7 y8 y9 y10
   unfold impl_AddRay.l0
   repeat' first
   | (with_reducible exact ih0 _ _ _ _ _ _ _ _ _)
   | (with_reducible exact ih1 _ _ _ _ _ _ _ _ _ _ _)
   | (with_reducible exact impl_GoodCounts.mono _ _ _ _)
   | (with_reducible exact impl_LineCells.mono _ _ _ _ _)
   | (with_reducible exact LeO.refl _)
   | (with_reducible exact LeO.none _)
   | (with_reducible refine LeO.ite ?_ ?_)
   | (with_reducible refine LeO.bind ?_ (fun _ => ?_))
   | exact ih0 _ _ _ _ _ _ _ _ _
   | exact ih1 _ _ _ _ _ _ _ _ _ _ _
   | exact impl_GoodCounts.mono _ _ _ _
   | exact impl_LineCells.mono _ _ _ _ _
   | exact LeO.none _
   | refine LeO.ite ?_ ?_
   | refine LeO.bind ?_ (fun _ => ?_)
theorem impl_AddRay.mono : ∀ a0 a1 a2 a3 a4 a5 a6 a7 k, LeO (impl_AddRay.f k a0 a1 a2 a3 a4 a5 a6 a7) (impl_AddRay.f (k + 1) a0 a1 a2 a3 a4 a5 a6 a7) := by
 intro a0 a1 a2 a3 a4 a5 a6 a7 k
 obtain ⟨ih0, ih1⟩ := impl_AddRay.mono_l k
 unfold impl_AddRay.f
 repeat' first
   | (with_reducible exact ih0 _ _ _ _ _ _ _ _ _)
   | (with_reducible exact ih1 _ _ _ _ _ _ _ _ _ _ _)
   | (with_reducible exact impl_GoodCounts.mono _ _ _ _)
   | (with_reducible exact impl_LineCells.mono _ _ _ _ _)
   | (with_reducible exact LeO.refl _)
   | (with_reducible exact LeO.none _)
   | (with_reducible refine LeO.ite ?_ ?_)
   | (with_reducible refine LeO.bind ?_ (fun _ => ?_))
   | exact ih0 _ _ _ _ _ _ _ _ _
   | exact ih1 _ _ _ _ _ _ _ _ _ _ _
   | exact impl_GoodCounts.mono _ _ _ _
   | exact impl_LineCells.mono _ _ _ _ _
   | exact LeO.none _
   | refine LeO.ite ?_ ?_
   | refine LeO.bind ?_ (fun _ => ?_)
def impl_AddRay.T7 : Bool × List (List Nat × List Nat) := (true, [([], []), ([0], [0]), ([], []), ([2], [2]), ([3], [3]), ([], []), ([5], [5]), ([6, 4], [6]), ([1, 4, 7], [1, 4, 7]), ([], []), ([9, 8, 7, 0, 1, 2, 3, 4, 5, 6, 7, 8, 9], [8, 9])])
def impl_AddRay.B7 : List Nat := [0, 1, 0, 4, 12, 0, 32, 124, 255, 0, 1023]
theorem impl_AddRay.tab7 : rtab .any (opsOf Try.f14 7) = impl_AddRay.T7 := by kernel_rfl
theorem impl_AddRay.bits7 : waitsOk impl_AddRay.T7.2 impl_AddRay.B7 = true := by kernel_rfl
def impl_AddRay.T15 : Bool × List (List Nat × List Nat) := (true, [([], []), ([], []), ([1], [1]), ([2], [2]), ([], []), ([4], [4]), ([3, 5], [3, 5]), ([], []), ([7], [7]), ([8], [8]), ([6, 9], [6, 9]), ([0, 10], [0, 10]), ([11], [11]), ([12], [12]), ([0, 10, 0, 1, 2, 3, 4, 5, 6, 7, 8, 9, 10, 11, 12, 13], [0, 10]), ([14, 13, 0, 1, 2, 3, 4, 5, 6, 7, 8, 9, 10, 11, 12, 13], [13, 14])])
def impl_AddRay.B15 : List Nat := [0, 0, 2, 6, 0, 16, 62, 0, 128, 384, 1022, 2047, 4095, 8191, 16383, 32767]
theorem impl_AddRay.tab15 : rtab .any (opsOf Try.f14 15) = impl_AddRay.T15 := by kernel_rfl
theorem impl_AddRay.bits15 : waitsOk impl_AddRay.T15.2 impl_AddRay.B15 = true := by kernel_rfl
set_option maxHeartbeats 8000000 in
set_option maxRecDepth 100000 in
theorem impl_AddRay.calls (k : Nat) (a0_0 : Int) (A0_1 : Option Addr) (c0_1 : Nat) (l0_1 : List Int) (A0_2 : Option Addr) (c0_2 : Nat) (l0_2 : List Int) (a1 : Int) (a2 : Int) (a3 : Int) (a4 : Int) (a5 : Bool) (r1 : Int) (r2 : List Int) (r3 : List Int) (r4 : Bool) (w : World) (hr0_1 : Kd.C (Kd.int .i64) w A0_1 l0_1.length l0_1) (hc0_1 : l0_1.length ≤ c0_1) (hr0_2 : Kd.C (Kd.int .i64) w A0_2 l0_2.length l0_2) (hc0_2 : l0_2.length ≤ c0_2) (h : impl_AddRay.f k a0_0 l0_1 l0_2 a1 a2 a3 a4 a5 = some (r1, r2, r3, r4)) :
  Calls Try.prog 14 #[.agg #[.int .i64 a0_0, .slice A0_1 l0_1.length c0_1, .slice A0_2 l0_2.length c0_2], .int .i64 a1, .int .i64 a2, .int .i64 a3, .int .i64 a4, .bool a5] w fun e w' => ∃ v1_ v2_ : Value, e = .returned (.tuple #[.agg #[.int .i64 r1, v1_, v2_], .bool r4]) ∧ Kd.R (Kd.int .i64) 3 w' w.heap.size (fun k_ => N_ v2_ k_) v1_ r2 ∧ Kd.R (Kd.int .i64) 3 w' w.heap.size (fun k_ => N_ v1_ k_) v2_ r3 ∧ Below w.heap.size w w' := by
 have hu31 := Try.underlying31
 have HR0_1 := Aside0.mk hr0_1
 have HC0_1 := Aside0.mk hc0_1
 clear hr0_1 hc0_1
 have HR0_2 := Aside0.mk hr0_2
 have HC0_2 := Aside0.mk hc0_2
 clear hr0_2 hc0_2
 have HB := a_ (Below.refl w.heap.size w)
 have H : ((impl_GoodCounts.f k a0_0 l0_1 l0_2).bind fun t174 => (if t174 = true then (if a0_0 = 0 then (none) else ((impl_AddRay_1.f a1 a2 a0_0 (wrap64 ((l0_1.length : Int) / a0_0))).bind fun t175 => (if t175 = true then ((impl_AddRay_1.f a3 a4 a0_0 (wrap64 ((l0_1.length : Int) / a0_0))).bind fun t176 => (impl_AddRay.j0 k a1 a2 a3 a4 a5 (!t176) a0_0 l0_1 l0_2)) else (impl_AddRay.j0 k a1 a2 a3 a4 a5 true a0_0 l0_1 l0_2)))) else (some (0, ([] : List Int), ([] : List Int), false)))) = some (r1, r2, r3, r4) := h
 clear h
 replace H := Option.bind_eq_some_iff.mp H
 obtain ⟨t174, A70, H⟩ := H
 replace H : (if t174 = true then (if a0_0 = 0 then (none) else ((impl_AddRay_1.f a1 a2 a0_0 (wrap64 ((l0_1.length : Int) / a0_0))).bind fun t175 => (if t175 = true then ((impl_AddRay_1.f a3 a4 a0_0 (wrap64 ((l0_1.length : Int) / a0_0))).bind fun t176 => (impl_AddRay.j0 k a1 a2 a3 a4 a5 (!t176) a0_0 l0_1 l0_2)) else (impl_AddRay.j0 k a1 a2 a3 a4 a5 true a0_0 l0_1 l0_2)))) else (some (0, ([] : List Int), ([] : List Int), false))) = some (r1, r2, r3, r4) := H
 have A7 := Aside0.mk A70
 clear A70
 by_cases c8 : t174 = true
 ·subst c8
  have H1 : (if a0_0 = 0 then (none) else ((impl_AddRay_1.f a1 a2 a0_0 (wrap64 ((l0_1.length : Int) / a0_0))).bind fun t175 => (if t175 = true then ((impl_AddRay_1.f a3 a4 a0_0 (wrap64 ((l0_1.length : Int) / a0_0))).bind fun t176 => (impl_AddRay.j0 k a1 a2 a3 a4 a5 (!t176) a0_0 l0_1 l0_2)) else (impl_AddRay.j0 k a1 a2 a3 a4 a5 true a0_0 l0_1 l0_2)))) = some (r1, r2, r3, r4) := by rw [if_pos rfl] at H; exact H
  clear H
  have H := H1
  clear H1
  by_cases c9 : a0_0 = 0
  ·rw [if_pos c9] at H
   exact absurd H (by simp)
  ·rw [if_neg c9] at H
   have c9b0 : (a0_0 == 0) = false := beq_eq_false_iff_ne.mpr c9
   have c9b1 : (a0_0 != 0) = true := bne_iff_ne.mpr c9
   have HC10 := Aside0.mk H
   clear H
   go_enter Try.func14, Try.ntmps14
   have hmf : ∀ (fn : Fn) (first cap : Array Value) (w : World), (Instr.makeFunc fn first cap).run Try.prog w = .ok (.func fn first cap) w := fun _ _ _ _ => rfl
   go_upto_region 5 with (first | ((with_reducible refine gate_dst (N := 6) rfl ?_); refine box_event ?hg (N := 6) ?hd (cs := #[.int .i64 a0_0, .slice A0_1 l0_1.length c0_1, .slice A0_2 l0_2.length c0_2]) (t := 31) ?hr ?_; (case hd => rfl); (case hg => rfl); (case hr => first | (go_simp; done) | (go_simp; rfl)); intro gb172 hg w11 hbox hb; have BK172 := a_ (hbox); have GW172 := a_ (bsg hg HB.out); have GE172 := a_ (bsg hg HB.out); replace HB := a_ (below_step (un HB.out) hb); clear hb hbox hg) | ((with_reducible refine gate_dst (N := 12) rfl ?_); refine box_event ?hg (N := 12) ?hd (cs := #[.int .i64 0, .slice none 0 0, .slice none 0 0]) (t := 31) ?hr ?_; (case hd => rfl); (case hg => rfl); (case hr => first | (go_simp; done) | (go_simp; rfl)); intro gb173 hg w12 hbox hb; have BK173 := a_ (hbox); have GW173 := a_ (bsg hg HB.out); have GE173 := a_ (bsg hg HB.out); replace HB := a_ (below_step (by repeat (with_reducible first | exact HB.out | refine bz ?_ (by assumption) | apply bA | apply bN | apply bD)) hb); have NB172_173 := a_ (nel hg BK172.out); have NB173_172 := a_ (nle hg BK172.out); replace BK172 := a_ (blk_below (pk BK172.out) hb); clear hb hbox hg; have hnb13 := NB172_173.out; have hnc13 := NB173_172.out; have hcz14_0 : _ = some (Value.int .i64 a0_0) := (blk_cell BK172.out 0).trans rfl; have hcz14_1 : _ = some (Value.slice A0_1 l0_1.length c0_1) := (blk_cell BK172.out 1).trans rfl; have hcz14_2 : _ = some (Value.slice A0_2 l0_2.length c0_2) := (blk_cell BK172.out 2).trans rfl; have hfz14_0 := blk_frozen BK172.out 0; have hfz14_1 := blk_frozen BK172.out 1; have hfz14_2 := blk_frozen BK172.out 2) | ((with_reducible refine gate_callee (f := 32) rfl ?_); refine goesL_ (some 22) rfl rfl Try.func32 (by kernel_rfl) rfl #[.agg #[.int .i64 a0_0, .slice A0_1 l0_1.length c0_1, .slice A0_2 l0_2.length c0_2]] rfl (by (try simp only [lA, lB, lC]); first | done | rfl | (simp only [lD, lE]; rfl)) ?_; (with_reducible refine (impl_GoodCounts.calls k a0_0 (fun k_ => k_ < w.heap.size) _ _ l0_1 (fun k_ => k_ < w.heap.size) _ _ l0_2 true _ ?side1 ?side2 A7.out).mono ?_); (case side1 => exact Kd.V_mk HC0_1.out (Kd.F_below (Kd.C_F (Kd.heap_int .i64) HR0_1.out) (by repeat (with_reducible first | exact HB.out | refine bz ?_ (by assumption) | apply bA | apply bN | apply bD)))); (case side2 => exact Kd.V_mk HC0_2.out (Kd.F_below (Kd.C_F (Kd.heap_int .i64) HR0_2.out) (by repeat (with_reducible first | exact HB.out | refine bz ?_ (by assumption) | apply bA | apply bN | apply bD)))); rintro e w15 ⟨rfl, hb⟩; refine ⟨_, rfl, ?_⟩; replace BK172 := a_ (blk_below (pk BK172.out) hb); replace BK173 := a_ (blk_below (pk BK173.out) hb); replace HB := a_ (below_step (by repeat (with_reducible first | exact HB.out | refine bz ?_ (by assumption) | apply bA | apply bN | apply bD)) hb); clear hb; have hcz16_0 : _ = some (Value.int .i64 a0_0) := (blk_cell BK172.out 0).trans rfl; have hcz16_1 : _ = some (Value.slice A0_1 l0_1.length c0_1) := (blk_cell BK172.out 1).trans rfl; have hcz16_2 : _ = some (Value.slice A0_2 l0_2.length c0_2) := (blk_cell BK172.out 2).trans rfl; have hfz16_0 := blk_frozen BK172.out 0; have hfz16_1 := blk_frozen BK172.out 1; have hfz16_2 := blk_frozen BK172.out 2) | ((with_reducible refine gate_dst (N := 14) rfl ?_); refine box_event ?hg (N := 14) ?hd (cs := #[.int .i64 0]) (t := 3) ?hr ?_; (case hd => rfl); (case hg => rfl); (case hr => first | (go_simp; done) | (go_simp; rfl)); intro gb300 hg w300 hbox hb; have n0_ := a_ (blk_below BK172.out hb); have n1_ := a_ (blk_below BK173.out hb); have n3_ := Aside0.mk hbox; have n4_ := a_ ((by rw [hg]; exact below_size HB.out) : w.heap.size ≤ gb300); have n5_ := a_ ((by rw [hg]; exact Nat.ne_of_lt (blk_lt BK172.out)) : gb172 ≠ gb300); have n6_ := a_ ((by rw [hg]; exact Nat.ne_of_lt (blk_lt BK173.out)) : gb173 ≠ gb300); have n2_ := a_ (below_step HB.out hb); clear BK172 BK173 HB; have BK172 := n0_; have BK173 := n1_; have HB := n2_; have BK300 := n3_; have GE300 := n4_; have NB172_300 := n5_; have NB173_300 := n6_; clear n0_ n1_ n2_ n3_ n4_ n5_ n6_ hb hbox hg; have hcz300 : _ = some (Value.int .i64 0) := (blk_cell BK300.out 0).trans rfl; have hfz300 := blk_frozen BK300.out 0))
   (try simp only [Act.put, sB, sC, sD])
   generalize hw301 : World.setCell w300 _ _ = w301
   have n0_ : Aside0 (w301.heap[gb172]? = some (.cells #[.int .i64 a0_0, .slice A0_1 l0_1.length c0_1, .slice A0_2 l0_2.length c0_2] 31 (0, 0))) := ⟨by rw [← hw301]; exact (Below.heap_setCell _ _ _ _ NB172_300.out).trans BK172.out⟩
   have n1_ : Aside0 (w301.heap[gb173]? = some (.cells #[.int .i64 0, .slice none 0 0, .slice none 0 0] 31 (0, 0))) := ⟨by rw [← hw301]; exact (Below.heap_setCell _ _ _ _ NB173_300.out).trans BK173.out⟩
   have n2_ : Aside0 (Below w.heap.size w w301) := ⟨by rw [← hw301]; exact below_set HB.out GE300.out⟩
   have n3_ : Aside0 (w301.heap[gb300]? = some (.cells #[.int .i64 (wrap64 ((l0_1.length : Int) / a0_0))] 3 (0, 0))) := ⟨by rw [← hw301]; exact one_setCell BK300.out⟩
   clear hw301 hcz300 hfz300 BK172 BK173 BK300 HB
   have BK172 := n0_
   have BK173 := n1_
   have BK300 := n3_
   have HB := n2_
   clear n0_ n1_ n2_ n3_
   go_cut [43] (fun v43 wc => ∃ (kq : Nat) (x43_9 : Bool), v43 = .bool x43_9 ∧ Aside0 (impl_AddRay.j0 kq a1 a2 a3 a4 a5 x43_9 a0_0 l0_1 l0_2 = some (r1, r2, r3, r4)) ∧ Aside0 (kq ≤ k) ∧ Aside0 (wc.heap[gb172]? = some (.cells #[.int .i64 a0_0, (.slice A0_1 l0_1.length c0_1), (.slice A0_2 l0_2.length c0_2)] 31 (0, 0))) ∧ Aside0 (wc.heap[gb173]? = some (.cells #[.int .i64 0, (.slice none 0 0), (.slice none 0 0)] 31 (0, 0))) ∧ Aside0 (Below w.heap.size w wc))
   case first =>
    have H := HC10.out
    clear HC10
    replace H := Option.bind_eq_some_iff.mp H
    obtain ⟨t175, A170, H⟩ := H
    replace H : (if t175 = true then ((impl_AddRay_1.f a3 a4 a0_0 (wrap64 ((l0_1.length : Int) / a0_0))).bind fun t176 => (impl_AddRay.j0 k a1 a2 a3 a4 a5 (!t176) a0_0 l0_1 l0_2)) else (impl_AddRay.j0 k a1 a2 a3 a4 a5 true a0_0 l0_1 l0_2)) = some (r1, r2, r3, r4) := H
    have A17 := Aside0.mk A170
    clear A170
    by_cases c18 : t175 = true
    ·subst c18
     have H1 : ((impl_AddRay_1.f a3 a4 a0_0 (wrap64 ((l0_1.length : Int) / a0_0))).bind fun t176 => (impl_AddRay.j0 k a1 a2 a3 a4 a5 (!t176) a0_0 l0_1 l0_2)) = some (r1, r2, r3, r4) := by rw [if_pos rfl] at H; exact H
     clear H
     have H := H1
     clear H1
     replace H := Option.bind_eq_some_iff.mp H
     obtain ⟨t176, A190, H⟩ := H
     replace H : (impl_AddRay.j0 k a1 a2 a3 a4 a5 (!t176) a0_0 l0_1 l0_2) = some (r1, r2, r3, r4) := H
     have A19 := Aside0.mk A190
     clear A190
     have H' := Aside0.mk H
     clear H
     go_wp2_with (first | (go_at_call 33; (with_reducible refine (impl_AddRay_1.calls a1 a2 a0_0 (wrap64 ((l0_1.length : Int) / a0_0)) true gb172 gb300 _ ((blk_cell BK172.out 0).trans rfl) ((blk_cell BK300.out 0).trans rfl) A17.out).mono ?_); rintro e w20 ⟨rfl, hb⟩; have n9_ := a_ (blk_below BK300.out hb); clear BK300; have BK300 := n9_; clear n9_; replace BK172 := a_ (blk_below (pk BK172.out) hb); replace BK173 := a_ (blk_below (pk BK173.out) hb); replace HB := a_ (below_step (by repeat (with_reducible first | exact HB.out | refine bz ?_ (by assumption) | apply bA | apply bN | apply bD)) hb); clear hb) | (go_at_call 33; (with_reducible refine (impl_AddRay_1.calls a3 a4 a0_0 (wrap64 ((l0_1.length : Int) / a0_0)) t176 gb172 gb300 _ ((blk_cell BK172.out 0).trans rfl) ((blk_cell BK300.out 0).trans rfl) A19.out).mono ?_); rintro e w21 ⟨rfl, hb⟩; have n9_ := a_ (blk_below BK300.out hb); clear BK300; have BK300 := n9_; clear n9_; replace BK172 := a_ (blk_below (pk BK172.out) hb); replace BK173 := a_ (blk_below (pk BK173.out) hb); replace HB := a_ (below_step (by repeat (with_reducible first | exact HB.out | refine bz ?_ (by assumption) | apply bA | apply bN | apply bD)) hb); clear hb))
     go_meet
     case rel => exact ⟨_, (!t176), (by first | rfl | (simp; done) | (simp [*]; done)), H', ⟨by first | omega | exact Nat.le_refl _⟩, ⟨pk BK172.out⟩, ⟨pk BK173.out⟩, ⟨by repeat (with_reducible first | exact HB.out | refine bz ?_ (by assumption) | apply bA | apply bN | apply bD)⟩⟩
    ·replace c18 := Bool.eq_false_iff.mpr c18
     subst c18
     have H1 : (impl_AddRay.j0 k a1 a2 a3 a4 a5 true a0_0 l0_1 l0_2) = some (r1, r2, r3, r4) := by rw [if_neg (show ¬ (false = true) by decide)] at H; exact H
     clear H
     have H := H1
     clear H1
     have H' := Aside0.mk H
     clear H
     go_wp2_with (first | (go_at_call 33; (with_reducible refine (impl_AddRay_1.calls a1 a2 a0_0 (wrap64 ((l0_1.length : Int) / a0_0)) false gb172 gb300 _ ((blk_cell BK172.out 0).trans rfl) ((blk_cell BK300.out 0).trans rfl) A17.out).mono ?_); rintro e w22 ⟨rfl, hb⟩; have n9_ := a_ (blk_below BK300.out hb); clear BK300; have BK300 := n9_; clear n9_; replace BK172 := a_ (blk_below (pk BK172.out) hb); replace BK173 := a_ (blk_below (pk BK173.out) hb); replace HB := a_ (below_step (by repeat (with_reducible first | exact HB.out | refine bz ?_ (by assumption) | apply bA | apply bN | apply bD)) hb); clear hb))
     go_meet
     case rel => exact ⟨_, (true), (by first | rfl | (simp; done) | (simp [*]; done)), H', ⟨by first | omega | exact Nat.le_refl _⟩, ⟨pk BK172.out⟩, ⟨pk BK173.out⟩, ⟨by repeat (with_reducible first | exact HB.out | refine bz ?_ (by assumption) | apply bA | apply bN | apply bD)⟩⟩
   case rest =>
    clear HC10
    clear BK300 GE300 NB172_300 NB173_300 hmf
    try clear c1; try clear p2; try clear c3; try clear p6; try clear c8; try clear c9; try clear c9b0; try clear c9b1; try clear c13; try clear c14; try clear c18; try clear hcz14_0; try clear hcz14_1; try clear hcz14_2; try clear hcz16_0; try clear hcz16_1; try clear hcz16_2; try clear hfz14_0; try clear hfz14_1; try clear hfz14_2; try clear hfz16_0; try clear hfz16_1; try clear hfz16_2
    obtain ⟨kq, x43_9, rfl, HA, HJ9, BK172, BK173, HB⟩ := hcut
    cases kq with
    | zero => exact absurd HA.out (by simp [impl_AddRay.j0])
    | succ kj9 =>
     have H := HA.out
     clear HA
     simp only [impl_AddRay.j0] at H
     by_cases c23 : x43_9 = true
     ·subst c23
      have H1 : (some (0, ([] : List Int), ([] : List Int), false)) = some (r1, r2, r3, r4) := by rw [if_pos rfl] at H; exact H
      clear H
      have H := H1
      clear H1
      simp only [Option.some.injEq, Prod.mk.injEq] at H
      obtain ⟨rfl, rfl, rfl, rfl⟩ := H
      have hnb24 := NB173_172.out
      have hnc24 := NB172_173.out
      have hcz25_0 : wc.cell? ⟨gb173, 0, none⟩ = some (.int .i64 0) := (blk_cell BK173.out 0).trans rfl
      have hcz25_1 : wc.cell? ⟨gb173, 1, none⟩ = some (.slice none 0 0) := (blk_cell BK173.out 1).trans rfl
      have hcz25_2 : wc.cell? ⟨gb173, 2, none⟩ = some (.slice none 0 0) := (blk_cell BK173.out 2).trans rfl
      have hfz25_0 := blk_frozen BK173.out 0
      have hfz25_1 := blk_frozen BK173.out 1
      have hfz25_2 := blk_frozen BK173.out 2
      go_wp2
      refine bodyPost_ret (results_ct rfl _ _ gb173 31 #[.int .i64 0, .slice none 0 0, .slice none 0 0] (0, 0) _ rfl (by refine pk ?_; refine blk_put (cs := #[.int .i64 0, .slice none 0 0, .slice none 0 0]) ?_ 2 _ rfl; refine pk ?_; refine blk_put (cs := #[.int .i64 0, .slice none 0 0, .slice none 0 0]) ?_ 1 _ rfl; refine pk ?_; refine blk_put (cs := #[.int .i64 0, .slice none 0 0, .slice none 0 0]) ?_ 0 _ rfl; refine pk ?_; exact BK173.out) Try.underlying31 rfl (by kernel_rfl)) rfl ?_
      exact ⟨_, _, by first | rfl | (simp [errW_none, errW_some] <;> rfl) | (simp [*, errW_none, errW_some] <;> rfl), by first | exact Kd.R_nil _ _ _ _ _ | exact Kd.N_nil _ _ _ _ _ | exact Kd.V_nil _ _ _ _ _ | exact Kd.Q_nil _ _ _ _ _ | exact Kd.S_nil _ _ _ _ _, by first | exact Kd.R_nil _ _ _ _ _ | exact Kd.N_nil _ _ _ _ _ | exact Kd.V_nil _ _ _ _ _ | exact Kd.Q_nil _ _ _ _ _ | exact Kd.S_nil _ _ _ _ _, by repeat (with_reducible first | exact HB.out | refine bz ?_ (by assumption) | apply bA | apply bN | apply bD)⟩
     ·replace c23 := Bool.eq_false_iff.mpr c23
      subst c23
      have H1 : (if ([] : List Int).length + l0_1.length < 17592186044416 then (if ([] : List Int).length + l0_2.length < 17592186044416 then ((impl_LineCells.f kj9 a1 a2 a3 a4).bind fun t184 => (impl_AddRay.l0 kj9 a5 t184 t184 (t184.length : Int) 0 a0_0 l0_1 l0_2 a0_0 (([] : List Int) ++ l0_1) (([] : List Int) ++ l0_2))) else (none)) else (none)) = some (r1, r2, r3, r4) := by rw [if_neg (show ¬ (false = true) by decide)] at H; exact H
      clear H
      have H := H1
      clear H1
      by_cases c26 : ([] : List Int).length + l0_1.length < 17592186044416
      ·rw [if_pos c26] at H
       have LMc26 := Aside0.mk c26
       clear c26
       obtain ⟨y177, hy177⟩ : ∃ y_ : List Int, y_ = (([] : List Int) ++ l0_1) := ⟨_, rfl⟩
       replace H : (if ([] : List Int).length + l0_2.length < 17592186044416 then ((impl_LineCells.f kj9 a1 a2 a3 a4).bind fun t184 => (impl_AddRay.l0 kj9 a5 t184 t184 (t184.length : Int) 0 a0_0 l0_1 l0_2 a0_0 y177 (([] : List Int) ++ l0_2))) else (none)) = some (r1, r2, r3, r4) := by first | (rw [hy177]; with_reducible exact H) | (have H2_ := (Option.bind_some _ _).symm.trans H; rw [hy177]; with_reducible exact H2_) | (have H2_ := (Option.bind_some _ _).symm.trans H; with_reducible exact H2_) | with_reducible exact H | (rw [hy177]; exact H) | exact H
       have Ny177 := Aside0.mk hy177
       clear hy177
       by_cases c27 : ([] : List Int).length + l0_2.length < 17592186044416
       ·rw [if_pos c27] at H
        have LMc27 := Aside0.mk c27
        clear c27
        obtain ⟨y180, hy180⟩ : ∃ y_ : List Int, y_ = (([] : List Int) ++ l0_2) := ⟨_, rfl⟩
        replace H : ((impl_LineCells.f kj9 a1 a2 a3 a4).bind fun t184 => (impl_AddRay.l0 kj9 a5 t184 t184 (t184.length : Int) 0 a0_0 l0_1 l0_2 a0_0 y177 y180)) = some (r1, r2, r3, r4) := by first | (rw [hy180]; with_reducible exact H) | (have H2_ := (Option.bind_some _ _).symm.trans H; rw [hy180]; with_reducible exact H2_) | (have H2_ := (Option.bind_some _ _).symm.trans H; with_reducible exact H2_) | with_reducible exact H | (rw [hy180]; exact H) | exact H
        have Ny180 := Aside0.mk hy180
        clear hy180
        replace H := Option.bind_eq_some_iff.mp H
        obtain ⟨t184, A280, H⟩ := H
        replace H : (impl_AddRay.l0 kj9 a5 t184 t184 (t184.length : Int) 0 a0_0 l0_1 l0_2 a0_0 y177 y180) = some (r1, r2, r3, r4) := H
        have A28 := Aside0.mk A280
        clear A280
        have H' := Aside0.mk H
        clear H
        try go_wp2
        replace BK172 := a_ (blk_drew BK172.out)
        replace BK173 := a_ (blk_drew BK173.out)
        replace HB := a_ (below_drew1 HB.out)
        refine start_ (n := 11) (S := fun w' => w'.cell? ⟨gb172, 0, none⟩ = some (.int .i64 a0_0) ∧ w'.cell? ⟨gb172, 1, none⟩ = some (.slice A0_1 l0_1.length c0_1) ∧ w'.cell? ⟨gb172, 2, none⟩ = some (.slice A0_2 l0_2.length c0_2)) (ds := []) #[false, false, false, false, false, false, false, false, false, false, false] (by kernel_rfl) rfl rfl ⟨(blk_cell BK172.out 0).trans rfl, (blk_cell BK172.out 1).trans rfl, (blk_cell BK172.out 2).trans rfl⟩ (fun hHeld => ?_); refine with_tabW impl_AddRay.tab7 impl_AddRay.bits7 (fun HT_ HW_ => ?_)
        generalize wc.drew = w29 at BK172 BK173 HB hHeld ⊢
        refine pure_ (i := 0) (N := some 45) (v := ?_) (a' := ?_) #[true, false, false, false, false, false, false, false, false, false, false] rfl rfl (any_of HT_.out (by kernel_rfl)) (fun _ _ _ h => h) (Or.inl ⟨by rfl, ?_⟩) ?_ ?_
        rotate_left
        ·intro w'
         go_simp
         with_reducible rfl
        rotate_left
        ·simp only [Act.put, sB, sC, sD, i64_w, i32_w]
         rfl
        refine pure_ (i := 2) (N := some 47) (v := ?_) (a' := ?_) #[true, false, true, false, false, false, false, false, false, false, false] rfl rfl (any_of HT_.out (by kernel_rfl)) (fun _ _ _ h => h) (Or.inl ⟨by rfl, ?_⟩) ?_ ?_
        rotate_left
        ·intro w'
         go_simp
         with_reducible rfl
        rotate_left
        ·simp only [Act.put, sB, sC, sD, i64_w, i32_w]
         rfl
        refine pure_ (i := 5) (N := some 50) (v := ?_) (a' := ?_) #[true, false, true, false, false, true, false, false, false, false, false] rfl rfl (any_of HT_.out (by kernel_rfl)) (fun _ _ _ h => h) (Or.inl ⟨by rfl, ?_⟩) ?_ ?_
        rotate_left
        ·intro w'
         go_simp
         with_reducible rfl
        rotate_left
        ·simp only [Act.put, sB, sC, sD, i64_w, i32_w]
         rfl
        refine take_ (i := 1) (N := some 46) (v := ?_) (a' := ?_) #[true, true, true, false, false, true, false, false, false, false, false] rfl rfl (take_ofW HT_.out HW_.out (by kernel_rfl)) (fun _ _ _ h => h) (Or.inl ⟨by rfl, ?_⟩) hHeld ?_ ?_
        rotate_left
        ·rintro w' ⟨s0, s1, s2⟩
         go_simp
         with_reducible rfl
        rotate_left
        ·simp only [Act.put, sB, sC, sD, i64_w, i32_w]
         rfl
        refine take_ (i := 3) (N := some 48) (v := ?_) (a' := ?_) #[true, true, true, true, false, true, false, false, false, false, false] rfl rfl (take_ofW HT_.out HW_.out (by kernel_rfl)) (fun _ _ _ h => h) (Or.inl ⟨by rfl, ?_⟩) hHeld ?_ ?_
        rotate_left
        ·rintro w' ⟨s0, s1, s2⟩
         go_simp
         with_reducible rfl
        rotate_left
        ·simp only [Act.put, sB, sC, sD, i64_w, i32_w]
         rfl
        refine take_ (i := 6) (N := some 51) (v := ?_) (a' := ?_) #[true, true, true, true, false, true, true, false, false, false, false] rfl rfl (take_ofW HT_.out HW_.out (by kernel_rfl)) (fun _ _ _ h => h) (Or.inl ⟨by rfl, ?_⟩) hHeld ?_ ?_
        rotate_left
        ·rintro w' ⟨s0, s1, s2⟩
         go_simp
         with_reducible rfl
        rotate_left
        ·simp only [Act.put, sB, sC, sD, i64_w, i32_w]
         rfl
        refine join_ (σ := Value × Value × Nat) 1 #[true, true, true, true, true, true, true, true, true, true, false] (fun s_ => [(49, s_.1), (52, s_.2.1), (16, .pointer (some ⟨s_.2.2, 0, none⟩)), (53, .agg #[.int .i64 a0_0, s_.1, s_.2.1])]) (fun s_ w' => (w'.cell? ⟨gb172, 0, none⟩ = some (.int .i64 a0_0) ∧ w'.cell? ⟨gb172, 1, none⟩ = some (.slice A0_1 l0_1.length c0_1) ∧ w'.cell? ⟨gb172, 2, none⟩ = some (.slice A0_2 l0_2.length c0_2)) ∧ (Kd.R (Kd.int .i64) 3 w' w.heap.size (fun k_ => some k_ ≠ (s_.2.1 : Value).ownBlock) s_.1 y177) ∧ (Kd.R (Kd.int .i64) 3 w' w.heap.size (fun k_ => some k_ ≠ (s_.1 : Value).ownBlock) s_.2.1 y180) ∧ (w'.heap[gb172]? = some (.cells #[.int .i64 a0_0, .slice A0_1 l0_1.length c0_1, .slice A0_2 l0_2.length c0_2] 31 (0, 0))) ∧ (w'.heap[gb173]? = some (.cells #[.int .i64 0, .slice none 0 0, .slice none 0 0] 31 (0, 0))) ∧ (w'.heap[s_.2.2]? = some (.cells #[.int .i64 0, .slice none 0 0, .slice none 0 0] 31 (0, 0))) ∧ (w.heap.size ≤ s_.2.2) ∧ (w.heap.size ≤ s_.2.2) ∧ (gb172 ≠ s_.2.2) ∧ (s_.2.2 ≠ gb172) ∧ (gb173 ≠ s_.2.2) ∧ (s_.2.2 ≠ gb173) ∧ (Below w.heap.size w w')) ?_ ?_
        rotate_left
        ·intro hCont
         refine two_ (i := 4) (j := 9) (Ni := some 49) (Nj := some 16) #[true, true, true, true, true, true, true, false, false, false, false] #[true, true, true, true, false, true, true, false, false, true, false] rfl rfl rfl rfl (two_of HT_.out (by kernel_rfl)) (by decide) (by decide) (fun K hK => ?_) (fun K hK => ?_)
         ·skip
          refine Kd.R_append_rows_step (Kd.int .i64) (w0 := w) w.heap.size rfl (.const (.slice none 0 0)) (.tmp 48) 27 3 (.int .i64 0) 8 rfl Try.underlying27 info3 rfl (by decide) (by omega) (.slice none 0 0) ([] : List Int) l0_1 _ _ _ (fun _ => True) (fun _ => False) rfl (by first | rfl | exact ev_tmp_6 e48) ?aO ?aR (fun _ _ h => h) (fun _ h => h.elim) ?aF ?aB ?aS ?aL ?_
          (case aR => exact Kd.C_below HR0_1.out (un HB.out))
          (case aB => exact (by repeat (with_reducible first | exact HB.out | refine bz ?_ (by assumption) | apply bA | apply bN | apply bD)))
          (case aF => exact (fun _ _ => trivial))
          (case aO => exact (Kd.R_nil _ _ _ _ (fun _ => True)))
          (case aS => exact (bs HB.out))
          (case aL => have := LMc26.out; omega)
          intro v178 w30 ho hb hg hat
          rw [← Ny177.out] at ho
          replace BK172 := a_ (blk_grown (pk BK172.out) hg (by simp [Value.ownBlock]))
          replace BK173 := a_ (blk_grown (pk BK173.out) hg (by simp [Value.ownBlock]))
          replace HB := a_ (hb)
          have HO179 := a_ (ho)
          clear ho hb hg hat
          refine hK.out _ _ ⟨(blk_cell BK172.out 0).trans rfl, (blk_cell BK172.out 1).trans rfl, (blk_cell BK172.out 2).trans rfl⟩ (fun hHeld => ?_)
          clear hK K
          refine norm_ (a' := ?_) ?_ ?_
          rotate_left
          ·show Act.put _ (some 49) _ = _
           simp only [Act.put, sB, sC, sD, i64_w, i32_w]
           rfl
          refine two_ (i := 7) (j := 9) (Ni := some 52) (Nj := some 16) #[true, true, true, true, true, true, true, true, false, false, false] #[true, true, true, true, true, true, true, false, false, true, false] rfl rfl rfl rfl (two_of HT_.out (by kernel_rfl)) (by decide) (by decide) (fun K hK => ?_) (fun K hK => ?_)
          ·skip
           refine Kd.R_append_rows_step (Kd.int .i64) (w0 := w) w.heap.size rfl (.const (.slice none 0 0)) (.tmp 51) 27 3 (.int .i64 0) 8 rfl Try.underlying27 info3 rfl (by decide) (by omega) (.slice none 0 0) ([] : List Int) l0_2 _ _ _ (fun k_ => N_ v178 k_) (fun _ => False) rfl (by first | rfl | exact ev_tmp_6 e51) ?aO ?aR (fun _ _ h => h) (fun _ h => h.elim) ?aF ?aB ?aS ?aL ?_
           (case aR => exact Kd.C_below HR0_2.out (un HB.out))
           (case aB => exact (by repeat (with_reducible first | exact HB.out | refine bz ?_ (by assumption) | apply bA | apply bN | apply bD)))
           (case aF => exact (fun k_ hk => Kd.fresh' (Kd.R_lt (rk HO179.out)) k_ hk))
           (case aO => exact (Kd.R_nil _ _ _ _ (fun k_ => N_ v178 k_)))
           (case aS => exact (bs HB.out))
           (case aL => have := LMc27.out; omega)
           intro v181 w31 ho hb hg hat
           rw [← Ny180.out] at ho
           replace BK172 := a_ (blk_grown (pk BK172.out) hg (by simp [Value.ownBlock]))
           replace BK173 := a_ (blk_grown (pk BK173.out) hg (by simp [Value.ownBlock]))
           replace HO179 := a_ (Kd.R_after (Kd.R_apart_nil (rk HO179.out)) hg hat)
           replace HB := a_ (hb)
           have HO182 := a_ (ho)
           clear ho hb hg hat
           obtain ⟨Ao32, co32, eo32⟩ := Kd.R_slice HO182.out
           (first | subst eo32 | (injection eo32 with f1_ f2_ f3_; obtain rfl := f1_.symm; obtain rfl := f3_.symm))
           obtain ⟨Ao33, co33, eo33⟩ := Kd.R_slice HO179.out
           (first | subst eo33 | (injection eo33 with f1_ f2_ f3_; obtain rfl := f1_.symm; obtain rfl := f3_.symm))
           refine hK.out _ _ ⟨(blk_cell BK172.out 0).trans rfl, (blk_cell BK172.out 1).trans rfl, (blk_cell BK172.out 2).trans rfl⟩ (fun hHeld => ?_)
           clear hK K
           refine norm_ (a' := ?_) ?_ ?_
           rotate_left
           ·show Act.put _ (some 52) _ = _
            simp only [Act.put, sB, sC, sD, i64_w, i32_w]
            rfl
           refine pure_ (i := 8) (N := some 53) (v := ?_) (a' := ?_) #[true, true, true, true, true, true, true, true, true, false, false] rfl rfl (any_of HT_.out (by kernel_rfl)) (fun _ _ _ h => h) (Or.inl ⟨by rfl, ?_⟩) ?_ ?_
           rotate_left
           ·intro w'
            go_simp
            with_reducible rfl
           rotate_left
           ·simp only [Act.put, sB, sC, sD, i64_w, i32_w]
            rfl
           refine one_ (i := 9) (N := some 16) #[true, true, true, true, true, true, true, true, true, true, false] rfl rfl (one_of HT_.out (by kernel_rfl)) (by decide) (fun K hK => ?_)
           refine box_step ?hg (N := 16) ?hd (cs := #[.int .i64 0, .slice none 0 0, .slice none 0 0]) (t := 31) ?hr ?_; (case hd => rfl); (case hg => rfl); (case hr => first | (go_simp; done) | (go_simp; rfl))
           intro gb183 hg w34 hbox hb
           replace HO179 := a_ (Kd.R_below (rk HO179.out) hb)
           replace HO182 := a_ (Kd.R_below (rk HO182.out) hb)
           have BK183 := a_ (hbox)
           have GW183 := a_ (bsg hg HB.out)
           have GE183 := a_ (bsg hg HB.out)
           replace HB := a_ (below_step (by repeat (with_reducible first | exact HB.out | refine bz ?_ (by assumption) | apply bA | apply bN | apply bD)) hb)
           have NB172_183 := a_ (nel hg BK172.out)
           have NB183_172 := a_ (nle hg BK172.out)
           replace BK172 := a_ (blk_below (pk BK172.out) hb)
           have NB173_183 := a_ (nel hg BK173.out)
           have NB183_173 := a_ (nle hg BK173.out)
           replace BK173 := a_ (blk_below (pk BK173.out) hb)
           clear hb hbox hg
           refine hK.out _ _ ⟨(blk_cell BK172.out 0).trans rfl, (blk_cell BK172.out 1).trans rfl, (blk_cell BK172.out 2).trans rfl⟩ (fun hHeld => ?_)
           clear hK K
           refine norm_ (a' := ?_) ?_ ?_
           rotate_left
           ·show Act.put _ (some 16) _ = _
            simp only [Act.put, sB, sC, sD, i64_w, i32_w]
            rfl
           exact norm_ (by simp only [putAll, Act.put, sB, sC, sD]) (hCont (.slice Ao33 y177.length co33, .slice Ao32 y180.length co32, gb183) _ ⟨hHeld, (rk (Kd.R_mono HO179.out (fun _ hk => hk.2))), (rk HO182.out), (pk BK172.out), (pk BK173.out), (pk BK183.out), GW183.out, GE183.out, NB172_183.out, NB183_172.out, NB173_183.out, NB183_173.out, (by repeat (with_reducible first | exact HB.out | refine bz ?_ (by assumption) | apply bA | apply bN | apply bD))⟩)
          ·skip
           refine box_step ?hg (N := 16) ?hd (cs := #[.int .i64 0, .slice none 0 0, .slice none 0 0]) (t := 31) ?hr ?_; (case hd => rfl); (case hg => rfl); (case hr => first | (go_simp; done) | (go_simp; rfl))
           intro gb183 hg w31 hbox hb
           replace HO179 := a_ (Kd.R_below (rk HO179.out) hb)
           have BK183 := a_ (hbox)
           have GW183 := a_ (bsg hg HB.out)
           have GE183 := a_ (bsg hg HB.out)
           replace HB := a_ (below_step (by repeat (with_reducible first | exact HB.out | refine bz ?_ (by assumption) | apply bA | apply bN | apply bD)) hb)
           have NB172_183 := a_ (nel hg BK172.out)
           have NB183_172 := a_ (nle hg BK172.out)
           replace BK172 := a_ (blk_below (pk BK172.out) hb)
           have NB173_183 := a_ (nel hg BK173.out)
           have NB183_173 := a_ (nle hg BK173.out)
           replace BK173 := a_ (blk_below (pk BK173.out) hb)
           clear hb hbox hg
           refine hK.out _ _ ⟨(blk_cell BK172.out 0).trans rfl, (blk_cell BK172.out 1).trans rfl, (blk_cell BK172.out 2).trans rfl⟩ (fun hHeld => ?_)
           clear hK K
           refine norm_ (a' := ?_) ?_ ?_
           rotate_left
           ·show Act.put _ (some 16) _ = _
            simp only [Act.put, sB, sC, sD, i64_w, i32_w]
            rfl
           refine one_ (i := 7) (N := some 52) #[true, true, true, true, true, true, true, true, false, true, false] rfl rfl (one_of HT_.out (by kernel_rfl)) (by decide) (fun K hK => ?_)
           refine Kd.R_append_rows_step (Kd.int .i64) (w0 := w) w.heap.size rfl (.const (.slice none 0 0)) (.tmp 51) 27 3 (.int .i64 0) 8 rfl Try.underlying27 info3 rfl (by decide) (by omega) (.slice none 0 0) ([] : List Int) l0_2 _ _ _ (fun k_ => N_ v178 k_) (fun _ => False) rfl (by first | rfl | exact ev_tmp_6 e51) ?aO ?aR (fun _ _ h => h) (fun _ h => h.elim) ?aF ?aB ?aS ?aL ?_
           (case aR => exact Kd.C_below HR0_2.out (un HB.out))
           (case aB => exact (by repeat (with_reducible first | exact HB.out | refine bz ?_ (by assumption) | apply bA | apply bN | apply bD)))
           (case aF => exact (fun k_ hk => Kd.fresh' (Kd.R_lt (rk HO179.out)) k_ hk))
           (case aO => exact (Kd.R_nil _ _ _ _ (fun k_ => N_ v178 k_)))
           (case aS => exact (bs HB.out))
           (case aL => have := LMc27.out; omega)
           intro v181 w32 ho hb hg hat
           rw [← Ny180.out] at ho
           replace BK172 := a_ (blk_grown (pk BK172.out) hg (by simp [Value.ownBlock]))
           replace BK173 := a_ (blk_grown (pk BK173.out) hg (by simp [Value.ownBlock]))
           replace HO179 := a_ (Kd.R_after (Kd.R_apart_nil (rk HO179.out)) hg hat)
           replace BK183 := a_ (blk_grown (pk BK183.out) hg (by simp [Value.ownBlock]))
           replace HB := a_ (hb)
           have HO182 := a_ (ho)
           clear ho hb hg hat
           obtain ⟨Ao33, co33, eo33⟩ := Kd.R_slice HO182.out
           (first | subst eo33 | (injection eo33 with f1_ f2_ f3_; obtain rfl := f1_.symm; obtain rfl := f3_.symm))
           obtain ⟨Ao34, co34, eo34⟩ := Kd.R_slice HO179.out
           (first | subst eo34 | (injection eo34 with f1_ f2_ f3_; obtain rfl := f1_.symm; obtain rfl := f3_.symm))
           refine hK.out _ _ ⟨(blk_cell BK172.out 0).trans rfl, (blk_cell BK172.out 1).trans rfl, (blk_cell BK172.out 2).trans rfl⟩ (fun hHeld => ?_)
           clear hK K
           refine norm_ (a' := ?_) ?_ ?_
           rotate_left
           ·show Act.put _ (some 52) _ = _
            simp only [Act.put, sB, sC, sD, i64_w, i32_w]
            rfl
           refine pure_ (i := 8) (N := some 53) (v := ?_) (a' := ?_) #[true, true, true, true, true, true, true, true, true, true, false] rfl rfl (any_of HT_.out (by kernel_rfl)) (fun _ _ _ h => h) (Or.inl ⟨by rfl, ?_⟩) ?_ ?_
           rotate_left
           ·intro w'
            go_simp
            with_reducible rfl
           rotate_left
           ·simp only [Act.put, sB, sC, sD, i64_w, i32_w]
            rfl
           exact norm_ (by simp only [putAll, Act.put, sB, sC, sD]) (hCont (.slice Ao34 y177.length co34, .slice Ao33 y180.length co33, gb183) _ ⟨hHeld, (rk (Kd.R_mono HO179.out (fun _ hk => hk.2))), (rk HO182.out), (pk BK172.out), (pk BK173.out), (pk BK183.out), GW183.out, GE183.out, NB172_183.out, NB183_172.out, NB173_183.out, NB183_173.out, (by repeat (with_reducible first | exact HB.out | refine bz ?_ (by assumption) | apply bA | apply bN | apply bD))⟩)
         ·skip
          refine box_step ?hg (N := 16) ?hd (cs := #[.int .i64 0, .slice none 0 0, .slice none 0 0]) (t := 31) ?hr ?_; (case hd => rfl); (case hg => rfl); (case hr => first | (go_simp; done) | (go_simp; rfl))
          intro gb183 hg w30 hbox hb
          have BK183 := a_ (hbox)
          have GW183 := a_ (bsg hg HB.out)
          have GE183 := a_ (bsg hg HB.out)
          replace HB := a_ (below_step (by repeat (with_reducible first | exact HB.out | refine bz ?_ (by assumption) | apply bA | apply bN | apply bD)) hb)
          have NB172_183 := a_ (nel hg BK172.out)
          have NB183_172 := a_ (nle hg BK172.out)
          replace BK172 := a_ (blk_below (pk BK172.out) hb)
          have NB173_183 := a_ (nel hg BK173.out)
          have NB183_173 := a_ (nle hg BK173.out)
          replace BK173 := a_ (blk_below (pk BK173.out) hb)
          clear hb hbox hg
          refine hK.out _ _ ⟨(blk_cell BK172.out 0).trans rfl, (blk_cell BK172.out 1).trans rfl, (blk_cell BK172.out 2).trans rfl⟩ (fun hHeld => ?_)
          clear hK K
          refine norm_ (a' := ?_) ?_ ?_
          rotate_left
          ·show Act.put _ (some 16) _ = _
           simp only [Act.put, sB, sC, sD, i64_w, i32_w]
           rfl
          refine one_ (i := 4) (N := some 49) #[true, true, true, true, true, true, true, false, false, true, false] rfl rfl (one_of HT_.out (by kernel_rfl)) (by decide) (fun K hK => ?_)
          refine Kd.R_append_rows_step (Kd.int .i64) (w0 := w) w.heap.size rfl (.const (.slice none 0 0)) (.tmp 48) 27 3 (.int .i64 0) 8 rfl Try.underlying27 info3 rfl (by decide) (by omega) (.slice none 0 0) ([] : List Int) l0_1 _ _ _ (fun _ => True) (fun _ => False) rfl (by first | rfl | exact ev_tmp_6 e48) ?aO ?aR (fun _ _ h => h) (fun _ h => h.elim) ?aF ?aB ?aS ?aL ?_
          (case aR => exact Kd.C_below HR0_1.out (un HB.out))
          (case aB => exact (by repeat (with_reducible first | exact HB.out | refine bz ?_ (by assumption) | apply bA | apply bN | apply bD)))
          (case aF => exact (fun _ _ => trivial))
          (case aO => exact (Kd.R_nil _ _ _ _ (fun _ => True)))
          (case aS => exact (bs HB.out))
          (case aL => have := LMc26.out; omega)
          intro v178 w31 ho hb hg hat
          rw [← Ny177.out] at ho
          replace BK172 := a_ (blk_grown (pk BK172.out) hg (by simp [Value.ownBlock]))
          replace BK173 := a_ (blk_grown (pk BK173.out) hg (by simp [Value.ownBlock]))
          replace BK183 := a_ (blk_grown (pk BK183.out) hg (by simp [Value.ownBlock]))
          replace HB := a_ (hb)
          have HO179 := a_ (ho)
          clear ho hb hg hat
          refine hK.out _ _ ⟨(blk_cell BK172.out 0).trans rfl, (blk_cell BK172.out 1).trans rfl, (blk_cell BK172.out 2).trans rfl⟩ (fun hHeld => ?_)
          clear hK K
          refine norm_ (a' := ?_) ?_ ?_
          rotate_left
          ·show Act.put _ (some 49) _ = _
           simp only [Act.put, sB, sC, sD, i64_w, i32_w]
           rfl
          refine one_ (i := 7) (N := some 52) #[true, true, true, true, true, true, true, true, false, true, false] rfl rfl (one_of HT_.out (by kernel_rfl)) (by decide) (fun K hK => ?_)
          refine Kd.R_append_rows_step (Kd.int .i64) (w0 := w) w.heap.size rfl (.const (.slice none 0 0)) (.tmp 51) 27 3 (.int .i64 0) 8 rfl Try.underlying27 info3 rfl (by decide) (by omega) (.slice none 0 0) ([] : List Int) l0_2 _ _ _ (fun k_ => N_ v178 k_) (fun _ => False) rfl (by first | rfl | exact ev_tmp_6 e51) ?aO ?aR (fun _ _ h => h) (fun _ h => h.elim) ?aF ?aB ?aS ?aL ?_
          (case aR => exact Kd.C_below HR0_2.out (un HB.out))
          (case aB => exact (by repeat (with_reducible first | exact HB.out | refine bz ?_ (by assumption) | apply bA | apply bN | apply bD)))
          (case aF => exact (fun k_ hk => Kd.fresh' (Kd.R_lt (rk HO179.out)) k_ hk))
          (case aO => exact (Kd.R_nil _ _ _ _ (fun k_ => N_ v178 k_)))
          (case aS => exact (bs HB.out))
          (case aL => have := LMc27.out; omega)
          intro v181 w32 ho hb hg hat
          rw [← Ny180.out] at ho
          replace BK172 := a_ (blk_grown (pk BK172.out) hg (by simp [Value.ownBlock]))
          replace BK173 := a_ (blk_grown (pk BK173.out) hg (by simp [Value.ownBlock]))
          replace BK183 := a_ (blk_grown (pk BK183.out) hg (by simp [Value.ownBlock]))
          replace HO179 := a_ (Kd.R_after (Kd.R_apart_nil (rk HO179.out)) hg hat)
          replace HB := a_ (hb)
          have HO182 := a_ (ho)
          clear ho hb hg hat
          obtain ⟨Ao33, co33, eo33⟩ := Kd.R_slice HO182.out
          (first | subst eo33 | (injection eo33 with f1_ f2_ f3_; obtain rfl := f1_.symm; obtain rfl := f3_.symm))
          obtain ⟨Ao34, co34, eo34⟩ := Kd.R_slice HO179.out
          (first | subst eo34 | (injection eo34 with f1_ f2_ f3_; obtain rfl := f1_.symm; obtain rfl := f3_.symm))
          refine hK.out _ _ ⟨(blk_cell BK172.out 0).trans rfl, (blk_cell BK172.out 1).trans rfl, (blk_cell BK172.out 2).trans rfl⟩ (fun hHeld => ?_)
          clear hK K
          refine norm_ (a' := ?_) ?_ ?_
          rotate_left
          ·show Act.put _ (some 52) _ = _
           simp only [Act.put, sB, sC, sD, i64_w, i32_w]
           rfl
          refine pure_ (i := 8) (N := some 53) (v := ?_) (a' := ?_) #[true, true, true, true, true, true, true, true, true, true, false] rfl rfl (any_of HT_.out (by kernel_rfl)) (fun _ _ _ h => h) (Or.inl ⟨by rfl, ?_⟩) ?_ ?_
          rotate_left
          ·intro w'
           go_simp
           with_reducible rfl
          rotate_left
          ·simp only [Act.put, sB, sC, sD, i64_w, i32_w]
           rfl
          exact norm_ (by simp only [putAll, Act.put, sB, sC, sD]) (hCont (.slice Ao34 y177.length co34, .slice Ao33 y180.length co33, gb183) _ ⟨hHeld, (rk (Kd.R_mono HO179.out (fun _ hk => hk.2))), (rk HO182.out), (pk BK172.out), (pk BK173.out), (pk BK183.out), GW183.out, GE183.out, NB172_183.out, NB183_172.out, NB173_183.out, NB183_173.out, (by repeat (with_reducible first | exact HB.out | refine bz ?_ (by assumption) | apply bA | apply bN | apply bD))⟩)
        rintro ⟨v178, v181, gb183⟩ w35 ⟨hS_, h0_, h1_, h2_, h3_, h4_, h5_, h6_, h7_, h8_, h9_, h10_, h11_⟩
        have n0_ : Aside0 (Kd.R (Kd.int .i64) 3 w35 w.heap.size (fun k_ => N_ v181 k_) v178 y177) := ⟨h0_⟩
        have n1_ : Aside0 (Kd.R (Kd.int .i64) 3 w35 w.heap.size (fun k_ => N_ v178 k_) v181 y180) := ⟨h1_⟩
        have n2_ : Aside0 (w35.heap[gb172]? = some (.cells #[.int .i64 a0_0, .slice A0_1 l0_1.length c0_1, .slice A0_2 l0_2.length c0_2] 31 (0, 0))) := ⟨h2_⟩
        have n3_ : Aside0 (w35.heap[gb173]? = some (.cells #[.int .i64 0, .slice none 0 0, .slice none 0 0] 31 (0, 0))) := ⟨h3_⟩
        have n4_ : Aside0 (w35.heap[gb183]? = some (.cells #[.int .i64 0, .slice none 0 0, .slice none 0 0] 31 (0, 0))) := ⟨h4_⟩
        have n5_ : Aside0 (w.heap.size ≤ gb183) := ⟨h5_⟩
        have n6_ : Aside0 (w.heap.size ≤ gb183) := ⟨h6_⟩
        have n7_ : Aside0 (gb172 ≠ gb183) := ⟨h7_⟩
        have n8_ : Aside0 (gb183 ≠ gb172) := ⟨h8_⟩
        have n9_ : Aside0 (gb173 ≠ gb183) := ⟨h9_⟩
        have n10_ : Aside0 (gb183 ≠ gb173) := ⟨h10_⟩
        have n11_ : Aside0 (Below w.heap.size w w35) := ⟨h11_⟩
        clear BK172
        clear BK173
        clear HB
        clear h0_ h1_ h2_ h3_ h4_ h5_ h6_ h7_ h8_ h9_ h10_ h11_
        have HO179 := n0_
        have HO182 := n1_
        have BK172 := n2_
        have BK173 := n3_
        have BK183 := n4_
        have GW183 := n5_
        have GE183 := n6_
        have NB172_183 := n7_
        have NB183_172 := n8_
        have NB173_183 := n9_
        have NB183_173 := n10_
        have HB := n11_
        clear n0_ n1_ n2_ n3_ n4_ n5_ n6_ n7_ n8_ n9_ n10_ n11_
        have hHeld : w35.cell? ⟨gb172, 0, none⟩ = some (.int .i64 a0_0) ∧ w35.cell? ⟨gb172, 1, none⟩ = some (.slice A0_1 l0_1.length c0_1) ∧ w35.cell? ⟨gb172, 2, none⟩ = some (.slice A0_2 l0_2.length c0_2) := hS_
        obtain ⟨Ao36, co36, eo36⟩ := Kd.R_slice HO182.out
        (first | subst eo36 | (injection eo36 with f1_ f2_ f3_; obtain rfl := f1_.symm; obtain rfl := f3_.symm))
        obtain ⟨Ao37, co37, eo37⟩ := Kd.R_slice HO179.out
        (first | subst eo37 | (injection eo37 with f1_ f2_ f3_; obtain rfl := f1_.symm; obtain rfl := f3_.symm))
        refine norm_ (a' := ?_) ?_ ?_
        rotate_left
        ·simp only [putAll, Act.put, sB, sC, sD]
         rfl
        refine one_ (i := 10) (N := none) #[true, true, true, true, true, true, true, true, true, true, true] rfl rfl (one_of HT_.out (by kernel_rfl)) (by decide) (fun K hK => ?_)
        have hs38 : w35.cell? ⟨gb183, 0, none⟩ = some (.int .i64 0) := (blk_cell BK183.out 0).trans rfl
        have hfs38 := blk_frozen BK183.out 0
        have hns38_0 := NB172_183.out
        have hns38_1 := NB173_183.out
        have hms38_0 := NB183_172.out
        have hms38_1 := NB183_173.out
        have hs39 : w35.cell? ⟨gb183, 1, none⟩ = some (.slice none 0 0) := (blk_cell BK183.out 1).trans rfl
        have hfs39 := blk_frozen BK183.out 1
        have hns39_0 := NB172_183.out
        have hns39_1 := NB173_183.out
        have hms39_0 := NB183_172.out
        have hms39_1 := NB183_173.out
        have hs40 : w35.cell? ⟨gb183, 2, none⟩ = some (.slice none 0 0) := (blk_cell BK183.out 2).trans rfl
        have hfs40 := blk_frozen BK183.out 2
        have hns40_0 := NB172_183.out
        have hns40_1 := NB173_183.out
        have hms40_0 := NB183_172.out
        have hms40_1 := NB183_173.out
        refine skip_ (w1 := ?_) ?_ ?_ ?_ ?_
        rotate_left
        ·rfl
        ·rfl
        ·go_simp
         rfl
        refine hK.out _ _ ⟨((cell_far (p := ⟨gb183, _, none⟩) NB172_183.out _).trans (((cell_far (p := ⟨gb183, _, none⟩) NB172_183.out _).trans (((cell_far (p := ⟨gb183, _, none⟩) NB172_183.out _).trans (hHeld.1)))))), ((cell_far (p := ⟨gb183, _, none⟩) NB172_183.out _).trans (((cell_far (p := ⟨gb183, _, none⟩) NB172_183.out _).trans (((cell_far (p := ⟨gb183, _, none⟩) NB172_183.out _).trans (hHeld.2.1)))))), ((cell_far (p := ⟨gb183, _, none⟩) NB172_183.out _).trans (((cell_far (p := ⟨gb183, _, none⟩) NB172_183.out _).trans (((cell_far (p := ⟨gb183, _, none⟩) NB172_183.out _).trans (hHeld.2.2))))))⟩ (fun hHeld => ?_)
        clear hK K
        refine done_ (done_of HT_.out (by kernel_rfl)) ?_
        try go_wp2_with (first | ((with_reducible refine gate_callee (f := 7) rfl ?_); refine goesL_ (some 58) rfl rfl Try.func7 (by kernel_rfl) rfl #[.int .i64 a1, .int .i64 a2, .int .i64 a3, .int .i64 a4] rfl (by (try simp only [lA, lB, lC]); first | done | rfl | (simp only [lD, lE]; rfl)) ?_; (with_reducible refine (impl_LineCells.calls kj9 a1 a2 a3 a4 t184 _ A28.out).mono ?_); rintro e w41 ⟨v185, rfl, ho0, hb⟩; refine ⟨_, rfl, ?_⟩; have HO186 := a_ (Kd.S_lower (Kd.S_new' (Kd.S_new' ho0 (Kd.R_lt (rk (Kd.R_mono (fr3 HO179.out BK183.out (by decide) 0 (.int .i64 a0_0) 1 (.slice Ao37 y177.length co37) 2 (.slice Ao36 y180.length co36)) (fun _ h_ => h_.1))))) (Kd.R_lt (rk (Kd.R_mono (fr3 HO182.out BK183.out (by decide) 0 (.int .i64 a0_0) 1 (.slice Ao37 y177.length co37) 2 (.slice Ao36 y180.length co36)) (fun _ h_ => h_.1))))) (bs HB.out)); replace HO179 := a_ (Kd.R_below (rk (Kd.R_mono (fr3 HO179.out BK183.out (by decide) 0 (.int .i64 a0_0) 1 (.slice Ao37 y177.length co37) 2 (.slice Ao36 y180.length co36)) (fun _ h_ => h_.1))) hb); replace HO182 := a_ (Kd.R_below (rk (Kd.R_mono (fr3 HO182.out BK183.out (by decide) 0 (.int .i64 a0_0) 1 (.slice Ao37 y177.length co37) 2 (.slice Ao36 y180.length co36)) (fun _ h_ => h_.1))) hb); replace BK172 := a_ (blk_below (g := gb172) (o := .cells #[.int .i64 a0_0, .slice A0_1 l0_1.length c0_1, .slice A0_2 l0_2.length c0_2] 31 (0, 0)) (by refine pk ?_; refine blk_far ?_ NB172_183.out _; refine pk ?_; refine blk_far ?_ NB172_183.out _; refine pk ?_; refine blk_far ?_ NB172_183.out _; refine pk ?_; exact BK172.out) hb); replace BK173 := a_ (blk_below (g := gb173) (o := .cells #[.int .i64 0, .slice none 0 0, .slice none 0 0] 31 (0, 0)) (by refine pk ?_; refine blk_far ?_ NB173_183.out _; refine pk ?_; refine blk_far ?_ NB173_183.out _; refine pk ?_; refine blk_far ?_ NB173_183.out _; refine pk ?_; exact BK173.out) hb); replace BK183 := a_ (blk_below (g := gb183) (o := .cells #[.int .i64 a0_0, .slice Ao37 y177.length co37, .slice Ao36 y180.length co36] 31 (0, 0)) (by refine pk ?_; refine blk_put (cs := #[.int .i64 a0_0, .slice Ao37 y177.length co37, .slice none 0 0]) ?_ 2 _ rfl; refine pk ?_; refine blk_put (cs := #[.int .i64 a0_0, .slice none 0 0, .slice none 0 0]) ?_ 1 _ rfl; refine pk ?_; refine blk_put (cs := #[.int .i64 0, .slice none 0 0, .slice none 0 0]) ?_ 0 _ rfl; refine pk ?_; exact BK183.out) hb); replace HB := a_ (below_step (by repeat (with_reducible first | exact HB.out | refine bz ?_ (by assumption) | apply bA | apply bN | apply bD)) hb); clear hb ho0; obtain ⟨Ao42, co42, eo42⟩ := Kd.S_slice HO186.out; subst eo42))
        go_loopg [61] kj9 (fun kq v61 w' => ∃ (x61_2 : Int) (x184001_2 : List Int) (x184002_2 : List Int) (u184001 : Value) (u184002 : Value), v61 = .int .i64 x61_2 ∧ Aside0 (impl_AddRay.l0 kq a5 t184 t184 (t184.length : Int) x61_2 a0_0 l0_1 l0_2 a0_0 x184001_2 x184002_2 = some (r1, r2, r3, r4)) ∧ Aside0 (kq ≤ kj9) ∧ Aside0 (Kd.S (Kd.slice 3 (Kd.int .i64)) 27 w' w.heap.size (fun k_ => some k_ ≠ (u184001 : Value).ownBlock ∧ some k_ ≠ (u184002 : Value).ownBlock) (.slice Ao42 t184.length co42) t184) ∧ Aside0 (Kd.S (Kd.slice 3 (Kd.int .i64)) 27 w' w.heap.size (fun k_ => some k_ ≠ (u184001 : Value).ownBlock ∧ some k_ ≠ (u184002 : Value).ownBlock) (.slice Ao42 t184.length co42) t184) ∧ Aside0 (Kd.R (Kd.int .i64) 3 w' w.heap.size (fun k_ => some k_ ≠ (u184002 : Value).ownBlock) u184001 x184001_2) ∧ Aside0 (Kd.R (Kd.int .i64) 3 w' w.heap.size (fun k_ => some k_ ≠ (u184001 : Value).ownBlock) u184002 x184002_2) ∧ Aside0 (w'.heap[gb172]? = some (.cells #[.int .i64 a0_0, (.slice A0_1 l0_1.length c0_1), (.slice A0_2 l0_2.length c0_2)] 31 (0, 0))) ∧ Aside0 (w'.heap[gb173]? = some (.cells #[.int .i64 0, (.slice none 0 0), (.slice none 0 0)] 31 (0, 0))) ∧ Aside0 (w'.heap[gb183]? = some (.cells #[.int .i64 a0_0, u184001, u184002] 31 (0, 0))) ∧ Aside0 (Below w.heap.size w w'))
        case atStart => exact ⟨(0), (y177), (y180), (.slice Ao37 y177.length co37), (.slice Ao36 y180.length co36), (by first | rfl | (simp; done) | (simp [*]; done)), H', ⟨Nat.le_refl _⟩, ⟨by (with_reducible repeat (first | apply Kd.S_alloc | apply Kd.S_drewN | apply Kd.S_drew)); exact Kd.S_mono HO186.out (fun _ hk => ⟨hk.1.2, hk.2⟩)⟩, ⟨by (with_reducible repeat (first | apply Kd.S_alloc | apply Kd.S_drewN | apply Kd.S_drew)); exact Kd.S_mono HO186.out (fun _ hk => ⟨hk.1.2, hk.2⟩)⟩, ⟨rk (HO179.out)⟩, ⟨rk (HO182.out)⟩, ⟨pk BK172.out⟩, ⟨pk BK173.out⟩, ⟨pk BK183.out⟩, ⟨by repeat (with_reducible first | exact HB.out | refine bz ?_ (by assumption) | apply bA | apply bN | apply bD)⟩⟩
        case round =>
         clear H'
         try clear c1; try clear c2; try clear p2; try clear c3; try clear p6; try clear c7; try clear c8; try clear c9; try clear c9b0; try clear c9b1; try clear c13; try clear c14; try clear c18; try clear c23; try clear c24; try clear c26; try clear c27; try clear c32; try clear hcz14_0; try clear hcz14_1; try clear hcz14_2; try clear hcz16_0; try clear hcz16_1; try clear hcz16_2; try clear hcz25_0; try clear hcz25_1; try clear hcz25_2; try clear hfz14_0; try clear hfz14_1; try clear hfz14_2; try clear hfz16_0; try clear hfz16_1; try clear hfz16_2; try clear hfz25_0; try clear hfz25_1; try clear hfz25_2; try clear p2; try clear p6
         obtain ⟨x61_2, x184001_2, x184002_2, u184001, u184002, rfl, HA, HK2, HO_17, HO_59, HO_184001, HO_184002, BK172, BK173, BK183, HB⟩ := hrel
         cases gk with
         | zero => exact absurd HA.out (by simp [impl_AddRay.l0])
         | succ k2 =>
          have H := HA.out
          clear HA
          simp only [impl_AddRay.l0] at H
          by_cases c43 : x61_2 < (t184.length : Int)
          ·rw [if_pos c43] at H
           have c43b0 : decide (x61_2 < (t184.length : Int)) = true := decide_eq_true c43
           clear c43
           by_cases c44 : 0 ≤ x61_2
           ·rw [if_pos c44] at H
            have c44b0 : decide (0 ≤ x61_2) = true := decide_eq_true c44
            clear c44
            by_cases c45 : x61_2 < (t184.length : Int)
            ·rw [if_pos c45] at H
             have c45b0 : decide (x61_2 < (t184.length : Int)) = true := decide_eq_true c45
             clear c45
             by_cases c46 : x61_2 = (wrap64 ((t184.length : Int) - 1))
             ·rw [if_pos c46] at H
              have c46b0 : (x61_2 == (wrap64 ((t184.length : Int) - 1))) = true := beq_iff_eq.mpr c46
              have c46b1 : (x61_2 != (wrap64 ((t184.length : Int) - 1))) = false := bne_eq_false_iff_eq.mpr c46
              clear c46
              by_cases c47 : a5 = true
              ·subst c47
               have H1 : (if 1 < ((rd_L1 t184 x61_2).length : Int) then (if 0 < ((rd_L1 t184 x61_2).length : Int) then (if 0 ≤ (wrap64 ((wrap64 ((rd (rd_L1 t184 x61_2) 1) * a0_0)) + (rd (rd_L1 t184 x61_2) 0))) then (if (wrap64 ((wrap64 ((rd (rd_L1 t184 x61_2) 1) * a0_0)) + (rd (rd_L1 t184 x61_2) 0))) < (x184001_2.length : Int) then (impl_AddRay.l0 k2 true t184 t184 (t184.length : Int) (wrap64 (x61_2 + 1)) a0_0 l0_1 l0_2 a0_0 (x184001_2.set ((wrap64 ((wrap64 ((rd (rd_L1 t184 x61_2) 1) * a0_0)) + (rd (rd_L1 t184 x61_2) 0))) : Int).toNat (wrap64 ((rd x184001_2 (wrap64 ((wrap64 ((rd (rd_L1 t184 x61_2) 1) * a0_0)) + (rd (rd_L1 t184 x61_2) 0)))) + 1))) x184002_2) else (none)) else (none)) else (none)) else (none)) = some (r1, r2, r3, r4) := by rw [if_pos rfl] at H; exact H
               clear H
               have H := H1
               clear H1
               by_cases c48 : 1 < ((rd_L1 t184 x61_2).length : Int)
               ·rw [if_pos c48] at H
                have c48b0 : decide (1 < ((rd_L1 t184 x61_2).length : Int)) = true := decide_eq_true c48
                have c48b1 : decide (1 < (rd_L1 t184 x61_2).length) = true := decide_eq_true (by omega)
                clear c48
                by_cases c49 : 0 < ((rd_L1 t184 x61_2).length : Int)
                ·rw [if_pos c49] at H
                 have c49b0 : decide (0 < ((rd_L1 t184 x61_2).length : Int)) = true := decide_eq_true c49
                 have c49b1 : decide (0 < (rd_L1 t184 x61_2).length) = true := decide_eq_true (by omega)
                 clear c49
                 obtain ⟨ji50, hji50⟩ : ∃ j_ : Int, (wrap64 ((wrap64 ((rd (rd_L1 t184 x61_2) 1) * a0_0)) + (rd (rd_L1 t184 x61_2) 0))) = j_ := ⟨_, rfl⟩
                 replace H : (if 0 ≤ (ji50) then (if (ji50) < (x184001_2.length : Int) then (impl_AddRay.l0 k2 true t184 t184 (t184.length : Int) (wrap64 (x61_2 + 1)) a0_0 l0_1 l0_2 a0_0 (x184001_2.set ((ji50) : Int).toNat (wrap64 ((rd x184001_2 (ji50)) + 1))) x184002_2) else (none)) else (none)) = some (r1, r2, r3, r4) := by first | (rw [hji50] at H; exact H) | (simp only [hji50] at H ⊢; exact H)
                 have hji50w : (IntKind.i64.wrap ((wrap64 ((rd (rd_L1 t184 x61_2) 1) * a0_0)) + (rd (rd_L1 t184 x61_2) 0))) = ji50 := (i64_w _).trans hji50
                 by_cases c51 : 0 ≤ (ji50)
                 ·rw [if_pos c51] at H
                  have c51b0 : decide (0 ≤ (ji50)) = true := decide_eq_true c51
                  clear c51
                  by_cases c52 : (ji50) < (x184001_2.length : Int)
                  ·rw [if_pos c52] at H
                   have c52b0 : decide ((ji50) < (x184001_2.length : Int)) = true := decide_eq_true c52
                   clear c52
                   obtain ⟨y191, hy191⟩ : ∃ y_ : List Int, y_ = (x184001_2.set ((ji50) : Int).toNat (wrap64 ((rd x184001_2 (ji50)) + 1))) := ⟨_, rfl⟩
                   replace H : (impl_AddRay.l0 k2 true t184 t184 (t184.length : Int) (wrap64 (x61_2 + 1)) a0_0 l0_1 l0_2 a0_0 y191 x184002_2) = some (r1, r2, r3, r4) := by first | (rw [hy191]; with_reducible exact H) | (have H2_ := (Option.bind_some _ _).symm.trans H; rw [hy191]; with_reducible exact H2_) | (have H2_ := (Option.bind_some _ _).symm.trans H; with_reducible exact H2_) | with_reducible exact H | (rw [hy191]; exact H) | exact H
                   have Ny191 := Aside0.mk hy191
                   clear hy191
                   have H' := Aside0.mk H
                   clear H
                   have p187 : 0 ≤ (x61_2 : Int) := of_decide_eq_true (by first | (with_reducible assumption) | assumption)
                   have q187 : x61_2 < (t184.length : Int) := of_decide_eq_true (by first | (with_reducible assumption) | assumption)
                   obtain ⟨ad187, A187_0, c187_0, e187, hx187_0, hl187_0, hi187_0⟩ := at_L1 (Kd.S_reads' HO_59.out).2.2 x61_2 p187 q187
                   cases e187
                   obtain ⟨ce187, hce187, hMe187, hcc187⟩ := Kd.S_get HO_59.out [] x61_2 p187 (by first | exact q187 | exact of_decide_eq_true (by first | (with_reducible assumption) | assumption) | (have e_ := (Kd.S_reads' HO_59.out).1; omega))
                   obtain ⟨ve187_0, rfl, ge187_0⟩ := hMe187
                   have hv187_0 := hcc187 0 _ rfl
                   rw [Nat.add_zero, show ((Kd.slice 3 (Kd.int .i64))).sz = 1 from rfl, Nat.mul_one] at hv187_0
                   replace hv187_0 := Option.some.inj (hv187_0.symm.trans hx187_0)
                   rw [hv187_0] at ge187_0
                   have HL187_0 := a_ (show Kd.R (Kd.int .i64) 3 _ _ _ _ (rd_L1 t184 x61_2) from ge187_0)
                   clear hv187_0 ge187_0
                   clear hcc187 hce187
                   have HR187_0 := Aside0.mk hi187_0
                   have HC187_0 := Aside0.mk hl187_0
                   clear hi187_0 hl187_0
                   replace p187 := eq_true p187
                   replace q187 := eq_true q187
                   have hnb54 := NB183_172.out
                   have hnc54 := NB172_183.out
                   have hnb55 := NB183_173.out
                   have hnc55 := NB173_183.out
                   have hcz56_0 : wr.cell? ⟨gb183, 0, none⟩ = some (.int .i64 a0_0) := (blk_cell BK183.out 0).trans rfl
                   have hcz56_1 : wr.cell? ⟨gb183, 1, none⟩ = some (u184001) := (blk_cell BK183.out 1).trans rfl
                   have hcz56_2 : wr.cell? ⟨gb183, 2, none⟩ = some (u184002) := (blk_cell BK183.out 2).trans rfl
                   have hfz56_0 := blk_frozen BK183.out 0
                   have hfz56_1 := blk_frozen BK183.out 1
                   have hfz56_2 := blk_frozen BK183.out 2
                   try go_wp2
                   replace HO_17 := a_ (Kd.S_drew HO_17.out)
                   replace HO_59 := a_ (Kd.S_drew HO_59.out)
                   replace HO_184001 := a_ (Kd.R_drew HO_184001.out)
                   replace HO_184002 := a_ (Kd.R_drew HO_184002.out)
                   replace HL187_0 := a_ (Kd.R_drew HL187_0.out)
                   replace BK172 := a_ (blk_drew BK172.out)
                   replace BK173 := a_ (blk_drew BK173.out)
                   replace BK183 := a_ (blk_drew BK183.out)
                   replace HR187_0 := a_ (Kd.C_drew HR187_0.out)
                   replace HB := a_ (below_drew1 HB.out)
                   have p188 : 0 ≤ (1 : Int) := (by omega)
                   have q188 : 1 < ((rd_L1 t184 x61_2).length : Int) := of_decide_eq_true (by first | (with_reducible assumption) | assumption)
                   obtain ⟨ad188, e188, hx188_0⟩ := Kd.at_int (by repeat (first | (with_reducible exact HR187_0.out) | (with_reducible refine Kd.C_alloc ?_ _) | (with_reducible refine Kd.C_drewN ?_ _) | (with_reducible refine Kd.C_drew ?_) | exact HR187_0.out)) 1 p188 q188
                   cases e188
                   (try simp only [show (1 : Int).toNat = 1 from rfl, Nat.reduceMul, Nat.reduceEqDiff, Go.Addr.add, ↓reduceIte] at hx188_0)
                   have qi188 : (1 < (rd_L1 t184 x61_2).length) = True := eq_true (by omega)
                   (try rw [show ((1 : Int)).toNat = 1 from rfl] at hx188_0)
                   replace p188 := eq_true p188
                   replace q188 := eq_true q188
                   have p189 : 0 ≤ (0 : Int) := (by omega)
                   have q189 : 0 < ((rd_L1 t184 x61_2).length : Int) := of_decide_eq_true (by first | (with_reducible assumption) | assumption)
                   obtain ⟨ad189, e189, hx189_0⟩ := Kd.at_int (by repeat (first | (with_reducible exact HR187_0.out) | (with_reducible refine Kd.C_alloc ?_ _) | (with_reducible refine Kd.C_drewN ?_ _) | (with_reducible refine Kd.C_drew ?_) | exact HR187_0.out)) 0 p189 q189
                   obtain rfl : ad188 = ad189 := (by injection e189)
                   have qi189 : (0 < (rd_L1 t184 x61_2).length) = True := eq_true (by omega)
                   (try rw [show ((0 : Int)).toNat = 0 from rfl] at hx189_0)
                   (try rw [Addr.add_zero'] at hx189_0)
                   replace p189 := eq_true p189
                   replace q189 := eq_true q189
                   obtain ⟨Ao58, co58, eo58⟩ := Kd.R_slice HO_184001.out
                   (first | subst eo58 | (injection eo58 with f1_ f2_ f3_; obtain rfl := f1_.symm; obtain rfl := f3_.symm))
                   have p190 : 0 ≤ ((ji50) : Int) := of_decide_eq_true (by first | (with_reducible assumption) | assumption)
                   have q190 : (ji50) < (x184001_2.length : Int) := of_decide_eq_true (by first | (with_reducible assumption) | assumption)
                   obtain ⟨ad190, e190, hx190_0⟩ := Kd.at_int (Kd.R_reads' HO_184001.out).2.2 (ji50) p190 q190
                   cases e190
                   replace p190 := eq_true p190
                   replace q190 := eq_true q190
                   have p53 : 0 ≤ ((ji50) : Int) := of_decide_eq_true (by first | (with_reducible assumption) | assumption)
                   have q53 : ((ji50) : Int) < ((x184001_2.length : Int) : Int) := of_decide_eq_true (by first | (with_reducible assumption) | assumption)
                   obtain ⟨go53, co53, eo53, gb53, gl53, cl53, HG53⟩ := Kd.R_form HO_184001.out (by omega)
                   (first | cases eo53 | (injection eo53 with ea_ en_ ec_; (first | subst ea_ | (injection ea_ with ea_; subst ea_)); subst ec_; clear en_))
                   have GB53 := Aside0.mk gb53
                   have GG53 := Aside0.mk HG53
                   clear gb53 gl53 HG53
                   (first | simp only [add_plain] at hx190_0 | skip)
                   obtain ⟨hx53_0, hf53_0⟩ := Kd.R_celln 0 HO_184001.out ((ji50) : Int) p53 q53
                   replace p53 := eq_true p53
                   replace q53 := eq_true q53
                   have HP59 := Kd.R_putn HO_184001.out ((ji50) : Int) (wrap64 ((rd x184001_2 (ji50)) + 1))
                   rw [← Ny191.out] at HP59
                   have HQ59 := Aside0.mk HP59
                   clear HP59
                   refine start_ (n := 16) (S := fun w' => w'.cell? ⟨gb172, 0, none⟩ = some (.int .i64 a0_0) ∧ w'.cell? ⟨gb172, 1, none⟩ = some (.slice A0_1 l0_1.length c0_1) ∧ w'.cell? ⟨gb172, 2, none⟩ = some (.slice A0_2 l0_2.length c0_2) ∧ w'.cell? ⟨ad188.block, ad188.off + 1, none⟩ = some (.int .i64 (rd (rd_L1 t184 x61_2) 1)) ∧ w'.cell? ad188 = some (.int .i64 (rd (rd_L1 t184 x61_2) 0)) ∧ w'.cell? ⟨go53, ((ji50)).toNat, none⟩ = some (.int .i64 (rd x184001_2 (ji50)))) (ds := [15]) #[false, false, false, false, false, false, false, false, false, false, false, false, false, false, false, false] (by kernel_rfl) rfl rfl ⟨(blk_cell BK172.out 0).trans rfl, (blk_cell BK172.out 1).trans rfl, (blk_cell BK172.out 2).trans rfl, hx188_0, hx189_0, hx190_0⟩ (fun hHeld => ?_); refine with_tabW impl_AddRay.tab15 impl_AddRay.bits15 (fun HT_ HW_ => ?_)
                   generalize wr.drew = w57 at HO_17 HO_59 HO_184001 HO_184002 HL187_0 BK172 BK173 BK183 HR187_0 HB GG53 HQ59 hf53_0 hx188_0 hx189_0 hx190_0 hx53_0 hHeld ⊢
                   refine pure_ (i := 0) (N := some 78) (v := ?_) (a' := ?_) #[true, false, false, false, false, false, false, false, false, false, false, false, false, false, false, false] rfl rfl (any_of HT_.out (by kernel_rfl)) (fun _ _ _ h => h) (Or.inl ⟨by rfl, ?_⟩) ?_ ?_
                   rotate_left
                   ·intro w'
                    go_simp
                    with_reducible rfl
                   rotate_left
                   ·simp only [Act.put, sB, sC, sD, i64_w, i32_w]
                    rfl
                   refine pure_ (i := 1) (N := some 79) (v := ?_) (a' := ?_) #[true, true, false, false, false, false, false, false, false, false, false, false, false, false, false, false] rfl rfl (any_of HT_.out (by kernel_rfl)) (fun _ _ _ h => h) (Or.inl ⟨by rfl, ?_⟩) ?_ ?_
                   rotate_left
                   ·intro w'
                    go_simp
                    with_reducible rfl
                   rotate_left
                   ·simp only [Act.put, sB, sC, sD, i64_w, i32_w]
                    rfl
                   refine pure_ (i := 2) (N := some 80) (v := ?_) (a' := ?_) #[true, true, true, false, false, false, false, false, false, false, false, false, false, false, false, false] rfl rfl (any_of HT_.out (by kernel_rfl)) (fun _ _ _ h => h) (Or.inl ⟨by rfl, ?_⟩) ?_ ?_
                   rotate_left
                   ·intro w'
                    go_simp
                    with_reducible rfl
                   rotate_left
                   ·simp only [Act.put, sB, sC, sD, i64_w, i32_w]
                    rfl
                   refine pure_ (i := 4) (N := some 82) (v := ?_) (a' := ?_) #[true, true, true, false, true, false, false, false, false, false, false, false, false, false, false, false] rfl rfl (any_of HT_.out (by kernel_rfl)) (fun _ _ _ h => h) (Or.inl ⟨by rfl, ?_⟩) ?_ ?_
                   rotate_left
                   ·intro w'
                    go_simp
                    with_reducible rfl
                   rotate_left
                   ·simp only [Act.put, sB, sC, sD, i64_w, i32_w]
                    rfl
                   refine pure_ (i := 7) (N := some 85) (v := ?_) (a' := ?_) #[true, true, true, false, true, false, false, true, false, false, false, false, false, false, false, false] rfl rfl (any_of HT_.out (by kernel_rfl)) (fun _ _ _ h => h) (Or.inl ⟨by rfl, ?_⟩) ?_ ?_
                   rotate_left
                   ·intro w'
                    go_simp
                    with_reducible rfl
                   rotate_left
                   ·simp only [Act.put, sB, sC, sD, i64_w, i32_w]
                    rfl
                   refine pure_ (i := 8) (N := some 86) (v := ?_) (a' := ?_) #[true, true, true, false, true, false, false, true, true, false, false, false, false, false, false, false] rfl rfl (any_of HT_.out (by kernel_rfl)) (fun _ _ _ h => h) (Or.inl ⟨by rfl, ?_⟩) ?_ ?_
                   rotate_left
                   ·intro w'
                    go_simp
                    with_reducible rfl
                   rotate_left
                   ·simp only [Act.put, sB, sC, sD, i64_w, i32_w]
                    rfl
                   refine take_ (i := 3) (N := some 81) (v := ?_) (a' := ?_) #[true, true, true, true, true, false, false, true, true, false, false, false, false, false, false, false] rfl rfl (take_ofW HT_.out HW_.out (by kernel_rfl)) (fun _ _ _ h => h) (Or.inl ⟨by rfl, ?_⟩) hHeld ?_ ?_
                   rotate_left
                   ·rintro w' ⟨s0, s1, s2, s3, s4, s5⟩
                    go_simp
                    with_reducible rfl
                   rotate_left
                   ·simp only [Act.put, sB, sC, sD, i64_w, i32_w]
                    rfl
                   refine take_ (i := 5) (N := some 83) (v := ?_) (a' := ?_) #[true, true, true, true, true, true, false, true, true, false, false, false, false, false, false, false] rfl rfl (take_ofW HT_.out HW_.out (by kernel_rfl)) (fun _ _ _ h => h) (Or.inl ⟨by rfl, ?_⟩) hHeld ?_ ?_
                   rotate_left
                   ·rintro w' ⟨s0, s1, s2, s3, s4, s5⟩
                    go_simp
                    with_reducible rfl
                   rotate_left
                   ·simp only [Act.put, sB, sC, sD, i64_w, i32_w]
                    rfl
                   refine pure_ (i := 6) (N := some 84) (v := ?_) (a' := ?_) #[true, true, true, true, true, true, true, true, true, false, false, false, false, false, false, false] rfl rfl (any_of HT_.out (by kernel_rfl)) (fun _ _ _ h => h) (Or.inl ⟨by rfl, ?_⟩) ?_ ?_
                   rotate_left
                   ·intro w'
                    go_simp
                    with_reducible rfl
                   rotate_left
                   ·simp only [Act.put, sB, sC, sD, i64_w, i32_w]
                    rfl
                   refine take_ (i := 9) (N := some 87) (v := ?_) (a' := ?_) #[true, true, true, true, true, true, true, true, true, true, false, false, false, false, false, false] rfl rfl (take_ofW HT_.out HW_.out (by kernel_rfl)) (fun _ _ _ h => h) (Or.inl ⟨by rfl, ?_⟩) hHeld ?_ ?_
                   rotate_left
                   ·rintro w' ⟨s0, s1, s2, s3, s4, s5⟩
                    go_simp
                    with_reducible rfl
                   rotate_left
                   ·simp only [Act.put, sB, sC, sD, i64_w, i32_w]
                    rfl
                   refine pure_ (i := 10) (N := some 88) (v := ?_) (a' := ?_) #[true, true, true, true, true, true, true, true, true, true, true, false, false, false, false, false] rfl rfl (any_of HT_.out (by kernel_rfl)) (fun _ _ _ h => h) (Or.inl ⟨by rfl, ?_⟩) ?_ ?_
                   rotate_left
                   ·intro w'
                    go_simp
                    with_reducible rfl
                   rotate_left
                   ·simp only [Act.put, sB, sC, sD, i64_w, i32_w]
                    rfl
                   refine pure_ (i := 11) (N := some 89) (v := ?_) (a' := ?_) #[true, true, true, true, true, true, true, true, true, true, true, true, false, false, false, false] rfl rfl (any_of HT_.out (by kernel_rfl)) (fun _ _ _ h => h) (Or.inl ⟨by rfl, ?_⟩) ?_ ?_
                   rotate_left
                   ·intro w'
                    go_simp
                    with_reducible rfl
                   rotate_left
                   ·simp only [Act.put, sB, sC, sD, i64_w, i32_w]
                    rfl
                   refine take_ (i := 12) (N := some 90) (v := ?_) (a' := ?_) #[true, true, true, true, true, true, true, true, true, true, true, true, true, false, false, false] rfl rfl (take_ofW HT_.out HW_.out (by kernel_rfl)) (fun _ _ _ h => h) (Or.inl ⟨by rfl, ?_⟩) hHeld ?_ ?_
                   rotate_left
                   ·rintro w' ⟨s0, s1, s2, s3, s4, s5⟩
                    go_simp
                    with_reducible rfl
                   rotate_left
                   ·simp only [Act.put, sB, sC, sD, i64_w, i32_w]
                    rfl
                   refine pure_ (i := 13) (N := some 91) (v := ?_) (a' := ?_) #[true, true, true, true, true, true, true, true, true, true, true, true, true, true, false, false] rfl rfl (any_of HT_.out (by kernel_rfl)) (fun _ _ _ h => h) (Or.inl ⟨by rfl, ?_⟩) ?_ ?_
                   rotate_left
                   ·intro w'
                    go_simp
                    with_reducible rfl
                   rotate_left
                   ·simp only [Act.put, sB, sC, sD, i64_w, i32_w]
                    rfl
                   refine pure_ (i := 14) (N := some 92) (v := ?_) (a' := ?_) #[true, true, true, true, true, true, true, true, true, true, true, true, true, true, true, false] rfl rfl (any_of HT_.out (by kernel_rfl)) (fun _ _ _ h => h) (Or.inl ⟨by rfl, ?_⟩) ?_ ?_
                   rotate_left
                   ·intro w'
                    go_simp
                    with_reducible rfl
                   rotate_left
                   ·simp only [Act.put, sB, sC, sD, i64_w, i32_w]
                    rfl
                   refine last_ (i := 15) (N := none) #[true, true, true, true, true, true, true, true, true, true, true, true, true, true, true, true] rfl rfl (one_of HT_.out (by kernel_rfl)) (by decide) (fun K hK => ?_)
                   refine skip_ (w1 := ?_) ?_ ?_ ?_ ?_
                   rotate_left
                   ·rfl
                   ·rfl
                   ·go_simp
                    rfl
                   refine hK.out _ _ ?_
                   clear hK K
                   refine done_ (done_of HT_.out (by kernel_rfl)) ?_
                   try go_wp2
                   go_roundg k2
                   case measure => have := HJ9.out; have := HK2.out; omega
                   case rel => exact ⟨(wrap64 (x61_2 + 1)), (y191), (x184002_2), (.slice (some ⟨go53, 0, none⟩) x184001_2.length co58), (u184002), (by first | rfl | (simp; done) | (simp [*]; done)), H', ⟨by have := HJ9.out; have := HK2.out; omega⟩, ⟨by (with_reducible repeat (first | apply Kd.S_alloc | apply Kd.S_drewN | apply Kd.S_drew)); exact Kd.S_mono (Kd.S_far (p := ⟨go53, ((ji50) : Int).toNat, none⟩) (Kd.S_mono HO_17.out (fun k_ hk => (⟨hk, fun e_ => hk.1 (by rw [e_]; rfl)⟩ : _ ∧ k_ ≠ go53))) (fun _ hk => hk.2) (.int .i64 (wrap64 ((rd x184001_2 (ji50)) + 1)))) (fun _ hk => hk.1)⟩, ⟨by (with_reducible repeat (first | apply Kd.S_alloc | apply Kd.S_drewN | apply Kd.S_drew)); exact Kd.S_mono (Kd.S_far (p := ⟨go53, ((ji50) : Int).toNat, none⟩) (Kd.S_mono HO_59.out (fun k_ hk => (⟨hk, fun e_ => hk.1 (by rw [e_]; rfl)⟩ : _ ∧ k_ ≠ go53))) (fun _ hk => hk.2) (.int .i64 (wrap64 ((rd x184001_2 (ji50)) + 1)))) (fun _ hk => hk.1)⟩, ⟨by refine rk ?_; exact HQ59.out⟩, ⟨rk (Kd.R_mono (Kd.R_far (p := ⟨go53, ((ji50) : Int).toNat, none⟩) (Kd.R_mono HO_184002.out (fun k_ hk => (⟨hk, fun e_ => hk (by rw [e_]; rfl)⟩ : _ ∧ k_ ≠ go53))) (fun _ hk => hk.2) (.int .i64 (wrap64 ((rd x184001_2 (ji50)) + 1)))) (fun _ hk => hk.1))⟩, ⟨by refine pk ?_; refine blk_far ?_ (by have h_ := Kd.R_ne HO_184001.out BK172.out (by decide); intro e_; exact h_ (by rw [e_]; rfl)) _; refine pk ?_; exact BK172.out⟩, ⟨by refine pk ?_; refine blk_far ?_ (by have h_ := Kd.R_ne HO_184001.out BK173.out (by decide); intro e_; exact h_ (by rw [e_]; rfl)) _; refine pk ?_; exact BK173.out⟩, ⟨by refine pk ?_; refine blk_far ?_ (by have h_ := Kd.R_ne HO_184001.out BK183.out (by decide); intro e_; exact h_ (by rw [e_]; rfl)) _; refine pk ?_; exact BK183.out⟩, ⟨by repeat (first | (with_reducible first | exact HB.out | apply below_alloc | apply pw_below_drewN | apply below_drew1 | refine below_set ?_ GB53.out | refine below_set ?_ GE172.out | refine below_set ?_ GE173.out | refine below_set ?_ GE183.out) | exact HB.out)⟩⟩
                  ·rw [if_neg c52] at H
                   exact absurd H (by simp)
                 ·rw [if_neg c51] at H
                  exact absurd H (by simp)
                ·rw [if_neg c49] at H
                 exact absurd H (by simp)
               ·rw [if_neg c48] at H
                exact absurd H (by simp)
              ·replace c47 := Bool.eq_false_iff.mpr c47
               subst c47
               have H1 : (if 1 < ((rd_L1 t184 x61_2).length : Int) then (if 0 < ((rd_L1 t184 x61_2).length : Int) then (if 0 ≤ (wrap64 ((wrap64 ((rd (rd_L1 t184 x61_2) 1) * a0_0)) + (rd (rd_L1 t184 x61_2) 0))) then (if (wrap64 ((wrap64 ((rd (rd_L1 t184 x61_2) 1) * a0_0)) + (rd (rd_L1 t184 x61_2) 0))) < (x184002_2.length : Int) then (impl_AddRay.l0 k2 false t184 t184 (t184.length : Int) (wrap64 (x61_2 + 1)) a0_0 l0_1 l0_2 a0_0 x184001_2 (x184002_2.set ((wrap64 ((wrap64 ((rd (rd_L1 t184 x61_2) 1) * a0_0)) + (rd (rd_L1 t184 x61_2) 0))) : Int).toNat (wrap64 ((rd x184002_2 (wrap64 ((wrap64 ((rd (rd_L1 t184 x61_2) 1) * a0_0)) + (rd (rd_L1 t184 x61_2) 0)))) + 1)))) else (none)) else (none)) else (none)) else (none)) = some (r1, r2, r3, r4) := by rw [if_neg (show ¬ (false = true) by decide)] at H; exact H
               clear H
               have H := H1
               clear H1
               by_cases c60 : 1 < ((rd_L1 t184 x61_2).length : Int)
               ·rw [if_pos c60] at H
                have c60b0 : decide (1 < ((rd_L1 t184 x61_2).length : Int)) = true := decide_eq_true c60
                have c60b1 : decide (1 < (rd_L1 t184 x61_2).length) = true := decide_eq_true (by omega)
                clear c60
                by_cases c61 : 0 < ((rd_L1 t184 x61_2).length : Int)
                ·rw [if_pos c61] at H
                 have c61b0 : decide (0 < ((rd_L1 t184 x61_2).length : Int)) = true := decide_eq_true c61
                 have c61b1 : decide (0 < (rd_L1 t184 x61_2).length) = true := decide_eq_true (by omega)
                 clear c61
                 obtain ⟨ji62, hji62⟩ : ∃ j_ : Int, (wrap64 ((wrap64 ((rd (rd_L1 t184 x61_2) 1) * a0_0)) + (rd (rd_L1 t184 x61_2) 0))) = j_ := ⟨_, rfl⟩
                 replace H : (if 0 ≤ (ji62) then (if (ji62) < (x184002_2.length : Int) then (impl_AddRay.l0 k2 false t184 t184 (t184.length : Int) (wrap64 (x61_2 + 1)) a0_0 l0_1 l0_2 a0_0 x184001_2 (x184002_2.set ((ji62) : Int).toNat (wrap64 ((rd x184002_2 (ji62)) + 1)))) else (none)) else (none)) = some (r1, r2, r3, r4) := by first | (rw [hji62] at H; exact H) | (simp only [hji62] at H ⊢; exact H)
                 have hji62w : (IntKind.i64.wrap ((wrap64 ((rd (rd_L1 t184 x61_2) 1) * a0_0)) + (rd (rd_L1 t184 x61_2) 0))) = ji62 := (i64_w _).trans hji62
                 by_cases c63 : 0 ≤ (ji62)
                 ·rw [if_pos c63] at H
                  have c63b0 : decide (0 ≤ (ji62)) = true := decide_eq_true c63
                  clear c63
                  by_cases c64 : (ji62) < (x184002_2.length : Int)
                  ·rw [if_pos c64] at H
                   have c64b0 : decide ((ji62) < (x184002_2.length : Int)) = true := decide_eq_true c64
                   clear c64
                   obtain ⟨y195, hy195⟩ : ∃ y_ : List Int, y_ = (x184002_2.set ((ji62) : Int).toNat (wrap64 ((rd x184002_2 (ji62)) + 1))) := ⟨_, rfl⟩
                   replace H : (impl_AddRay.l0 k2 false t184 t184 (t184.length : Int) (wrap64 (x61_2 + 1)) a0_0 l0_1 l0_2 a0_0 x184001_2 y195) = some (r1, r2, r3, r4) := by first | (rw [hy195]; with_reducible exact H) | (have H2_ := (Option.bind_some _ _).symm.trans H; rw [hy195]; with_reducible exact H2_) | (have H2_ := (Option.bind_some _ _).symm.trans H; with_reducible exact H2_) | with_reducible exact H | (rw [hy195]; exact H) | exact H
                   have Ny195 := Aside0.mk hy195
                   clear hy195
                   have H' := Aside0.mk H
                   clear H
                   have p187 : 0 ≤ (x61_2 : Int) := of_decide_eq_true (by first | (with_reducible assumption) | assumption)
                   have q187 : x61_2 < (t184.length : Int) := of_decide_eq_true (by first | (with_reducible assumption) | assumption)
                   obtain ⟨ad187, A187_0, c187_0, e187, hx187_0, hl187_0, hi187_0⟩ := at_L1 (Kd.S_reads' HO_59.out).2.2 x61_2 p187 q187
                   cases e187
                   obtain ⟨ce187, hce187, hMe187, hcc187⟩ := Kd.S_get HO_59.out [] x61_2 p187 (by first | exact q187 | exact of_decide_eq_true (by first | (with_reducible assumption) | assumption) | (have e_ := (Kd.S_reads' HO_59.out).1; omega))
                   obtain ⟨ve187_0, rfl, ge187_0⟩ := hMe187
                   have hv187_0 := hcc187 0 _ rfl
                   rw [Nat.add_zero, show ((Kd.slice 3 (Kd.int .i64))).sz = 1 from rfl, Nat.mul_one] at hv187_0
                   replace hv187_0 := Option.some.inj (hv187_0.symm.trans hx187_0)
                   rw [hv187_0] at ge187_0
                   have HL187_0 := a_ (show Kd.R (Kd.int .i64) 3 _ _ _ _ (rd_L1 t184 x61_2) from ge187_0)
                   clear hv187_0 ge187_0
                   clear hcc187 hce187
                   have HR187_0 := Aside0.mk hi187_0
                   have HC187_0 := Aside0.mk hl187_0
                   clear hi187_0 hl187_0
                   replace p187 := eq_true p187
                   replace q187 := eq_true q187
                   have hnb66 := NB183_172.out
                   have hnc66 := NB172_183.out
                   have hnb67 := NB183_173.out
                   have hnc67 := NB173_183.out
                   have hcz68_0 : wr.cell? ⟨gb183, 0, none⟩ = some (.int .i64 a0_0) := (blk_cell BK183.out 0).trans rfl
                   have hcz68_1 : wr.cell? ⟨gb183, 1, none⟩ = some (u184001) := (blk_cell BK183.out 1).trans rfl
                   have hcz68_2 : wr.cell? ⟨gb183, 2, none⟩ = some (u184002) := (blk_cell BK183.out 2).trans rfl
                   have hfz68_0 := blk_frozen BK183.out 0
                   have hfz68_1 := blk_frozen BK183.out 1
                   have hfz68_2 := blk_frozen BK183.out 2
                   try go_wp2
                   replace HO_17 := a_ (Kd.S_drew HO_17.out)
                   replace HO_59 := a_ (Kd.S_drew HO_59.out)
                   replace HO_184001 := a_ (Kd.R_drew HO_184001.out)
                   replace HO_184002 := a_ (Kd.R_drew HO_184002.out)
                   replace HL187_0 := a_ (Kd.R_drew HL187_0.out)
                   replace BK172 := a_ (blk_drew BK172.out)
                   replace BK173 := a_ (blk_drew BK173.out)
                   replace BK183 := a_ (blk_drew BK183.out)
                   replace HR187_0 := a_ (Kd.C_drew HR187_0.out)
                   replace HB := a_ (below_drew1 HB.out)
                   have p192 : 0 ≤ (1 : Int) := (by omega)
                   have q192 : 1 < ((rd_L1 t184 x61_2).length : Int) := of_decide_eq_true (by first | (with_reducible assumption) | assumption)
                   obtain ⟨ad192, e192, hx192_0⟩ := Kd.at_int (by repeat (first | (with_reducible exact HR187_0.out) | (with_reducible refine Kd.C_alloc ?_ _) | (with_reducible refine Kd.C_drewN ?_ _) | (with_reducible refine Kd.C_drew ?_) | exact HR187_0.out)) 1 p192 q192
                   cases e192
                   (try simp only [show (1 : Int).toNat = 1 from rfl, Nat.reduceMul, Nat.reduceEqDiff, Go.Addr.add, ↓reduceIte] at hx192_0)
                   have qi192 : (1 < (rd_L1 t184 x61_2).length) = True := eq_true (by omega)
                   (try rw [show ((1 : Int)).toNat = 1 from rfl] at hx192_0)
                   replace p192 := eq_true p192
                   replace q192 := eq_true q192
                   have p193 : 0 ≤ (0 : Int) := (by omega)
                   have q193 : 0 < ((rd_L1 t184 x61_2).length : Int) := of_decide_eq_true (by first | (with_reducible assumption) | assumption)
                   obtain ⟨ad193, e193, hx193_0⟩ := Kd.at_int (by repeat (first | (with_reducible exact HR187_0.out) | (with_reducible refine Kd.C_alloc ?_ _) | (with_reducible refine Kd.C_drewN ?_ _) | (with_reducible refine Kd.C_drew ?_) | exact HR187_0.out)) 0 p193 q193
                   obtain rfl : ad192 = ad193 := (by injection e193)
                   have qi193 : (0 < (rd_L1 t184 x61_2).length) = True := eq_true (by omega)
                   (try rw [show ((0 : Int)).toNat = 0 from rfl] at hx193_0)
                   (try rw [Addr.add_zero'] at hx193_0)
                   replace p193 := eq_true p193
                   replace q193 := eq_true q193
                   obtain ⟨Ao70, co70, eo70⟩ := Kd.R_slice HO_184002.out
                   (first | subst eo70 | (injection eo70 with f1_ f2_ f3_; obtain rfl := f1_.symm; obtain rfl := f3_.symm))
                   have p194 : 0 ≤ ((ji62) : Int) := of_decide_eq_true (by first | (with_reducible assumption) | assumption)
                   have q194 : (ji62) < (x184002_2.length : Int) := of_decide_eq_true (by first | (with_reducible assumption) | assumption)
                   obtain ⟨ad194, e194, hx194_0⟩ := Kd.at_int (Kd.R_reads' HO_184002.out).2.2 (ji62) p194 q194
                   cases e194
                   replace p194 := eq_true p194
                   replace q194 := eq_true q194
                   have p65 : 0 ≤ ((ji62) : Int) := of_decide_eq_true (by first | (with_reducible assumption) | assumption)
                   have q65 : ((ji62) : Int) < ((x184002_2.length : Int) : Int) := of_decide_eq_true (by first | (with_reducible assumption) | assumption)
                   obtain ⟨go65, co65, eo65, gb65, gl65, cl65, HG65⟩ := Kd.R_form HO_184002.out (by omega)
                   (first | cases eo65 | (injection eo65 with ea_ en_ ec_; (first | subst ea_ | (injection ea_ with ea_; subst ea_)); subst ec_; clear en_))
                   have GB65 := Aside0.mk gb65
                   have GG65 := Aside0.mk HG65
                   clear gb65 gl65 HG65
                   (first | simp only [add_plain] at hx194_0 | skip)
                   obtain ⟨hx65_0, hf65_0⟩ := Kd.R_celln 0 HO_184002.out ((ji62) : Int) p65 q65
                   replace p65 := eq_true p65
                   replace q65 := eq_true q65
                   have HP71 := Kd.R_putn HO_184002.out ((ji62) : Int) (wrap64 ((rd x184002_2 (ji62)) + 1))
                   rw [← Ny195.out] at HP71
                   have HQ71 := Aside0.mk HP71
                   clear HP71
                   refine start_ (n := 16) (S := fun w' => w'.cell? ⟨gb172, 0, none⟩ = some (.int .i64 a0_0) ∧ w'.cell? ⟨gb172, 1, none⟩ = some (.slice A0_1 l0_1.length c0_1) ∧ w'.cell? ⟨gb172, 2, none⟩ = some (.slice A0_2 l0_2.length c0_2) ∧ w'.cell? ⟨ad192.block, ad192.off + 1, none⟩ = some (.int .i64 (rd (rd_L1 t184 x61_2) 1)) ∧ w'.cell? ad192 = some (.int .i64 (rd (rd_L1 t184 x61_2) 0)) ∧ w'.cell? ⟨go65, ((ji62)).toNat, none⟩ = some (.int .i64 (rd x184002_2 (ji62)))) (ds := [15]) #[false, false, false, false, false, false, false, false, false, false, false, false, false, false, false, false] (by kernel_rfl) rfl rfl ⟨(blk_cell BK172.out 0).trans rfl, (blk_cell BK172.out 1).trans rfl, (blk_cell BK172.out 2).trans rfl, hx192_0, hx193_0, hx194_0⟩ (fun hHeld => ?_); refine with_tabW impl_AddRay.tab15 impl_AddRay.bits15 (fun HT_ HW_ => ?_)
                   generalize wr.drew = w69 at HO_17 HO_59 HO_184001 HO_184002 HL187_0 BK172 BK173 BK183 HR187_0 HB GG65 HQ71 hf65_0 hx192_0 hx193_0 hx194_0 hx65_0 hHeld ⊢
                   refine pure_ (i := 0) (N := some 78) (v := ?_) (a' := ?_) #[true, false, false, false, false, false, false, false, false, false, false, false, false, false, false, false] rfl rfl (any_of HT_.out (by kernel_rfl)) (fun _ _ _ h => h) (Or.inl ⟨by rfl, ?_⟩) ?_ ?_
                   rotate_left
                   ·intro w'
                    go_simp
                    with_reducible rfl
                   rotate_left
                   ·simp only [Act.put, sB, sC, sD, i64_w, i32_w]
                    rfl
                   refine pure_ (i := 1) (N := some 79) (v := ?_) (a' := ?_) #[true, true, false, false, false, false, false, false, false, false, false, false, false, false, false, false] rfl rfl (any_of HT_.out (by kernel_rfl)) (fun _ _ _ h => h) (Or.inl ⟨by rfl, ?_⟩) ?_ ?_
                   rotate_left
                   ·intro w'
                    go_simp
                    with_reducible rfl
                   rotate_left
                   ·simp only [Act.put, sB, sC, sD, i64_w, i32_w]
                    rfl
                   refine pure_ (i := 2) (N := some 80) (v := ?_) (a' := ?_) #[true, true, true, false, false, false, false, false, false, false, false, false, false, false, false, false] rfl rfl (any_of HT_.out (by kernel_rfl)) (fun _ _ _ h => h) (Or.inl ⟨by rfl, ?_⟩) ?_ ?_
                   rotate_left
                   ·intro w'
                    go_simp
                    with_reducible rfl
                   rotate_left
                   ·simp only [Act.put, sB, sC, sD, i64_w, i32_w]
                    rfl
                   refine pure_ (i := 4) (N := some 82) (v := ?_) (a' := ?_) #[true, true, true, false, true, false, false, false, false, false, false, false, false, false, false, false] rfl rfl (any_of HT_.out (by kernel_rfl)) (fun _ _ _ h => h) (Or.inl ⟨by rfl, ?_⟩) ?_ ?_
                   rotate_left
                   ·intro w'
                    go_simp
                    with_reducible rfl
                   rotate_left
                   ·simp only [Act.put, sB, sC, sD, i64_w, i32_w]
                    rfl
                   refine pure_ (i := 7) (N := some 85) (v := ?_) (a' := ?_) #[true, true, true, false, true, false, false, true, false, false, false, false, false, false, false, false] rfl rfl (any_of HT_.out (by kernel_rfl)) (fun _ _ _ h => h) (Or.inl ⟨by rfl, ?_⟩) ?_ ?_
                   rotate_left
                   ·intro w'
                    go_simp
                    with_reducible rfl
                   rotate_left
                   ·simp only [Act.put, sB, sC, sD, i64_w, i32_w]
                    rfl
                   refine pure_ (i := 8) (N := some 86) (v := ?_) (a' := ?_) #[true, true, true, false, true, false, false, true, true, false, false, false, false, false, false, false] rfl rfl (any_of HT_.out (by kernel_rfl)) (fun _ _ _ h => h) (Or.inl ⟨by rfl, ?_⟩) ?_ ?_
                   rotate_left
                   ·intro w'
                    go_simp
                    with_reducible rfl
                   rotate_left
                   ·simp only [Act.put, sB, sC, sD, i64_w, i32_w]
                    rfl
                   refine take_ (i := 3) (N := some 81) (v := ?_) (a' := ?_) #[true, true, true, true, true, false, false, true, true, false, false, false, false, false, false, false] rfl rfl (take_ofW HT_.out HW_.out (by kernel_rfl)) (fun _ _ _ h => h) (Or.inl ⟨by rfl, ?_⟩) hHeld ?_ ?_
                   rotate_left
                   ·rintro w' ⟨s0, s1, s2, s3, s4, s5⟩
                    go_simp
                    with_reducible rfl
                   rotate_left
                   ·simp only [Act.put, sB, sC, sD, i64_w, i32_w]
                    rfl
                   refine take_ (i := 5) (N := some 83) (v := ?_) (a' := ?_) #[true, true, true, true, true, true, false, true, true, false, false, false, false, false, false, false] rfl rfl (take_ofW HT_.out HW_.out (by kernel_rfl)) (fun _ _ _ h => h) (Or.inl ⟨by rfl, ?_⟩) hHeld ?_ ?_
                   rotate_left
                   ·rintro w' ⟨s0, s1, s2, s3, s4, s5⟩
                    go_simp
                    with_reducible rfl
                   rotate_left
                   ·simp only [Act.put, sB, sC, sD, i64_w, i32_w]
                    rfl
                   refine pure_ (i := 6) (N := some 84) (v := ?_) (a' := ?_) #[true, true, true, true, true, true, true, true, true, false, false, false, false, false, false, false] rfl rfl (any_of HT_.out (by kernel_rfl)) (fun _ _ _ h => h) (Or.inl ⟨by rfl, ?_⟩) ?_ ?_
                   rotate_left
                   ·intro w'
                    go_simp
                    with_reducible rfl
                   rotate_left
                   ·simp only [Act.put, sB, sC, sD, i64_w, i32_w]
                    rfl
                   refine take_ (i := 9) (N := some 87) (v := ?_) (a' := ?_) #[true, true, true, true, true, true, true, true, true, true, false, false, false, false, false, false] rfl rfl (take_ofW HT_.out HW_.out (by kernel_rfl)) (fun _ _ _ h => h) (Or.inl ⟨by rfl, ?_⟩) hHeld ?_ ?_
                   rotate_left
                   ·rintro w' ⟨s0, s1, s2, s3, s4, s5⟩
                    go_simp
                    with_reducible rfl
                   rotate_left
                   ·simp only [Act.put, sB, sC, sD, i64_w, i32_w]
                    rfl
                   refine pure_ (i := 10) (N := some 88) (v := ?_) (a' := ?_) #[true, true, true, true, true, true, true, true, true, true, true, false, false, false, false, false] rfl rfl (any_of HT_.out (by kernel_rfl)) (fun _ _ _ h => h) (Or.inl ⟨by rfl, ?_⟩) ?_ ?_
                   rotate_left
                   ·intro w'
                    go_simp
                    with_reducible rfl
                   rotate_left
                   ·simp only [Act.put, sB, sC, sD, i64_w, i32_w]
                    rfl
                   refine pure_ (i := 11) (N := some 89) (v := ?_) (a' := ?_) #[true, true, true, true, true, true, true, true, true, true, true, true, false, false, false, false] rfl rfl (any_of HT_.out (by kernel_rfl)) (fun _ _ _ h => h) (Or.inl ⟨by rfl, ?_⟩) ?_ ?_
                   rotate_left
                   ·intro w'
                    go_simp
                    with_reducible rfl
                   rotate_left
                   ·simp only [Act.put, sB, sC, sD, i64_w, i32_w]
                    rfl
                   refine take_ (i := 12) (N := some 90) (v := ?_) (a' := ?_) #[true, true, true, true, true, true, true, true, true, true, true, true, true, false, false, false] rfl rfl (take_ofW HT_.out HW_.out (by kernel_rfl)) (fun _ _ _ h => h) (Or.inl ⟨by rfl, ?_⟩) hHeld ?_ ?_
                   rotate_left
                   ·rintro w' ⟨s0, s1, s2, s3, s4, s5⟩
                    go_simp
                    with_reducible rfl
                   rotate_left
                   ·simp only [Act.put, sB, sC, sD, i64_w, i32_w]
                    rfl
                   refine pure_ (i := 13) (N := some 91) (v := ?_) (a' := ?_) #[true, true, true, true, true, true, true, true, true, true, true, true, true, true, false, false] rfl rfl (any_of HT_.out (by kernel_rfl)) (fun _ _ _ h => h) (Or.inl ⟨by rfl, ?_⟩) ?_ ?_
                   rotate_left
                   ·intro w'
                    go_simp
                    with_reducible rfl
                   rotate_left
                   ·simp only [Act.put, sB, sC, sD, i64_w, i32_w]
                    rfl
                   refine pure_ (i := 14) (N := some 92) (v := ?_) (a' := ?_) #[true, true, true, true, true, true, true, true, true, true, true, true, true, true, true, false] rfl rfl (any_of HT_.out (by kernel_rfl)) (fun _ _ _ h => h) (Or.inl ⟨by rfl, ?_⟩) ?_ ?_
                   rotate_left
                   ·intro w'
                    go_simp
                    with_reducible rfl
                   rotate_left
                   ·simp only [Act.put, sB, sC, sD, i64_w, i32_w]
                    rfl
                   refine last_ (i := 15) (N := none) #[true, true, true, true, true, true, true, true, true, true, true, true, true, true, true, true] rfl rfl (one_of HT_.out (by kernel_rfl)) (by decide) (fun K hK => ?_)
                   refine skip_ (w1 := ?_) ?_ ?_ ?_ ?_
                   rotate_left
                   ·rfl
                   ·rfl
                   ·go_simp
                    rfl
                   refine hK.out _ _ ?_
                   clear hK K
                   refine done_ (done_of HT_.out (by kernel_rfl)) ?_
                   try go_wp2
                   go_roundg k2
                   case measure => have := HJ9.out; have := HK2.out; omega
                   case rel => exact ⟨(wrap64 (x61_2 + 1)), (x184001_2), (y195), (u184001), (.slice (some ⟨go65, 0, none⟩) x184002_2.length co70), (by first | rfl | (simp; done) | (simp [*]; done)), H', ⟨by have := HJ9.out; have := HK2.out; omega⟩, ⟨by (with_reducible repeat (first | apply Kd.S_alloc | apply Kd.S_drewN | apply Kd.S_drew)); exact Kd.S_mono (Kd.S_far (p := ⟨go65, ((ji62) : Int).toNat, none⟩) (Kd.S_mono HO_17.out (fun k_ hk => (⟨hk, fun e_ => hk.2 (by rw [e_]; rfl)⟩ : _ ∧ k_ ≠ go65))) (fun _ hk => hk.2) (.int .i64 (wrap64 ((rd x184002_2 (ji62)) + 1)))) (fun _ hk => hk.1)⟩, ⟨by (with_reducible repeat (first | apply Kd.S_alloc | apply Kd.S_drewN | apply Kd.S_drew)); exact Kd.S_mono (Kd.S_far (p := ⟨go65, ((ji62) : Int).toNat, none⟩) (Kd.S_mono HO_59.out (fun k_ hk => (⟨hk, fun e_ => hk.2 (by rw [e_]; rfl)⟩ : _ ∧ k_ ≠ go65))) (fun _ hk => hk.2) (.int .i64 (wrap64 ((rd x184002_2 (ji62)) + 1)))) (fun _ hk => hk.1)⟩, ⟨rk (Kd.R_mono (Kd.R_far (p := ⟨go65, ((ji62) : Int).toNat, none⟩) (Kd.R_mono HO_184001.out (fun k_ hk => (⟨hk, fun e_ => hk (by rw [e_]; rfl)⟩ : _ ∧ k_ ≠ go65))) (fun _ hk => hk.2) (.int .i64 (wrap64 ((rd x184002_2 (ji62)) + 1)))) (fun _ hk => hk.1))⟩, ⟨by refine rk ?_; exact HQ71.out⟩, ⟨by refine pk ?_; refine blk_far ?_ (by have h_ := Kd.R_ne HO_184002.out BK172.out (by decide); intro e_; exact h_ (by rw [e_]; rfl)) _; refine pk ?_; exact BK172.out⟩, ⟨by refine pk ?_; refine blk_far ?_ (by have h_ := Kd.R_ne HO_184002.out BK173.out (by decide); intro e_; exact h_ (by rw [e_]; rfl)) _; refine pk ?_; exact BK173.out⟩, ⟨by refine pk ?_; refine blk_far ?_ (by have h_ := Kd.R_ne HO_184002.out BK183.out (by decide); intro e_; exact h_ (by rw [e_]; rfl)) _; refine pk ?_; exact BK183.out⟩, ⟨by repeat (first | (with_reducible first | exact HB.out | apply below_alloc | apply pw_below_drewN | apply below_drew1 | refine below_set ?_ GB65.out | refine below_set ?_ GE172.out | refine below_set ?_ GE173.out | refine below_set ?_ GE183.out) | exact HB.out)⟩⟩
                  ·rw [if_neg c64] at H
                   exact absurd H (by simp)
                 ·rw [if_neg c63] at H
                  exact absurd H (by simp)
                ·rw [if_neg c61] at H
                 exact absurd H (by simp)
               ·rw [if_neg c60] at H
                exact absurd H (by simp)
             ·rw [if_neg c46] at H
              have c46b0 : (x61_2 == (wrap64 ((t184.length : Int) - 1))) = false := beq_eq_false_iff_ne.mpr c46
              have c46b1 : (x61_2 != (wrap64 ((t184.length : Int) - 1))) = true := bne_iff_ne.mpr c46
              by_cases c72 : 1 < ((rd_L1 t184 x61_2).length : Int)
              ·rw [if_pos c72] at H
               have c72b0 : decide (1 < ((rd_L1 t184 x61_2).length : Int)) = true := decide_eq_true c72
               have c72b1 : decide (1 < (rd_L1 t184 x61_2).length) = true := decide_eq_true (by omega)
               clear c72
               by_cases c73 : 0 < ((rd_L1 t184 x61_2).length : Int)
               ·rw [if_pos c73] at H
                have c73b0 : decide (0 < ((rd_L1 t184 x61_2).length : Int)) = true := decide_eq_true c73
                have c73b1 : decide (0 < (rd_L1 t184 x61_2).length) = true := decide_eq_true (by omega)
                clear c73
                obtain ⟨ji74, hji74⟩ : ∃ j_ : Int, (wrap64 ((wrap64 ((rd (rd_L1 t184 x61_2) 1) * a0_0)) + (rd (rd_L1 t184 x61_2) 0))) = j_ := ⟨_, rfl⟩
                replace H : (if 0 ≤ (ji74) then (if (ji74) < (x184002_2.length : Int) then (impl_AddRay.l0 k2 a5 t184 t184 (t184.length : Int) (wrap64 (x61_2 + 1)) a0_0 l0_1 l0_2 a0_0 x184001_2 (x184002_2.set ((ji74) : Int).toNat (wrap64 ((rd x184002_2 (ji74)) + 1)))) else (none)) else (none)) = some (r1, r2, r3, r4) := by first | (rw [hji74] at H; exact H) | (simp only [hji74] at H ⊢; exact H)
                have hji74w : (IntKind.i64.wrap ((wrap64 ((rd (rd_L1 t184 x61_2) 1) * a0_0)) + (rd (rd_L1 t184 x61_2) 0))) = ji74 := (i64_w _).trans hji74
                by_cases c75 : 0 ≤ (ji74)
                ·rw [if_pos c75] at H
                 have c75b0 : decide (0 ≤ (ji74)) = true := decide_eq_true c75
                 clear c75
                 by_cases c76 : (ji74) < (x184002_2.length : Int)
                 ·rw [if_pos c76] at H
                  have c76b0 : decide ((ji74) < (x184002_2.length : Int)) = true := decide_eq_true c76
                  clear c76
                  obtain ⟨y199, hy199⟩ : ∃ y_ : List Int, y_ = (x184002_2.set ((ji74) : Int).toNat (wrap64 ((rd x184002_2 (ji74)) + 1))) := ⟨_, rfl⟩
                  replace H : (impl_AddRay.l0 k2 a5 t184 t184 (t184.length : Int) (wrap64 (x61_2 + 1)) a0_0 l0_1 l0_2 a0_0 x184001_2 y199) = some (r1, r2, r3, r4) := by first | (rw [hy199]; with_reducible exact H) | (have H2_ := (Option.bind_some _ _).symm.trans H; rw [hy199]; with_reducible exact H2_) | (have H2_ := (Option.bind_some _ _).symm.trans H; with_reducible exact H2_) | with_reducible exact H | (rw [hy199]; exact H) | exact H
                  have Ny199 := Aside0.mk hy199
                  clear hy199
                  have H' := Aside0.mk H
                  clear H
                  have p187 : 0 ≤ (x61_2 : Int) := of_decide_eq_true (by first | (with_reducible assumption) | assumption)
                  have q187 : x61_2 < (t184.length : Int) := of_decide_eq_true (by first | (with_reducible assumption) | assumption)
                  obtain ⟨ad187, A187_0, c187_0, e187, hx187_0, hl187_0, hi187_0⟩ := at_L1 (Kd.S_reads' HO_59.out).2.2 x61_2 p187 q187
                  cases e187
                  obtain ⟨ce187, hce187, hMe187, hcc187⟩ := Kd.S_get HO_59.out [] x61_2 p187 (by first | exact q187 | exact of_decide_eq_true (by first | (with_reducible assumption) | assumption) | (have e_ := (Kd.S_reads' HO_59.out).1; omega))
                  obtain ⟨ve187_0, rfl, ge187_0⟩ := hMe187
                  have hv187_0 := hcc187 0 _ rfl
                  rw [Nat.add_zero, show ((Kd.slice 3 (Kd.int .i64))).sz = 1 from rfl, Nat.mul_one] at hv187_0
                  replace hv187_0 := Option.some.inj (hv187_0.symm.trans hx187_0)
                  rw [hv187_0] at ge187_0
                  have HL187_0 := a_ (show Kd.R (Kd.int .i64) 3 _ _ _ _ (rd_L1 t184 x61_2) from ge187_0)
                  clear hv187_0 ge187_0
                  clear hcc187 hce187
                  have HR187_0 := Aside0.mk hi187_0
                  have HC187_0 := Aside0.mk hl187_0
                  clear hi187_0 hl187_0
                  replace p187 := eq_true p187
                  replace q187 := eq_true q187
                  have hnb78 := NB183_172.out
                  have hnc78 := NB172_183.out
                  have hnb79 := NB183_173.out
                  have hnc79 := NB173_183.out
                  have hcz80_0 : wr.cell? ⟨gb183, 0, none⟩ = some (.int .i64 a0_0) := (blk_cell BK183.out 0).trans rfl
                  have hcz80_1 : wr.cell? ⟨gb183, 1, none⟩ = some (u184001) := (blk_cell BK183.out 1).trans rfl
                  have hcz80_2 : wr.cell? ⟨gb183, 2, none⟩ = some (u184002) := (blk_cell BK183.out 2).trans rfl
                  have hfz80_0 := blk_frozen BK183.out 0
                  have hfz80_1 := blk_frozen BK183.out 1
                  have hfz80_2 := blk_frozen BK183.out 2
                  try go_wp2
                  replace HO_17 := a_ (Kd.S_drew HO_17.out)
                  replace HO_59 := a_ (Kd.S_drew HO_59.out)
                  replace HO_184001 := a_ (Kd.R_drew HO_184001.out)
                  replace HO_184002 := a_ (Kd.R_drew HO_184002.out)
                  replace HL187_0 := a_ (Kd.R_drew HL187_0.out)
                  replace BK172 := a_ (blk_drew BK172.out)
                  replace BK173 := a_ (blk_drew BK173.out)
                  replace BK183 := a_ (blk_drew BK183.out)
                  replace HR187_0 := a_ (Kd.C_drew HR187_0.out)
                  replace HB := a_ (below_drew1 HB.out)
                  have p196 : 0 ≤ (1 : Int) := (by omega)
                  have q196 : 1 < ((rd_L1 t184 x61_2).length : Int) := of_decide_eq_true (by first | (with_reducible assumption) | assumption)
                  obtain ⟨ad196, e196, hx196_0⟩ := Kd.at_int (by repeat (first | (with_reducible exact HR187_0.out) | (with_reducible refine Kd.C_alloc ?_ _) | (with_reducible refine Kd.C_drewN ?_ _) | (with_reducible refine Kd.C_drew ?_) | exact HR187_0.out)) 1 p196 q196
                  cases e196
                  (try simp only [show (1 : Int).toNat = 1 from rfl, Nat.reduceMul, Nat.reduceEqDiff, Go.Addr.add, ↓reduceIte] at hx196_0)
                  have qi196 : (1 < (rd_L1 t184 x61_2).length) = True := eq_true (by omega)
                  (try rw [show ((1 : Int)).toNat = 1 from rfl] at hx196_0)
                  replace p196 := eq_true p196
                  replace q196 := eq_true q196
                  have p197 : 0 ≤ (0 : Int) := (by omega)
                  have q197 : 0 < ((rd_L1 t184 x61_2).length : Int) := of_decide_eq_true (by first | (with_reducible assumption) | assumption)
                  obtain ⟨ad197, e197, hx197_0⟩ := Kd.at_int (by repeat (first | (with_reducible exact HR187_0.out) | (with_reducible refine Kd.C_alloc ?_ _) | (with_reducible refine Kd.C_drewN ?_ _) | (with_reducible refine Kd.C_drew ?_) | exact HR187_0.out)) 0 p197 q197
                  obtain rfl : ad196 = ad197 := (by injection e197)
                  have qi197 : (0 < (rd_L1 t184 x61_2).length) = True := eq_true (by omega)
                  (try rw [show ((0 : Int)).toNat = 0 from rfl] at hx197_0)
                  (try rw [Addr.add_zero'] at hx197_0)
                  replace p197 := eq_true p197
                  replace q197 := eq_true q197
                  obtain ⟨Ao82, co82, eo82⟩ := Kd.R_slice HO_184002.out
                  (first | subst eo82 | (injection eo82 with f1_ f2_ f3_; obtain rfl := f1_.symm; obtain rfl := f3_.symm))
                  have p198 : 0 ≤ ((ji74) : Int) := of_decide_eq_true (by first | (with_reducible assumption) | assumption)
                  have q198 : (ji74) < (x184002_2.length : Int) := of_decide_eq_true (by first | (with_reducible assumption) | assumption)
                  obtain ⟨ad198, e198, hx198_0⟩ := Kd.at_int (Kd.R_reads' HO_184002.out).2.2 (ji74) p198 q198
                  cases e198
                  replace p198 := eq_true p198
                  replace q198 := eq_true q198
                  have p77 : 0 ≤ ((ji74) : Int) := of_decide_eq_true (by first | (with_reducible assumption) | assumption)
                  have q77 : ((ji74) : Int) < ((x184002_2.length : Int) : Int) := of_decide_eq_true (by first | (with_reducible assumption) | assumption)
                  obtain ⟨go77, co77, eo77, gb77, gl77, cl77, HG77⟩ := Kd.R_form HO_184002.out (by omega)
                  (first | cases eo77 | (injection eo77 with ea_ en_ ec_; (first | subst ea_ | (injection ea_ with ea_; subst ea_)); subst ec_; clear en_))
                  have GB77 := Aside0.mk gb77
                  have GG77 := Aside0.mk HG77
                  clear gb77 gl77 HG77
                  (first | simp only [add_plain] at hx198_0 | skip)
                  obtain ⟨hx77_0, hf77_0⟩ := Kd.R_celln 0 HO_184002.out ((ji74) : Int) p77 q77
                  replace p77 := eq_true p77
                  replace q77 := eq_true q77
                  have HP83 := Kd.R_putn HO_184002.out ((ji74) : Int) (wrap64 ((rd x184002_2 (ji74)) + 1))
                  rw [← Ny199.out] at HP83
                  have HQ83 := Aside0.mk HP83
                  clear HP83
                  refine start_ (n := 16) (S := fun w' => w'.cell? ⟨gb172, 0, none⟩ = some (.int .i64 a0_0) ∧ w'.cell? ⟨gb172, 1, none⟩ = some (.slice A0_1 l0_1.length c0_1) ∧ w'.cell? ⟨gb172, 2, none⟩ = some (.slice A0_2 l0_2.length c0_2) ∧ w'.cell? ⟨ad196.block, ad196.off + 1, none⟩ = some (.int .i64 (rd (rd_L1 t184 x61_2) 1)) ∧ w'.cell? ad196 = some (.int .i64 (rd (rd_L1 t184 x61_2) 0)) ∧ w'.cell? ⟨go77, ((ji74)).toNat, none⟩ = some (.int .i64 (rd x184002_2 (ji74)))) (ds := [15]) #[false, false, false, false, false, false, false, false, false, false, false, false, false, false, false, false] (by kernel_rfl) rfl rfl ⟨(blk_cell BK172.out 0).trans rfl, (blk_cell BK172.out 1).trans rfl, (blk_cell BK172.out 2).trans rfl, hx196_0, hx197_0, hx198_0⟩ (fun hHeld => ?_); refine with_tabW impl_AddRay.tab15 impl_AddRay.bits15 (fun HT_ HW_ => ?_)
                  generalize wr.drew = w81 at HO_17 HO_59 HO_184001 HO_184002 HL187_0 BK172 BK173 BK183 HR187_0 HB GG77 HQ83 hf77_0 hx196_0 hx197_0 hx198_0 hx77_0 hHeld ⊢
                  refine pure_ (i := 0) (N := some 78) (v := ?_) (a' := ?_) #[true, false, false, false, false, false, false, false, false, false, false, false, false, false, false, false] rfl rfl (any_of HT_.out (by kernel_rfl)) (fun _ _ _ h => h) (Or.inl ⟨by rfl, ?_⟩) ?_ ?_
                  rotate_left
                  ·intro w'
                   go_simp
                   with_reducible rfl
                  rotate_left
                  ·simp only [Act.put, sB, sC, sD, i64_w, i32_w]
                   rfl
                  refine pure_ (i := 1) (N := some 79) (v := ?_) (a' := ?_) #[true, true, false, false, false, false, false, false, false, false, false, false, false, false, false, false] rfl rfl (any_of HT_.out (by kernel_rfl)) (fun _ _ _ h => h) (Or.inl ⟨by rfl, ?_⟩) ?_ ?_
                  rotate_left
                  ·intro w'
                   go_simp
                   with_reducible rfl
                  rotate_left
                  ·simp only [Act.put, sB, sC, sD, i64_w, i32_w]
                   rfl
                  refine pure_ (i := 2) (N := some 80) (v := ?_) (a' := ?_) #[true, true, true, false, false, false, false, false, false, false, false, false, false, false, false, false] rfl rfl (any_of HT_.out (by kernel_rfl)) (fun _ _ _ h => h) (Or.inl ⟨by rfl, ?_⟩) ?_ ?_
                  rotate_left
                  ·intro w'
                   go_simp
                   with_reducible rfl
                  rotate_left
                  ·simp only [Act.put, sB, sC, sD, i64_w, i32_w]
                   rfl
                  refine pure_ (i := 4) (N := some 82) (v := ?_) (a' := ?_) #[true, true, true, false, true, false, false, false, false, false, false, false, false, false, false, false] rfl rfl (any_of HT_.out (by kernel_rfl)) (fun _ _ _ h => h) (Or.inl ⟨by rfl, ?_⟩) ?_ ?_
                  rotate_left
                  ·intro w'
                   go_simp
                   with_reducible rfl
                  rotate_left
                  ·simp only [Act.put, sB, sC, sD, i64_w, i32_w]
                   rfl
                  refine pure_ (i := 7) (N := some 85) (v := ?_) (a' := ?_) #[true, true, true, false, true, false, false, true, false, false, false, false, false, false, false, false] rfl rfl (any_of HT_.out (by kernel_rfl)) (fun _ _ _ h => h) (Or.inl ⟨by rfl, ?_⟩) ?_ ?_
                  rotate_left
                  ·intro w'
                   go_simp
                   with_reducible rfl
                  rotate_left
                  ·simp only [Act.put, sB, sC, sD, i64_w, i32_w]
                   rfl
                  refine pure_ (i := 8) (N := some 86) (v := ?_) (a' := ?_) #[true, true, true, false, true, false, false, true, true, false, false, false, false, false, false, false] rfl rfl (any_of HT_.out (by kernel_rfl)) (fun _ _ _ h => h) (Or.inl ⟨by rfl, ?_⟩) ?_ ?_
                  rotate_left
                  ·intro w'
                   go_simp
                   with_reducible rfl
                  rotate_left
                  ·simp only [Act.put, sB, sC, sD, i64_w, i32_w]
                   rfl
                  refine take_ (i := 3) (N := some 81) (v := ?_) (a' := ?_) #[true, true, true, true, true, false, false, true, true, false, false, false, false, false, false, false] rfl rfl (take_ofW HT_.out HW_.out (by kernel_rfl)) (fun _ _ _ h => h) (Or.inl ⟨by rfl, ?_⟩) hHeld ?_ ?_
                  rotate_left
                  ·rintro w' ⟨s0, s1, s2, s3, s4, s5⟩
                   go_simp
                   with_reducible rfl
                  rotate_left
                  ·simp only [Act.put, sB, sC, sD, i64_w, i32_w]
                   rfl
                  refine take_ (i := 5) (N := some 83) (v := ?_) (a' := ?_) #[true, true, true, true, true, true, false, true, true, false, false, false, false, false, false, false] rfl rfl (take_ofW HT_.out HW_.out (by kernel_rfl)) (fun _ _ _ h => h) (Or.inl ⟨by rfl, ?_⟩) hHeld ?_ ?_
                  rotate_left
                  ·rintro w' ⟨s0, s1, s2, s3, s4, s5⟩
                   go_simp
                   with_reducible rfl
                  rotate_left
                  ·simp only [Act.put, sB, sC, sD, i64_w, i32_w]
                   rfl
                  refine pure_ (i := 6) (N := some 84) (v := ?_) (a' := ?_) #[true, true, true, true, true, true, true, true, true, false, false, false, false, false, false, false] rfl rfl (any_of HT_.out (by kernel_rfl)) (fun _ _ _ h => h) (Or.inl ⟨by rfl, ?_⟩) ?_ ?_
                  rotate_left
                  ·intro w'
                   go_simp
                   with_reducible rfl
                  rotate_left
                  ·simp only [Act.put, sB, sC, sD, i64_w, i32_w]
                   rfl
                  refine take_ (i := 9) (N := some 87) (v := ?_) (a' := ?_) #[true, true, true, true, true, true, true, true, true, true, false, false, false, false, false, false] rfl rfl (take_ofW HT_.out HW_.out (by kernel_rfl)) (fun _ _ _ h => h) (Or.inl ⟨by rfl, ?_⟩) hHeld ?_ ?_
                  rotate_left
                  ·rintro w' ⟨s0, s1, s2, s3, s4, s5⟩
                   go_simp
                   with_reducible rfl
                  rotate_left
                  ·simp only [Act.put, sB, sC, sD, i64_w, i32_w]
                   rfl
                  refine pure_ (i := 10) (N := some 88) (v := ?_) (a' := ?_) #[true, true, true, true, true, true, true, true, true, true, true, false, false, false, false, false] rfl rfl (any_of HT_.out (by kernel_rfl)) (fun _ _ _ h => h) (Or.inl ⟨by rfl, ?_⟩) ?_ ?_
                  rotate_left
                  ·intro w'
                   go_simp
                   with_reducible rfl
                  rotate_left
                  ·simp only [Act.put, sB, sC, sD, i64_w, i32_w]
                   rfl
                  refine pure_ (i := 11) (N := some 89) (v := ?_) (a' := ?_) #[true, true, true, true, true, true, true, true, true, true, true, true, false, false, false, false] rfl rfl (any_of HT_.out (by kernel_rfl)) (fun _ _ _ h => h) (Or.inl ⟨by rfl, ?_⟩) ?_ ?_
                  rotate_left
                  ·intro w'
                   go_simp
                   with_reducible rfl
                  rotate_left
                  ·simp only [Act.put, sB, sC, sD, i64_w, i32_w]
                   rfl
                  refine take_ (i := 12) (N := some 90) (v := ?_) (a' := ?_) #[true, true, true, true, true, true, true, true, true, true, true, true, true, false, false, false] rfl rfl (take_ofW HT_.out HW_.out (by kernel_rfl)) (fun _ _ _ h => h) (Or.inl ⟨by rfl, ?_⟩) hHeld ?_ ?_
                  rotate_left
                  ·rintro w' ⟨s0, s1, s2, s3, s4, s5⟩
                   go_simp
                   with_reducible rfl
                  rotate_left
                  ·simp only [Act.put, sB, sC, sD, i64_w, i32_w]
                   rfl
                  refine pure_ (i := 13) (N := some 91) (v := ?_) (a' := ?_) #[true, true, true, true, true, true, true, true, true, true, true, true, true, true, false, false] rfl rfl (any_of HT_.out (by kernel_rfl)) (fun _ _ _ h => h) (Or.inl ⟨by rfl, ?_⟩) ?_ ?_
                  rotate_left
                  ·intro w'
                   go_simp
                   with_reducible rfl
                  rotate_left
                  ·simp only [Act.put, sB, sC, sD, i64_w, i32_w]
                   rfl
                  refine pure_ (i := 14) (N := some 92) (v := ?_) (a' := ?_) #[true, true, true, true, true, true, true, true, true, true, true, true, true, true, true, false] rfl rfl (any_of HT_.out (by kernel_rfl)) (fun _ _ _ h => h) (Or.inl ⟨by rfl, ?_⟩) ?_ ?_
                  rotate_left
                  ·intro w'
                   go_simp
                   with_reducible rfl
                  rotate_left
                  ·simp only [Act.put, sB, sC, sD, i64_w, i32_w]
                   rfl
                  refine last_ (i := 15) (N := none) #[true, true, true, true, true, true, true, true, true, true, true, true, true, true, true, true] rfl rfl (one_of HT_.out (by kernel_rfl)) (by decide) (fun K hK => ?_)
                  refine skip_ (w1 := ?_) ?_ ?_ ?_ ?_
                  rotate_left
                  ·rfl
                  ·rfl
                  ·go_simp
                   rfl
                  refine hK.out _ _ ?_
                  clear hK K
                  refine done_ (done_of HT_.out (by kernel_rfl)) ?_
                  try go_wp2
                  go_roundg k2
                  case measure => have := HJ9.out; have := HK2.out; omega
                  case rel => exact ⟨(wrap64 (x61_2 + 1)), (x184001_2), (y199), (u184001), (.slice (some ⟨go77, 0, none⟩) x184002_2.length co82), (by first | rfl | (simp; done) | (simp [*]; done)), H', ⟨by have := HJ9.out; have := HK2.out; omega⟩, ⟨by (with_reducible repeat (first | apply Kd.S_alloc | apply Kd.S_drewN | apply Kd.S_drew)); exact Kd.S_mono (Kd.S_far (p := ⟨go77, ((ji74) : Int).toNat, none⟩) (Kd.S_mono HO_17.out (fun k_ hk => (⟨hk, fun e_ => hk.2 (by rw [e_]; rfl)⟩ : _ ∧ k_ ≠ go77))) (fun _ hk => hk.2) (.int .i64 (wrap64 ((rd x184002_2 (ji74)) + 1)))) (fun _ hk => hk.1)⟩, ⟨by (with_reducible repeat (first | apply Kd.S_alloc | apply Kd.S_drewN | apply Kd.S_drew)); exact Kd.S_mono (Kd.S_far (p := ⟨go77, ((ji74) : Int).toNat, none⟩) (Kd.S_mono HO_59.out (fun k_ hk => (⟨hk, fun e_ => hk.2 (by rw [e_]; rfl)⟩ : _ ∧ k_ ≠ go77))) (fun _ hk => hk.2) (.int .i64 (wrap64 ((rd x184002_2 (ji74)) + 1)))) (fun _ hk => hk.1)⟩, ⟨rk (Kd.R_mono (Kd.R_far (p := ⟨go77, ((ji74) : Int).toNat, none⟩) (Kd.R_mono HO_184001.out (fun k_ hk => (⟨hk, fun e_ => hk (by rw [e_]; rfl)⟩ : _ ∧ k_ ≠ go77))) (fun _ hk => hk.2) (.int .i64 (wrap64 ((rd x184002_2 (ji74)) + 1)))) (fun _ hk => hk.1))⟩, ⟨by refine rk ?_; exact HQ83.out⟩, ⟨by refine pk ?_; refine blk_far ?_ (by have h_ := Kd.R_ne HO_184002.out BK172.out (by decide); intro e_; exact h_ (by rw [e_]; rfl)) _; refine pk ?_; exact BK172.out⟩, ⟨by refine pk ?_; refine blk_far ?_ (by have h_ := Kd.R_ne HO_184002.out BK173.out (by decide); intro e_; exact h_ (by rw [e_]; rfl)) _; refine pk ?_; exact BK173.out⟩, ⟨by refine pk ?_; refine blk_far ?_ (by have h_ := Kd.R_ne HO_184002.out BK183.out (by decide); intro e_; exact h_ (by rw [e_]; rfl)) _; refine pk ?_; exact BK183.out⟩, ⟨by repeat (first | (with_reducible first | exact HB.out | apply below_alloc | apply pw_below_drewN | apply below_drew1 | refine below_set ?_ GB77.out | refine below_set ?_ GE172.out | refine below_set ?_ GE173.out | refine below_set ?_ GE183.out) | exact HB.out)⟩⟩
                 ·rw [if_neg c76] at H
                  exact absurd H (by simp)
                ·rw [if_neg c75] at H
                 exact absurd H (by simp)
               ·rw [if_neg c73] at H
                exact absurd H (by simp)
              ·rw [if_neg c72] at H
               exact absurd H (by simp)
            ·rw [if_neg c45] at H
             exact absurd H (by simp)
           ·rw [if_neg c44] at H
            exact absurd H (by simp)
          ·rw [if_neg c43] at H
           have c43b0 : decide (x61_2 < (t184.length : Int)) = false := decide_eq_false c43
           clear c43
           replace H := Option.bind_eq_some_iff.mp H
           obtain ⟨t200, A840, H⟩ := H
           replace H : (if t200 = true then (some (a0_0, x184001_2, x184002_2, true)) else (some (0, ([] : List Int), ([] : List Int), false))) = some (r1, r2, r3, r4) := H
           have A84 := Aside0.mk A840
           clear A840
           by_cases c85 : t200 = true
           ·subst c85
            have H1 : (some (a0_0, x184001_2, x184002_2, true)) = some (r1, r2, r3, r4) := by rw [if_pos rfl] at H; exact H
            clear H
            have H := H1
            clear H1
            simp only [Option.some.injEq, Prod.mk.injEq] at H
            obtain ⟨rfl, rfl, rfl, rfl⟩ := H
            have hnb86 := NB183_172.out
            have hnc86 := NB172_183.out
            have hnb87 := NB183_173.out
            have hnc87 := NB173_183.out
            have hcz88_0 : wr.cell? ⟨gb183, 0, none⟩ = some (.int .i64 a0_0) := (blk_cell BK183.out 0).trans rfl
            have hcz88_1 : wr.cell? ⟨gb183, 1, none⟩ = some (u184001) := (blk_cell BK183.out 1).trans rfl
            have hcz88_2 : wr.cell? ⟨gb183, 2, none⟩ = some (u184002) := (blk_cell BK183.out 2).trans rfl
            have hfz88_0 := blk_frozen BK183.out 0
            have hfz88_1 := blk_frozen BK183.out 1
            have hfz88_2 := blk_frozen BK183.out 2
            obtain ⟨Ao89, co89, eo89⟩ := Kd.R_slice HO_184001.out
            subst eo89
            obtain ⟨Ao90, co90, eo90⟩ := Kd.R_slice HO_184002.out
            subst eo90
            go_wp2_with (first | ((with_reducible refine gate_callee (f := 32) rfl ?_); refine goesL_ (some 95) rfl rfl Try.func32 (by kernel_rfl) rfl #[.agg #[.int .i64 a0_0, .slice Ao89 x184001_2.length co89, .slice Ao90 x184002_2.length co90]] rfl (by (try simp only [lA, lB, lC]); first | done | rfl | (simp only [lD, lE]; rfl)) ?_; (with_reducible refine (impl_GoodCounts.calls k2 a0_0 (fun k_ => some k_ = (.slice Ao89 x184001_2.length co89 : Value).ownBlock) _ _ x184001_2 (fun k_ => some k_ = (.slice Ao90 x184002_2.length co90 : Value).ownBlock) _ _ x184002_2 true _ ?side1 ?side2 A84.out).mono ?_); (case side1 => exact Kd.R_V (Kd.R_tight rfl (Kd.R_types (Kd.R_types (Kd.R_types (Kd.R_apart' (Kd.R_apart' (HO_184001.out) (Kd.S_typed HO_17.out) (by decide)) (Kd.S_typed HO_59.out) (by decide)) BK172.out (by decide)) BK173.out (by decide)) BK183.out (by decide)))); (case side2 => exact Kd.R_V (Kd.R_tight rfl (Kd.R_types (Kd.R_types (Kd.R_types (Kd.R_apart' (Kd.R_apart' (HO_184002.out) (Kd.S_typed HO_17.out) (by decide)) (Kd.S_typed HO_59.out) (by decide)) BK172.out (by decide)) BK173.out (by decide)) BK183.out (by decide)))); rintro e w91 ⟨rfl, hb⟩; refine ⟨_, rfl, ?_⟩; replace HO_17 := a_ (Kd.S_below (by (with_reducible repeat (first | apply Kd.S_alloc | apply Kd.S_drewN | apply Kd.S_drew)); exact HO_17.out) hb); replace HO_59 := a_ (Kd.S_below (by (with_reducible repeat (first | apply Kd.S_alloc | apply Kd.S_drewN | apply Kd.S_drew)); exact HO_59.out) hb); replace HO_184001 := a_ (Kd.R_below (rk HO_184001.out) hb); replace HO_184002 := a_ (Kd.R_below (rk HO_184002.out) hb); replace BK172 := a_ (blk_below (pk BK172.out) hb); replace BK173 := a_ (blk_below (pk BK173.out) hb); replace BK183 := a_ (blk_below (pk BK183.out) hb); replace HB := a_ (below_step (by repeat (with_reducible first | exact HB.out | refine bz ?_ (by assumption) | apply bA | apply bN | apply bD)) hb); clear hb; have hcz92_0 : _ = some (Value.int .i64 a0_0) := (blk_cell BK183.out 0).trans rfl; have hcz92_1 : _ = some (Value.slice Ao89 x184001_2.length co89) := (blk_cell BK183.out 1).trans rfl; have hcz92_2 : _ = some (Value.slice Ao90 x184002_2.length co90) := (blk_cell BK183.out 2).trans rfl; have hfz92_0 := blk_frozen BK183.out 0; have hfz92_1 := blk_frozen BK183.out 1; have hfz92_2 := blk_frozen BK183.out 2; have hnb93 := NB173_172.out; have hnc93 := NB172_173.out; have hcz94_0 : _ = some (Value.int .i64 0) := (blk_cell BK173.out 0).trans rfl; have hcz94_1 : _ = some (Value.slice none 0 0) := (blk_cell BK173.out 1).trans rfl; have hcz94_2 : _ = some (Value.slice none 0 0) := (blk_cell BK173.out 2).trans rfl; have hfz94_0 := blk_frozen BK173.out 0; have hfz94_1 := blk_frozen BK173.out 1; have hfz94_2 := blk_frozen BK173.out 2))
            refine bodyPost_ret (results_ct rfl _ _ gb173 31 #[.int .i64 a0_0, .slice Ao89 x184001_2.length co89, .slice Ao90 x184002_2.length co90] (0, 0) _ rfl (by refine pk ?_; refine blk_put (cs := #[.int .i64 a0_0, .slice Ao89 x184001_2.length co89, .slice none 0 0]) ?_ 2 _ rfl; refine pk ?_; refine blk_put (cs := #[.int .i64 a0_0, .slice none 0 0, .slice none 0 0]) ?_ 1 _ rfl; refine pk ?_; refine blk_put (cs := #[.int .i64 0, .slice none 0 0, .slice none 0 0]) ?_ 0 _ rfl; refine pk ?_; exact BK173.out) Try.underlying31 rfl (by kernel_rfl)) rfl ?_
            exact ⟨_, _, by first | rfl | (simp [errW_none, errW_some] <;> rfl) | (simp [*, errW_none, errW_some] <;> rfl), by refine rk ?_; exact Kd.R_mono (fr3 HO_184001.out BK173.out (by decide) 0 (.int .i64 a0_0) 1 (.slice Ao89 x184001_2.length co89) 2 (.slice Ao90 x184002_2.length co90)) (fun _ hk => hk.1), by refine rk ?_; exact Kd.R_mono (fr3 HO_184002.out BK173.out (by decide) 0 (.int .i64 a0_0) 1 (.slice Ao89 x184001_2.length co89) 2 (.slice Ao90 x184002_2.length co90)) (fun _ hk => hk.1), by repeat (with_reducible first | exact HB.out | refine bz ?_ (by assumption) | apply bA | apply bN | apply bD)⟩
           ·replace c85 := Bool.eq_false_iff.mpr c85
            subst c85
            have H1 : (some (0, ([] : List Int), ([] : List Int), false)) = some (r1, r2, r3, r4) := by rw [if_neg (show ¬ (false = true) by decide)] at H; exact H
            clear H
            have H := H1
            clear H1
            simp only [Option.some.injEq, Prod.mk.injEq] at H
            obtain ⟨rfl, rfl, rfl, rfl⟩ := H
            have hnb95 := NB183_172.out
            have hnc95 := NB172_183.out
            have hnb96 := NB183_173.out
            have hnc96 := NB173_183.out
            have hcz97_0 : wr.cell? ⟨gb183, 0, none⟩ = some (.int .i64 a0_0) := (blk_cell BK183.out 0).trans rfl
            have hcz97_1 : wr.cell? ⟨gb183, 1, none⟩ = some (u184001) := (blk_cell BK183.out 1).trans rfl
            have hcz97_2 : wr.cell? ⟨gb183, 2, none⟩ = some (u184002) := (blk_cell BK183.out 2).trans rfl
            have hfz97_0 := blk_frozen BK183.out 0
            have hfz97_1 := blk_frozen BK183.out 1
            have hfz97_2 := blk_frozen BK183.out 2
            obtain ⟨Ao98, co98, eo98⟩ := Kd.R_slice HO_184001.out
            subst eo98
            obtain ⟨Ao99, co99, eo99⟩ := Kd.R_slice HO_184002.out
            subst eo99
            go_wp2_with (first | ((with_reducible refine gate_callee (f := 32) rfl ?_); refine goesL_ (some 95) rfl rfl Try.func32 (by kernel_rfl) rfl #[.agg #[.int .i64 a0_0, .slice Ao98 x184001_2.length co98, .slice Ao99 x184002_2.length co99]] rfl (by (try simp only [lA, lB, lC]); first | done | rfl | (simp only [lD, lE]; rfl)) ?_; (with_reducible refine (impl_GoodCounts.calls k2 a0_0 (fun k_ => some k_ = (.slice Ao98 x184001_2.length co98 : Value).ownBlock) _ _ x184001_2 (fun k_ => some k_ = (.slice Ao99 x184002_2.length co99 : Value).ownBlock) _ _ x184002_2 false _ ?side1 ?side2 A84.out).mono ?_); (case side1 => exact Kd.R_V (Kd.R_tight rfl (Kd.R_types (Kd.R_types (Kd.R_types (Kd.R_apart' (Kd.R_apart' (HO_184001.out) (Kd.S_typed HO_17.out) (by decide)) (Kd.S_typed HO_59.out) (by decide)) BK172.out (by decide)) BK173.out (by decide)) BK183.out (by decide)))); (case side2 => exact Kd.R_V (Kd.R_tight rfl (Kd.R_types (Kd.R_types (Kd.R_types (Kd.R_apart' (Kd.R_apart' (HO_184002.out) (Kd.S_typed HO_17.out) (by decide)) (Kd.S_typed HO_59.out) (by decide)) BK172.out (by decide)) BK173.out (by decide)) BK183.out (by decide)))); rintro e w100 ⟨rfl, hb⟩; refine ⟨_, rfl, ?_⟩; replace HO_17 := a_ (Kd.S_below (by (with_reducible repeat (first | apply Kd.S_alloc | apply Kd.S_drewN | apply Kd.S_drew)); exact HO_17.out) hb); replace HO_59 := a_ (Kd.S_below (by (with_reducible repeat (first | apply Kd.S_alloc | apply Kd.S_drewN | apply Kd.S_drew)); exact HO_59.out) hb); replace HO_184001 := a_ (Kd.R_below (rk HO_184001.out) hb); replace HO_184002 := a_ (Kd.R_below (rk HO_184002.out) hb); replace BK172 := a_ (blk_below (pk BK172.out) hb); replace BK173 := a_ (blk_below (pk BK173.out) hb); replace BK183 := a_ (blk_below (pk BK183.out) hb); replace HB := a_ (below_step (by repeat (with_reducible first | exact HB.out | refine bz ?_ (by assumption) | apply bA | apply bN | apply bD)) hb); clear hb; have hnb101 := NB173_172.out; have hnc101 := NB172_173.out; have hcz102_0 : _ = some (Value.int .i64 0) := (blk_cell BK173.out 0).trans rfl; have hcz102_1 : _ = some (Value.slice none 0 0) := (blk_cell BK173.out 1).trans rfl; have hcz102_2 : _ = some (Value.slice none 0 0) := (blk_cell BK173.out 2).trans rfl; have hfz102_0 := blk_frozen BK173.out 0; have hfz102_1 := blk_frozen BK173.out 1; have hfz102_2 := blk_frozen BK173.out 2))
            refine bodyPost_ret (results_ct rfl _ _ gb173 31 #[.int .i64 0, .slice none 0 0, .slice none 0 0] (0, 0) _ rfl (by refine pk ?_; refine blk_put (cs := #[.int .i64 0, .slice none 0 0, .slice none 0 0]) ?_ 2 _ rfl; refine pk ?_; refine blk_put (cs := #[.int .i64 0, .slice none 0 0, .slice none 0 0]) ?_ 1 _ rfl; refine pk ?_; refine blk_put (cs := #[.int .i64 0, .slice none 0 0, .slice none 0 0]) ?_ 0 _ rfl; refine pk ?_; exact BK173.out) Try.underlying31 rfl (by kernel_rfl)) rfl ?_
            exact ⟨_, _, by first | rfl | (simp [errW_none, errW_some] <;> rfl) | (simp [*, errW_none, errW_some] <;> rfl), by first | exact Kd.R_nil _ _ _ _ _ | exact Kd.N_nil _ _ _ _ _ | exact Kd.V_nil _ _ _ _ _ | exact Kd.Q_nil _ _ _ _ _ | exact Kd.S_nil _ _ _ _ _, by first | exact Kd.R_nil _ _ _ _ _ | exact Kd.N_nil _ _ _ _ _ | exact Kd.V_nil _ _ _ _ _ | exact Kd.Q_nil _ _ _ _ _ | exact Kd.S_nil _ _ _ _ _, by repeat (with_reducible first | exact HB.out | refine bz ?_ (by assumption) | apply bA | apply bN | apply bD)⟩
       ·rw [if_neg c27] at H
        exact absurd H (by simp)
      ·rw [if_neg c26] at H
       exact absurd H (by simp)
 ·replace c8 := Bool.eq_false_iff.mpr c8
  subst c8
  have H1 : (some (0, ([] : List Int), ([] : List Int), false)) = some (r1, r2, r3, r4) := by rw [if_neg (show ¬ (false = true) by decide)] at H; exact H
  clear H
  have H := H1
  clear H1
  simp only [Option.some.injEq, Prod.mk.injEq] at H
  obtain ⟨rfl, rfl, rfl, rfl⟩ := H
  go_enter Try.func14, Try.ntmps14
  go_wp2_with (first | ((with_reducible refine gate_dst (N := 6) rfl ?_); refine box_event ?hg (N := 6) ?hd (cs := #[.int .i64 a0_0, .slice A0_1 l0_1.length c0_1, .slice A0_2 l0_2.length c0_2]) (t := 31) ?hr ?_; (case hd => rfl); (case hg => rfl); (case hr => first | (go_simp; done) | (go_simp; rfl)); intro gb172 hg w103 hbox hb; have BK172 := a_ (hbox); have GW172 := a_ (bsg hg HB.out); have GE172 := a_ (bsg hg HB.out); replace HB := a_ (below_step (un HB.out) hb); clear hb hbox hg) | ((with_reducible refine gate_dst (N := 12) rfl ?_); refine box_event ?hg (N := 12) ?hd (cs := #[.int .i64 0, .slice none 0 0, .slice none 0 0]) (t := 31) ?hr ?_; (case hd => rfl); (case hg => rfl); (case hr => first | (go_simp; done) | (go_simp; rfl)); intro gb173 hg w104 hbox hb; have BK173 := a_ (hbox); have GW173 := a_ (bsg hg HB.out); have GE173 := a_ (bsg hg HB.out); replace HB := a_ (below_step (by repeat (with_reducible first | exact HB.out | refine bz ?_ (by assumption) | apply bA | apply bN | apply bD)) hb); have NB172_173 := a_ (nel hg BK172.out); have NB173_172 := a_ (nle hg BK172.out); replace BK172 := a_ (blk_below (pk BK172.out) hb); clear hb hbox hg; have hnb105 := NB172_173.out; have hnc105 := NB173_172.out; have hcz106_0 : _ = some (Value.int .i64 a0_0) := (blk_cell BK172.out 0).trans rfl; have hcz106_1 : _ = some (Value.slice A0_1 l0_1.length c0_1) := (blk_cell BK172.out 1).trans rfl; have hcz106_2 : _ = some (Value.slice A0_2 l0_2.length c0_2) := (blk_cell BK172.out 2).trans rfl; have hfz106_0 := blk_frozen BK172.out 0; have hfz106_1 := blk_frozen BK172.out 1; have hfz106_2 := blk_frozen BK172.out 2) | ((with_reducible refine gate_callee (f := 32) rfl ?_); refine goesL_ (some 22) rfl rfl Try.func32 (by kernel_rfl) rfl #[.agg #[.int .i64 a0_0, .slice A0_1 l0_1.length c0_1, .slice A0_2 l0_2.length c0_2]] rfl (by (try simp only [lA, lB, lC]); first | done | rfl | (simp only [lD, lE]; rfl)) ?_; (with_reducible refine (impl_GoodCounts.calls k a0_0 (fun k_ => k_ < w.heap.size) _ _ l0_1 (fun k_ => k_ < w.heap.size) _ _ l0_2 false _ ?side1 ?side2 A7.out).mono ?_); (case side1 => exact Kd.V_mk HC0_1.out (Kd.F_below (Kd.C_F (Kd.heap_int .i64) HR0_1.out) (by repeat (with_reducible first | exact HB.out | refine bz ?_ (by assumption) | apply bA | apply bN | apply bD)))); (case side2 => exact Kd.V_mk HC0_2.out (Kd.F_below (Kd.C_F (Kd.heap_int .i64) HR0_2.out) (by repeat (with_reducible first | exact HB.out | refine bz ?_ (by assumption) | apply bA | apply bN | apply bD)))); rintro e w107 ⟨rfl, hb⟩; refine ⟨_, rfl, ?_⟩; replace BK172 := a_ (blk_below (pk BK172.out) hb); replace BK173 := a_ (blk_below (pk BK173.out) hb); replace HB := a_ (below_step (by repeat (with_reducible first | exact HB.out | refine bz ?_ (by assumption) | apply bA | apply bN | apply bD)) hb); clear hb; have hcz108_0 : _ = some (Value.int .i64 0) := (blk_cell BK173.out 0).trans rfl; have hcz108_1 : _ = some (Value.slice none 0 0) := (blk_cell BK173.out 1).trans rfl; have hcz108_2 : _ = some (Value.slice none 0 0) := (blk_cell BK173.out 2).trans rfl; have hfz108_0 := blk_frozen BK173.out 0; have hfz108_1 := blk_frozen BK173.out 1; have hfz108_2 := blk_frozen BK173.out 2))
  refine bodyPost_ret (results_ct rfl _ _ gb173 31 #[.int .i64 0, .slice none 0 0, .slice none 0 0] (0, 0) _ rfl (by refine pk ?_; refine blk_put (cs := #[.int .i64 0, .slice none 0 0, .slice none 0 0]) ?_ 2 _ rfl; refine pk ?_; refine blk_put (cs := #[.int .i64 0, .slice none 0 0, .slice none 0 0]) ?_ 1 _ rfl; refine pk ?_; refine blk_put (cs := #[.int .i64 0, .slice none 0 0, .slice none 0 0]) ?_ 0 _ rfl; refine pk ?_; exact BK173.out) Try.underlying31 rfl (by kernel_rfl)) rfl ?_
  exact ⟨_, _, by first | rfl | (simp [errW_none, errW_some] <;> rfl) | (simp [*, errW_none, errW_some] <;> rfl), by first | exact Kd.R_nil _ _ _ _ _ | exact Kd.N_nil _ _ _ _ _ | exact Kd.V_nil _ _ _ _ _ | exact Kd.Q_nil _ _ _ _ _ | exact Kd.S_nil _ _ _ _ _, by first | exact Kd.R_nil _ _ _ _ _ | exact Kd.N_nil _ _ _ _ _ | exact Kd.V_nil _ _ _ _ _ | exact Kd.Q_nil _ _ _ _ _ | exact Kd.S_nil _ _ _ _ _, by repeat (with_reducible first | exact HB.out | refine bz ?_ (by assumption) | apply bA | apply bN | apply bD)⟩

end Go.Proofs.Ytgkjnocjdonjdaa.PFnCounts
