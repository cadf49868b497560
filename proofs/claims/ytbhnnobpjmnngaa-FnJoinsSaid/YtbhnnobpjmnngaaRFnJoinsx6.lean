-- Written by a program of this session out of the loaded functions' print; helper lemmas as print.sh lays them.
import Derived.Test.YtbhnnobpjmnngaaUp2
import Derived.Test.YtbhnnobpjmnngaaUp
import Derived.Test.YtbhnnobpjmnngaaRFnJoinsx0
import Derived.Test.YtbhnnobpjmnngaaRFnJoinsx5
namespace Go.Proofs.Ytbhnnobpjmnngaa.PFnJoins
open Go.RowKit Go.Proofs.YtbhnnobpjmnngaaW.PrintWords Go.Proofs.YtbhnnobpjmnngaaW.PrintLast Go.Proofs.YtbhnnobpjmnngaaW.PrintMore
attribute [local go_sem] max2_int min2_int max_two min_two max_three min_three max_four min_four go_fstore go_fneg go_fadd go_fsub go_fmul go_fquo go_fmax go_fmin go_fconv go_bits go_frombits  -- for this text's walks alone
set_option linter.unusedVariables false
set_option linter.unusedSimpArgs false

/-! ### impl_BoxHull: function 5 -/
def impl_BoxHull.l0 : Nat → Int → Int → List Nat → List Nat → List Nat → List Nat → List Nat → List Nat → Option (List Nat × List Nat × Bool)
 | 0, _, _, _, _, _, _, _, _ => none
 | k + 1, x15, x16, x331000, x331001, x332000, x332001, x335000, x335001 => if x16 < x15 then (if 0 ≤ x16 then (if x16 < (x331000.length : Int) then (if x16 < (x332000.length : Int) then (if (FloatKind.f64.format.order (rdOf (0 : Nat) x331000 x16) (rdOf (0 : Nat) x332000 x16)).isSome = true then (if x335000.length < 17592186044416 then (if x16 < (x331001.length : Int) then (if x16 < (x332001.length : Int) then (if (FloatKind.f64.format.order (rdOf (0 : Nat) x331001 x16) (rdOf (0 : Nat) x332001 x16)).isSome = true then (if x335001.length < 17592186044416 then (impl_BoxHull.l0 k x15 (wrap64 (x16 + 1)) x331000 x331001 x332000 x332001 (x335000 ++ [fmin (rdOf (0 : Nat) x331000 x16) (rdOf (0 : Nat) x332000 x16)]) (x335001 ++ [fmax (rdOf (0 : Nat) x331001 x16) (rdOf (0 : Nat) x332001 x16)])) else (none)) else (none)) else (none)) else (none)) else (none)) else (none)) else (none)) else (none)) else (none)) else (some (x335000, x335001, true))
def impl_BoxHull.f (k : Nat) (l0_0 : List Nat) (l0_1 : List Nat) (l1_0 : List Nat) (l1_1 : List Nat) : Option (List Nat × List Nat × Bool) := (impl_alike.f k l0_0 l0_1 l1_0 l1_1).bind fun t333 => (if t333 = true then (impl_BoxHull.l0 k (l0_0.length : Int) 0 l0_0 l0_1 l1_0 l1_1 ([] : List Nat) ([] : List Nat)) else (some (([] : List Nat), ([] : List Nat), false)))
theorem impl_BoxHull.mono_l : ∀ k, (∀ y0 y1 y2 y3 y4 y5 y6 y7, LeO (impl_BoxHull.l0 k y0 y1 y2 y3 y4 y5 y6 y7) (impl_BoxHull.l0 (k + 1) y0 y1 y2 y3 y4 y5 y6 y7))
 | 0 => fun _ _ _ _ _ _ _ _ r h => by simp [impl_BoxHull.l0] at h
 | k + 1 => by
  have ih0 := impl_BoxHull.mono_l k
  ·intro y0 y1 y2 y3 y4 y5 y6 y7
   unfold impl_BoxHull.l0
   repeat' first
   | (with_reducible exact ih0 _ _ _ _ _ _ _ _)
   | (with_reducible exact impl_alike.mono _ _ _ _ _)
   | (with_reducible exact LeO.refl _)
   | (with_reducible exact LeO.none _)
   | (with_reducible refine LeO.ite ?_ ?_)
   | (with_reducible refine LeO.bind ?_ (fun _ => ?_))
   | exact ih0 _ _ _ _ _ _ _ _
   | exact impl_alike.mono _ _ _ _ _
   | exact LeO.none _
   | refine LeO.ite ?_ ?_
   | refine LeO.bind ?_ (fun _ => ?_)
theorem impl_BoxHull.mono : ∀ a0 a1 a2 a3 k, LeO (impl_BoxHull.f k a0 a1 a2 a3) (impl_BoxHull.f (k + 1) a0 a1 a2 a3) := by
 intro a0 a1 a2 a3 k
 have ih0 := impl_BoxHull.mono_l k
 unfold impl_BoxHull.f
 repeat' first
   | (with_reducible exact ih0 _ _ _ _ _ _ _ _)
   | (with_reducible exact impl_alike.mono _ _ _ _ _)
   | (with_reducible exact LeO.refl _)
   | (with_reducible exact LeO.none _)
   | (with_reducible refine LeO.ite ?_ ?_)
   | (with_reducible refine LeO.bind ?_ (fun _ => ?_))
   | exact ih0 _ _ _ _ _ _ _ _
   | exact impl_alike.mono _ _ _ _ _
   | exact LeO.none _
   | refine LeO.ite ?_ ?_
   | refine LeO.bind ?_ (fun _ => ?_)
def impl_BoxHull.T7 : Bool × List (List Nat × List Nat) := (true, [([], []), ([0], [0]), ([], []), ([2], [2]), ([], []), ([3, 4], [3, 4]), ([5], [5]), ([], []), ([7], [7]), ([], []), ([8, 9], [8, 9]), ([10], [10]), ([6, 11], [6, 11]), ([12], [12]), ([1, 13], [1, 13]), ([0, 1, 2, 3, 4, 5, 6, 7, 8, 9, 10, 11, 12, 13, 14], []), ([15, 14, 14, 0, 1, 2, 3, 4, 5, 6, 7, 8, 9, 10, 11, 12, 13, 14], [14, 15])])
def impl_BoxHull.B7 : List Nat := [0, 1, 0, 4, 0, 28, 60, 0, 128, 0, 896, 1920, 4092, 8188, 16383, 32767, 65535]
theorem impl_BoxHull.tab7 : rtab .any (opsOf Try.f5 7) = impl_BoxHull.T7 := by kernel_rfl
theorem impl_BoxHull.bits7 : waitsOk impl_BoxHull.T7.2 impl_BoxHull.B7 = true := by kernel_rfl
def impl_BoxHull.T8 : Bool × List (List Nat × List Nat) := (true, [([], []), ([0], [0]), ([], []), ([2], [2]), ([], []), ([3, 4], [3, 4]), ([5], [5]), ([], []), ([7], [7]), ([], []), ([8, 9], [8, 9]), ([10], [10]), ([6, 11], [6, 11]), ([12], [12]), ([1, 13], [1, 13]), ([0, 1, 2, 3, 4, 5, 6, 7, 8, 9, 10, 11, 12, 13, 14], []), ([15, 14, 14, 0, 1, 2, 3, 4, 5, 6, 7, 8, 9, 10, 11, 12, 13, 14], [14, 15])])
def impl_BoxHull.B8 : List Nat := [0, 1, 0, 4, 0, 28, 60, 0, 128, 0, 896, 1920, 4092, 8188, 16383, 32767, 65535]
theorem impl_BoxHull.tab8 : rtab .any (opsOf Try.f5 8) = impl_BoxHull.T8 := by kernel_rfl
theorem impl_BoxHull.bits8 : waitsOk impl_BoxHull.T8.2 impl_BoxHull.B8 = true := by kernel_rfl
set_option maxHeartbeats 8000000 in
set_option maxRecDepth 100000 in
theorem impl_BoxHull.calls (k : Nat) (A0_0 : Option Addr) (c0_0 : Nat) (l0_0 : List Nat) (A0_1 : Option Addr) (c0_1 : Nat) (l0_1 : List Nat) (A1_0 : Option Addr) (c1_0 : Nat) (l1_0 : List Nat) (A1_1 : Option Addr) (c1_1 : Nat) (l1_1 : List Nat) (r1 : List Nat) (r2 : List Nat) (r3 : Bool) (w : World) (hr0_0 : Kd.C Kd.flt w A0_0 l0_0.length l0_0) (hc0_0 : l0_0.length ≤ c0_0) (hr0_1 : Kd.C Kd.flt w A0_1 l0_1.length l0_1) (hc0_1 : l0_1.length ≤ c0_1) (hr1_0 : Kd.C Kd.flt w A1_0 l1_0.length l1_0) (hc1_0 : l1_0.length ≤ c1_0) (hr1_1 : Kd.C Kd.flt w A1_1 l1_1.length l1_1) (hc1_1 : l1_1.length ≤ c1_1) (h : impl_BoxHull.f k l0_0 l0_1 l1_0 l1_1 = some (r1, r2, r3)) :
  Calls Try.prog 5 #[.agg #[.slice A0_0 l0_0.length c0_0, .slice A0_1 l0_1.length c0_1], .agg #[.slice A1_0 l1_0.length c1_0, .slice A1_1 l1_1.length c1_1]] w fun e w' => ∃ v0_ v1_ : Value, e = .returned (.tuple #[.agg #[v0_, v1_], .bool r3]) ∧ Kd.R Kd.flt 33 w' w.heap.size (fun k_ => N_ v1_ k_) v0_ r1 ∧ Kd.R Kd.flt 33 w' w.heap.size (fun k_ => N_ v0_ k_) v1_ r2 ∧ Below w.heap.size w w' := by
 have hu25 := Try.underlying25
 have HR0_0 := Aside0.mk hr0_0
 have HC0_0 := Aside0.mk hc0_0
 clear hr0_0 hc0_0
 have HR0_1 := Aside0.mk hr0_1
 have HC0_1 := Aside0.mk hc0_1
 clear hr0_1 hc0_1
 have HR1_0 := Aside0.mk hr1_0
 have HC1_0 := Aside0.mk hc1_0
 clear hr1_0 hc1_0
 have HR1_1 := Aside0.mk hr1_1
 have HC1_1 := Aside0.mk hc1_1
 clear hr1_1 hc1_1
 have HB := a_ (Below.refl w.heap.size w)
 have H : ((impl_alike.f k l0_0 l0_1 l1_0 l1_1).bind fun t333 => (if t333 = true then (impl_BoxHull.l0 k (l0_0.length : Int) 0 l0_0 l0_1 l1_0 l1_1 ([] : List Nat) ([] : List Nat)) else (some (([] : List Nat), ([] : List Nat), false)))) = some (r1, r2, r3) := h
 clear h
 replace H := Option.bind_eq_some_iff.mp H
 obtain ⟨t333, A30, H⟩ := H
 replace H : (if t333 = true then (impl_BoxHull.l0 k (l0_0.length : Int) 0 l0_0 l0_1 l1_0 l1_1 ([] : List Nat) ([] : List Nat)) else (some (([] : List Nat), ([] : List Nat), false))) = some (r1, r2, r3) := H
 have A3 := Aside0.mk A30
 clear A30
 by_cases c4 : t333 = true
 ·subst c4
  have H1 : (impl_BoxHull.l0 k (l0_0.length : Int) 0 l0_0 l0_1 l1_0 l1_1 ([] : List Nat) ([] : List Nat)) = some (r1, r2, r3) := by rw [if_pos rfl] at H; exact H
  clear H
  have H := H1
  clear H1
  have H' := Aside0.mk H
  clear H
  go_enter Try.func5, Try.ntmps5
  go_wp2_with (first | ((with_reducible refine gate_dst (N := 2) rfl ?_); refine box_event ?hg (N := 2) ?hd (cs := #[.slice A0_0 l0_0.length c0_0, .slice A0_1 l0_1.length c0_1]) (t := 25) ?hr ?_; (case hd => rfl); (case hg => rfl); (case hr => first | (go_simp; done) | (go_simp; rfl)); intro gb330 hg w5 hbox hb; have BK330 := a_ (hbox); have GW330 := a_ (bsg hg HB.out); have GE330 := a_ (bsg hg HB.out); replace HB := a_ (below_step (un HB.out) hb); clear hb hbox hg) | ((with_reducible refine gate_dst (N := 3) rfl ?_); refine box_event ?hg (N := 3) ?hd (cs := #[.slice A1_0 l1_0.length c1_0, .slice A1_1 l1_1.length c1_1]) (t := 25) ?hr ?_; (case hd => rfl); (case hg => rfl); (case hr => first | (go_simp; done) | (go_simp; rfl)); intro gb331 hg w6 hbox hb; have BK331 := a_ (hbox); have GW331 := a_ (bsg hg HB.out); have GE331 := a_ (bsg hg HB.out); replace HB := a_ (below_step (by repeat (with_reducible first | exact HB.out | refine bz ?_ (by assumption) | apply bA | apply bN | apply bD)) hb); have NB330_331 := a_ (nel hg BK330.out); have NB331_330 := a_ (nle hg BK330.out); replace BK330 := a_ (blk_below (pk BK330.out) hb); clear hb hbox hg) | ((with_reducible refine gate_dst (N := 4) rfl ?_); refine box_event ?hg (N := 4) ?hd (cs := #[.slice none 0 0, .slice none 0 0]) (t := 25) ?hr ?_; (case hd => rfl); (case hg => rfl); (case hr => first | (go_simp; done) | (go_simp; rfl)); intro gb332 hg w7 hbox hb; have BK332 := a_ (hbox); have GW332 := a_ (bsg hg HB.out); have GE332 := a_ (bsg hg HB.out); replace HB := a_ (below_step (by repeat (with_reducible first | exact HB.out | refine bz ?_ (by assumption) | apply bA | apply bN | apply bD)) hb); have NB330_332 := a_ (nel hg BK330.out); have NB332_330 := a_ (nle hg BK330.out); replace BK330 := a_ (blk_below (pk BK330.out) hb); have NB331_332 := a_ (nel hg BK331.out); have NB332_331 := a_ (nle hg BK331.out); replace BK331 := a_ (blk_below (pk BK331.out) hb); clear hb hbox hg; have hnb8 := NB330_331.out; have hnc8 := NB331_330.out; have hnb9 := NB330_332.out; have hnc9 := NB332_330.out; have hcz10_0 : _ = some (Value.slice A0_0 l0_0.length c0_0) := (blk_cell BK330.out 0).trans rfl; have hcz10_1 : _ = some (Value.slice A0_1 l0_1.length c0_1) := (blk_cell BK330.out 1).trans rfl; have hfz10_0 := blk_frozen BK330.out 0; have hfz10_1 := blk_frozen BK330.out 1; have hnb11 := NB331_332.out; have hnc11 := NB332_331.out; have hcz12_0 : _ = some (Value.slice A1_0 l1_0.length c1_0) := (blk_cell BK331.out 0).trans rfl; have hcz12_1 : _ = some (Value.slice A1_1 l1_1.length c1_1) := (blk_cell BK331.out 1).trans rfl; have hfz12_0 := blk_frozen BK331.out 0; have hfz12_1 := blk_frozen BK331.out 1) | ((with_reducible refine gate_callee (f := 12) rfl ?_); refine goesL_ (some 10) rfl rfl Try.func12 (by kernel_rfl) rfl #[.agg #[.slice A0_0 l0_0.length c0_0, .slice A0_1 l0_1.length c0_1], .agg #[.slice A1_0 l1_0.length c1_0, .slice A1_1 l1_1.length c1_1]] rfl (by (try simp only [lA, lB, lC]); first | done | rfl | (simp only [lD, lE]; rfl)) ?_; (with_reducible refine (impl_alike.calls k _ _ l0_0 _ _ l0_1 _ _ l1_0 _ _ l1_1 true _ ?side1 ?side2 ?side3 ?side4 ?side5 ?side6 ?side7 ?side8 A3.out).mono ?_); (case side1 => exact Kd.C_below HR0_0.out (un HB.out)); (case side2 => exact HC0_0.out); (case side3 => exact Kd.C_below HR0_1.out (un HB.out)); (case side4 => exact HC0_1.out); (case side5 => exact Kd.C_below HR1_0.out (un HB.out)); (case side6 => exact HC1_0.out); (case side7 => exact Kd.C_below HR1_1.out (un HB.out)); (case side8 => exact HC1_1.out); rintro e w13 ⟨rfl, hb⟩; refine ⟨_, rfl, ?_⟩; replace BK330 := a_ (blk_below (pk BK330.out) hb); replace BK331 := a_ (blk_below (pk BK331.out) hb); replace BK332 := a_ (blk_below (pk BK332.out) hb); replace HB := a_ (below_step (by repeat (with_reducible first | exact HB.out | refine bz ?_ (by assumption) | apply bA | apply bN | apply bD)) hb); clear hb) | ((with_reducible refine gate_dst (N := 6) rfl ?_); refine box_event ?hg (N := 6) ?hd (cs := #[.slice none 0 0, .slice none 0 0]) (t := 25) ?hr ?_; (case hd => rfl); (case hg => rfl); (case hr => first | (go_simp; done) | (go_simp; rfl)); intro gb334 hg w14 hbox hb; have BK334 := a_ (hbox); have GW334 := a_ (bsg hg HB.out); have GE334 := a_ (bsg hg HB.out); replace HB := a_ (below_step (by repeat (with_reducible first | exact HB.out | refine bz ?_ (by assumption) | apply bA | apply bN | apply bD)) hb); have NB330_334 := a_ (nel hg BK330.out); have NB334_330 := a_ (nle hg BK330.out); replace BK330 := a_ (blk_below (pk BK330.out) hb); have NB331_334 := a_ (nel hg BK331.out); have NB334_331 := a_ (nle hg BK331.out); replace BK331 := a_ (blk_below (pk BK331.out) hb); have NB332_334 := a_ (nel hg BK332.out); have NB334_332 := a_ (nle hg BK332.out); replace BK332 := a_ (blk_below (pk BK332.out) hb); clear hb hbox hg; have hnb15 := NB330_334.out; have hnc15 := NB334_330.out; have hcz16_0 : _ = some (Value.slice A0_0 l0_0.length c0_0) := (blk_cell BK330.out 0).trans rfl; have hcz16_1 : _ = some (Value.slice A0_1 l0_1.length c0_1) := (blk_cell BK330.out 1).trans rfl; have hfz16_0 := blk_frozen BK330.out 0; have hfz16_1 := blk_frozen BK330.out 1))
  go_loopg [16] k (fun kq v16 w' => ∃ (x16_1 : Int) (x335000_1 : List Nat) (x335001_1 : List Nat) (u335000 : Value) (u335001 : Value), v16 = .int .i64 x16_1 ∧ Aside0 (impl_BoxHull.l0 kq (l0_0.length : Int) x16_1 l0_0 l0_1 l1_0 l1_1 x335000_1 x335001_1 = some (r1, r2, r3)) ∧ Aside0 (kq ≤ k) ∧ Aside0 (Kd.R Kd.flt 33 w' w.heap.size (fun k_ => some k_ ≠ (u335001 : Value).ownBlock) u335000 x335000_1) ∧ Aside0 (Kd.R Kd.flt 33 w' w.heap.size (fun k_ => some k_ ≠ (u335000 : Value).ownBlock) u335001 x335001_1) ∧ Aside0 (w'.heap[gb330]? = some (.cells #[(.slice A0_0 l0_0.length c0_0), (.slice A0_1 l0_1.length c0_1)] 25 (0, 0))) ∧ Aside0 (w'.heap[gb331]? = some (.cells #[(.slice A1_0 l1_0.length c1_0), (.slice A1_1 l1_1.length c1_1)] 25 (0, 0))) ∧ Aside0 (w'.heap[gb332]? = some (.cells #[(.slice none 0 0), (.slice none 0 0)] 25 (0, 0))) ∧ Aside0 (w'.heap[gb334]? = some (.cells #[u335000, u335001] 25 (0, 0))) ∧ Aside0 (Below w.heap.size w w'))
  case atStart => exact ⟨(0), (([] : List Nat)), (([] : List Nat)), (.slice none 0 0), (.slice none 0 0), (by first | rfl | (simp; done) | (simp [*]; done)), H', ⟨Nat.le_refl _⟩, ⟨by first | exact Kd.R_nil _ _ _ _ _ | exact Kd.N_nil _ _ _ _ _ | exact Kd.V_nil _ _ _ _ _ | exact Kd.Q_nil _ _ _ _ _ | exact Kd.S_nil _ _ _ _ _⟩, ⟨by first | exact Kd.R_nil _ _ _ _ _ | exact Kd.N_nil _ _ _ _ _ | exact Kd.V_nil _ _ _ _ _ | exact Kd.Q_nil _ _ _ _ _ | exact Kd.S_nil _ _ _ _ _⟩, ⟨pk BK330.out⟩, ⟨pk BK331.out⟩, ⟨pk BK332.out⟩, ⟨pk BK334.out⟩, ⟨by repeat (with_reducible first | exact HB.out | refine bz ?_ (by assumption) | apply bA | apply bN | apply bD)⟩⟩
  case round =>
   clear H'
   try clear c1; try clear p2; try clear c4; try clear c5; try clear c8; try clear c9; try clear c11; try clear c12; try clear c15; try clear hcz10_0; try clear hcz10_1; try clear hcz12_0; try clear hcz12_1; try clear hcz16_0; try clear hcz16_1; try clear hfz10_0; try clear hfz10_1; try clear hfz12_0; try clear hfz12_1; try clear hfz16_0; try clear hfz16_1
   obtain ⟨x16_1, x335000_1, x335001_1, u335000, u335001, rfl, HA, HK1, HO_335000, HO_335001, BK330, BK331, BK332, BK334, HB⟩ := hrel
   cases gk with
   | zero => exact absurd HA.out (by simp [impl_BoxHull.l0])
   | succ k1 =>
    have H := HA.out
    clear HA
    simp only [impl_BoxHull.l0] at H
    by_cases c17 : x16_1 < (l0_0.length : Int)
    ·rw [if_pos c17] at H
     have c17b0 : decide (x16_1 < (l0_0.length : Int)) = true := decide_eq_true c17
     clear c17
     by_cases c18 : 0 ≤ x16_1
     ·rw [if_pos c18] at H
      have c18b0 : decide (0 ≤ x16_1) = true := decide_eq_true c18
      clear c18
      by_cases c19 : x16_1 < (l0_0.length : Int)
      ·rw [if_pos c19] at H
       have c19b0 : decide (x16_1 < (l0_0.length : Int)) = true := decide_eq_true c19
       clear c19
       by_cases c20 : x16_1 < (l1_0.length : Int)
       ·rw [if_pos c20] at H
        have c20b0 : decide (x16_1 < (l1_0.length : Int)) = true := decide_eq_true c20
        clear c20
        by_cases c21 : (FloatKind.f64.format.order (rdOf (0 : Nat) l0_0 x16_1) (rdOf (0 : Nat) l1_0 x16_1)).isSome = true
        ·rw [if_pos c21] at H
         have c21b0 : (FloatKind.f64.format.order (rdOf (0 : Nat) l0_0 x16_1) (rdOf (0 : Nat) l1_0 x16_1)).isSome = true := c21
         clear c21
         by_cases c22 : x335000_1.length < 17592186044416
         ·rw [if_pos c22] at H
          have LMc22 := Aside0.mk c22
          clear c22
          obtain ⟨y337, hy337⟩ : ∃ y_ : List Nat, y_ = (x335000_1 ++ [fmin (rdOf (0 : Nat) l0_0 x16_1) (rdOf (0 : Nat) l1_0 x16_1)]) := ⟨_, rfl⟩
          replace H : (if x16_1 < (l0_1.length : Int) then (if x16_1 < (l1_1.length : Int) then (if (FloatKind.f64.format.order (rdOf (0 : Nat) l0_1 x16_1) (rdOf (0 : Nat) l1_1 x16_1)).isSome = true then (if x335001_1.length < 17592186044416 then (impl_BoxHull.l0 k1 (l0_0.length : Int) (wrap64 (x16_1 + 1)) l0_0 l0_1 l1_0 l1_1 y337 (x335001_1 ++ [fmax (rdOf (0 : Nat) l0_1 x16_1) (rdOf (0 : Nat) l1_1 x16_1)])) else (none)) else (none)) else (none)) else (none)) = some (r1, r2, r3) := by first | (rw [hy337]; with_reducible exact H) | (have H2_ := (Option.bind_some _ _).symm.trans H; rw [hy337]; with_reducible exact H2_) | (have H2_ := (Option.bind_some _ _).symm.trans H; with_reducible exact H2_) | with_reducible exact H | (rw [hy337]; exact H) | exact H
          have Ny337 := Aside0.mk hy337
          clear hy337
          by_cases c23 : x16_1 < (l0_1.length : Int)
          ·rw [if_pos c23] at H
           have c23b0 : decide (x16_1 < (l0_1.length : Int)) = true := decide_eq_true c23
           clear c23
           by_cases c24 : x16_1 < (l1_1.length : Int)
           ·rw [if_pos c24] at H
            have c24b0 : decide (x16_1 < (l1_1.length : Int)) = true := decide_eq_true c24
            clear c24
            by_cases c25 : (FloatKind.f64.format.order (rdOf (0 : Nat) l0_1 x16_1) (rdOf (0 : Nat) l1_1 x16_1)).isSome = true
            ·rw [if_pos c25] at H
             have c25b0 : (FloatKind.f64.format.order (rdOf (0 : Nat) l0_1 x16_1) (rdOf (0 : Nat) l1_1 x16_1)).isSome = true := c25
             clear c25
             by_cases c26 : x335001_1.length < 17592186044416
             ·rw [if_pos c26] at H
              have LMc26 := Aside0.mk c26
              clear c26
              obtain ⟨y342, hy342⟩ : ∃ y_ : List Nat, y_ = (x335001_1 ++ [fmax (rdOf (0 : Nat) l0_1 x16_1) (rdOf (0 : Nat) l1_1 x16_1)]) := ⟨_, rfl⟩
              replace H : (impl_BoxHull.l0 k1 (l0_0.length : Int) (wrap64 (x16_1 + 1)) l0_0 l0_1 l1_0 l1_1 y337 y342) = some (r1, r2, r3) := by first | (rw [hy342]; with_reducible exact H) | (have H2_ := (Option.bind_some _ _).symm.trans H; rw [hy342]; with_reducible exact H2_) | (have H2_ := (Option.bind_some _ _).symm.trans H; with_reducible exact H2_) | with_reducible exact H | (rw [hy342]; exact H) | exact H
              have Ny342 := Aside0.mk hy342
              clear hy342
              have H' := Aside0.mk H
              clear H
              try go_wp2
              replace HO_335000 := a_ (Kd.R_drew HO_335000.out)
              replace HO_335001 := a_ (Kd.R_drew HO_335001.out)
              replace BK330 := a_ (blk_drew BK330.out)
              replace BK331 := a_ (blk_drew BK331.out)
              replace BK332 := a_ (blk_drew BK332.out)
              replace BK334 := a_ (blk_drew BK334.out)
              replace HB := a_ (below_drew1 HB.out)
              have p335 : 0 ≤ (x16_1 : Int) := of_decide_eq_true (by first | (with_reducible assumption) | assumption)
              have q335 : x16_1 < (l0_0.length : Int) := of_decide_eq_true (by first | (with_reducible assumption) | assumption)
              obtain ⟨ad335, e335, hx335_0⟩ := Kd.at_flt HR0_0.out x16_1 p335 q335
              have hw335_0 := hx335_0
              cases e335
              replace hx335_0 := (HB.out.cell (World.block_lt_of_cell? w _ hx335_0)).trans hx335_0
              replace p335 := eq_true p335
              replace q335 := eq_true q335
              have p336 : 0 ≤ (x16_1 : Int) := of_decide_eq_true (by first | (with_reducible assumption) | assumption)
              have q336 : x16_1 < (l1_0.length : Int) := of_decide_eq_true (by first | (with_reducible assumption) | assumption)
              obtain ⟨ad336, e336, hx336_0⟩ := Kd.at_flt HR1_0.out x16_1 p336 q336
              have hw336_0 := hx336_0
              cases e336
              replace hx336_0 := (HB.out.cell (World.block_lt_of_cell? w _ hx336_0)).trans hx336_0
              replace p336 := eq_true p336
              replace q336 := eq_true q336
              refine start_ (n := 17) (S := fun w' => w'.cell? ⟨gb334, 0, none⟩ = some (u335000) ∧ w'.cell? ⟨gb334, 1, none⟩ = some (u335001) ∧ w'.cell? ⟨gb330, 0, none⟩ = some (.slice (some ad335) l0_0.length c0_0) ∧ w'.cell? ⟨gb330, 1, none⟩ = some (.slice A0_1 l0_1.length c0_1) ∧ w'.cell? ⟨gb331, 0, none⟩ = some (.slice (some ad336) l1_0.length c1_0) ∧ w'.cell? ⟨gb331, 1, none⟩ = some (.slice A1_1 l1_1.length c1_1) ∧ w'.cell? (ad335.add (x16_1).toNat) = some (.float .f64 (rdOf (0 : Nat) l0_0 x16_1)) ∧ w'.cell? (ad336.add (x16_1).toNat) = some (.float .f64 (rdOf (0 : Nat) l1_0 x16_1))) (ds := [16]) #[false, false, false, false, false, false, false, false, false, false, false, false, false, false, false, false, false] (by kernel_rfl) rfl rfl ⟨(blk_cell BK334.out 0).trans rfl, (blk_cell BK334.out 1).trans rfl, (blk_cell BK330.out 0).trans rfl, (blk_cell BK330.out 1).trans rfl, (blk_cell BK331.out 0).trans rfl, (blk_cell BK331.out 1).trans rfl, ((HB.out.cell (World.block_lt_of_cell? w _ hw335_0)).trans hw335_0), ((HB.out.cell (World.block_lt_of_cell? w _ hw336_0)).trans hw336_0)⟩ (fun hHeld => ?_); refine with_tabW impl_BoxHull.tab7 impl_BoxHull.bits7 (fun HT_ HW_ => ?_)
              generalize wr.drew = w27 at HO_335000 HO_335001 BK330 BK331 BK332 BK334 HB hx335_0 hx336_0 hHeld ⊢
              refine pure_ (i := 0) (N := some 19) (v := ?_) (a' := ?_) #[true, false, false, false, false, false, false, false, false, false, false, false, false, false, false, false, false] rfl rfl (any_of HT_.out (by kernel_rfl)) (fun _ _ _ h => h) (Or.inl ⟨by rfl, ?_⟩) ?_ ?_
              rotate_left
              ·intro w'
               go_simp
               with_reducible rfl
              rotate_left
              ·simp only [Act.put, sB, sC, sD, i64_w, i32_w]
               rfl
              refine pure_ (i := 2) (N := some 21) (v := ?_) (a' := ?_) #[true, false, true, false, false, false, false, false, false, false, false, false, false, false, false, false, false] rfl rfl (any_of HT_.out (by kernel_rfl)) (fun _ _ _ h => h) (Or.inl ⟨by rfl, ?_⟩) ?_ ?_
              rotate_left
              ·intro w'
               go_simp
               with_reducible rfl
              rotate_left
              ·simp only [Act.put, sB, sC, sD, i64_w, i32_w]
               rfl
              refine pure_ (i := 4) (N := some 23) (v := ?_) (a' := ?_) #[true, false, true, false, true, false, false, false, false, false, false, false, false, false, false, false, false] rfl rfl (any_of HT_.out (by kernel_rfl)) (fun _ _ _ h => h) (Or.inl ⟨by rfl, ?_⟩) ?_ ?_
              rotate_left
              ·intro w'
               go_simp
               with_reducible rfl
              rotate_left
              ·simp only [Act.put, sB, sC, sD, i64_w, i32_w]
               rfl
              refine pure_ (i := 7) (N := some 26) (v := ?_) (a' := ?_) #[true, false, true, false, true, false, false, true, false, false, false, false, false, false, false, false, false] rfl rfl (any_of HT_.out (by kernel_rfl)) (fun _ _ _ h => h) (Or.inl ⟨by rfl, ?_⟩) ?_ ?_
              rotate_left
              ·intro w'
               go_simp
               with_reducible rfl
              rotate_left
              ·simp only [Act.put, sB, sC, sD, i64_w, i32_w]
               rfl
              refine pure_ (i := 9) (N := some 28) (v := ?_) (a' := ?_) #[true, false, true, false, true, false, false, true, false, true, false, false, false, false, false, false, false] rfl rfl (any_of HT_.out (by kernel_rfl)) (fun _ _ _ h => h) (Or.inl ⟨by rfl, ?_⟩) ?_ ?_
              rotate_left
              ·intro w'
               go_simp
               with_reducible rfl
              rotate_left
              ·simp only [Act.put, sB, sC, sD, i64_w, i32_w]
               rfl
              refine take_ (i := 1) (N := some 20) (v := ?_) (a' := ?_) #[true, true, true, false, true, false, false, true, false, true, false, false, false, false, false, false, false] rfl rfl (take_ofW HT_.out HW_.out (by kernel_rfl)) (fun _ _ _ h => h) (Or.inl ⟨by rfl, ?_⟩) hHeld ?_ ?_
              rotate_left
              ·rintro w' ⟨s0, s1, s2, s3, s4, s5, s6, s7⟩
               go_simp
               with_reducible rfl
              rotate_left
              ·simp only [Act.put, sB, sC, sD, i64_w, i32_w]
               rfl
              refine take_ (i := 3) (N := some 22) (v := ?_) (a' := ?_) #[true, true, true, true, true, false, false, true, false, true, false, false, false, false, false, false, false] rfl rfl (take_ofW HT_.out HW_.out (by kernel_rfl)) (fun _ _ _ h => h) (Or.inl ⟨by rfl, ?_⟩) hHeld ?_ ?_
              rotate_left
              ·rintro w' ⟨s0, s1, s2, s3, s4, s5, s6, s7⟩
               go_simp
               with_reducible rfl
              rotate_left
              ·simp only [Act.put, sB, sC, sD, i64_w, i32_w]
               rfl
              refine pure_ (i := 5) (N := some 24) (v := ?_) (a' := ?_) #[true, true, true, true, true, true, false, true, false, true, false, false, false, false, false, false, false] rfl rfl (any_of HT_.out (by kernel_rfl)) (fun _ _ _ h => h) (Or.inl ⟨by rfl, ?_⟩) ?_ ?_
              rotate_left
              ·intro w'
               go_simp
               with_reducible rfl
              rotate_left
              ·simp only [Act.put, sB, sC, sD, i64_w, i32_w]
               rfl
              refine take_ (i := 6) (N := some 25) (v := ?_) (a' := ?_) #[true, true, true, true, true, true, true, true, false, true, false, false, false, false, false, false, false] rfl rfl (take_ofW HT_.out HW_.out (by kernel_rfl)) (fun _ _ _ h => h) (Or.inl ⟨by rfl, ?_⟩) hHeld ?_ ?_
              rotate_left
              ·rintro w' ⟨s0, s1, s2, s3, s4, s5, s6, s7⟩
               go_simp
               with_reducible rfl
              rotate_left
              ·simp only [Act.put, sB, sC, sD, i64_w, i32_w]
               rfl
              refine take_ (i := 8) (N := some 27) (v := ?_) (a' := ?_) #[true, true, true, true, true, true, true, true, true, true, false, false, false, false, false, false, false] rfl rfl (take_ofW HT_.out HW_.out (by kernel_rfl)) (fun _ _ _ h => h) (Or.inl ⟨by rfl, ?_⟩) hHeld ?_ ?_
              rotate_left
              ·rintro w' ⟨s0, s1, s2, s3, s4, s5, s6, s7⟩
               go_simp
               with_reducible rfl
              rotate_left
              ·simp only [Act.put, sB, sC, sD, i64_w, i32_w]
               rfl
              refine pure_ (i := 10) (N := some 29) (v := ?_) (a' := ?_) #[true, true, true, true, true, true, true, true, true, true, true, false, false, false, false, false, false] rfl rfl (any_of HT_.out (by kernel_rfl)) (fun _ _ _ h => h) (Or.inl ⟨by rfl, ?_⟩) ?_ ?_
              rotate_left
              ·intro w'
               go_simp
               with_reducible rfl
              rotate_left
              ·simp only [Act.put, sB, sC, sD, i64_w, i32_w]
               rfl
              refine take_ (i := 11) (N := some 30) (v := ?_) (a' := ?_) #[true, true, true, true, true, true, true, true, true, true, true, true, false, false, false, false, false] rfl rfl (take_ofW HT_.out HW_.out (by kernel_rfl)) (fun _ _ _ h => h) (Or.inl ⟨by rfl, ?_⟩) hHeld ?_ ?_
              rotate_left
              ·rintro w' ⟨s0, s1, s2, s3, s4, s5, s6, s7⟩
               go_simp
               with_reducible rfl
              rotate_left
              ·simp only [Act.put, sB, sC, sD, i64_w, i32_w]
               rfl
              refine pure_ (i := 12) (N := some 31) (v := ?_) (a' := ?_) #[true, true, true, true, true, true, true, true, true, true, true, true, true, false, false, false, false] rfl rfl (any_of HT_.out (by kernel_rfl)) (fun _ _ _ h => h) (Or.inl ⟨by rfl, ?_⟩) ?_ ?_
              rotate_left
              ·intro w'
               go_simp
               with_reducible rfl
              rotate_left
              ·simp only [Act.put, sB, sC, sD, i64_w, i32_w]
               rfl
              refine one_ (i := 13) (N := some 32) #[true, true, true, true, true, true, true, true, true, true, true, true, true, true, false, false, false] rfl rfl (one_of HT_.out (by kernel_rfl)) (by decide) (fun K hK => ?_)
              refine value_ (w1 := ?_) (v := ?_) (by rfl) rfl ?_ ?_
              rotate_left 2
              ·go_simp
               constructor
               ·rfl
               ·rfl
              refine hK.out _ _ ⟨(blk_cell (blk_alloc BK334.out _) 0).trans rfl, (blk_cell (blk_alloc BK334.out _) 1).trans rfl, (blk_cell (blk_alloc BK330.out _) 0).trans rfl, (blk_cell (blk_alloc BK330.out _) 1).trans rfl, (blk_cell (blk_alloc BK331.out _) 0).trans rfl, (blk_cell (blk_alloc BK331.out _) 1).trans rfl, (World.cell?_alloc_lt _ _ _ (World.block_lt_of_cell? _ _ (((HB.out.cell (World.block_lt_of_cell? w _ hw335_0)).trans hw335_0)))).trans (((HB.out.cell (World.block_lt_of_cell? w _ hw335_0)).trans hw335_0)), (World.cell?_alloc_lt _ _ _ (World.block_lt_of_cell? _ _ (((HB.out.cell (World.block_lt_of_cell? w _ hw336_0)).trans hw336_0)))).trans (((HB.out.cell (World.block_lt_of_cell? w _ hw336_0)).trans hw336_0))⟩ (fun hHeld => ?_)
              clear hK K
              refine norm_ (a' := ?_) ?_ ?_
              rotate_left
              ·show Act.put _ (some 32) _ = _
               simp only [Act.put, sB, sC, sD, i64_w, i32_w]
               rfl
              refine one_ (i := 14) (N := some 33) #[true, true, true, true, true, true, true, true, true, true, true, true, true, true, true, false, false] rfl rfl (one_of HT_.out (by kernel_rfl)) (by decide) (fun K hK => ?_)
              refine Kd.R_append_step Kd.flt (w0 := w) w.heap.size (by rfl) (.tmp 20) (.tmp 32) 23 33 (.float .f64 0) 8 rfl Try.underlying23 info33 rfl (by decide) (by omega) u335000 x335000_1 (fmin (rdOf (0 : Nat) l0_0 x16_1) (rdOf (0 : Nat) l1_0 x16_1)) [.float .f64 (fmin (rdOf (0 : Nat) l0_0 x16_1) (rdOf (0 : Nat) l1_0 x16_1))] (fun k_ => some k_ ≠ (u335001 : Value).ownBlock) (fun _ => False) rfl rfl ?aP (fun _ hk => hk.elim) ?aF ?aO ?aB ?aS ?aL ?_
              (case aP => exact rfl)
              (case aB => exact (by repeat (with_reducible first | exact HB.out | refine bz ?_ (by assumption) | apply bA | apply bN | apply bD)))
              (case aF => exact (fun k_ hk => Kd.fresh' (Kd.R_lt (rk HO_335001.out)) k_ hk))
              (case aO => exact (rk HO_335000.out))
              (case aS => exact (bs HB.out))
              (case aL => have := LMc22.out; omega)
              intro v338 w28 ho hb hg hat
              rw [← Ny337.out] at ho
              replace HO_335001 := a_ (Kd.R_after (ok := (fun _ => True)) (rk (Kd.R_mono HO_335001.out (fun _ hk => ⟨trivial, hk⟩))) hg hat)
              replace BK330 := a_ (blk_grown (pk BK330.out) hg (Kd.R_ne HO_335000.out BK330.out (by decide)))
              replace BK331 := a_ (blk_grown (pk BK331.out) hg (Kd.R_ne HO_335000.out BK331.out (by decide)))
              replace BK332 := a_ (blk_grown (pk BK332.out) hg (Kd.R_ne HO_335000.out BK332.out (by decide)))
              replace BK334 := a_ (blk_grown (pk BK334.out) hg (Kd.R_ne HO_335000.out BK334.out (by decide)))
              replace HB := a_ (hb)
              have HO339 := a_ (ho)
              clear HO_335000 ho hb hg hat
              obtain ⟨Ao29, co29, eo29⟩ := Kd.R_slice HO339.out
              (first | subst eo29 | (injection eo29 with f1_ f2_ f3_; obtain rfl := f1_.symm; obtain rfl := f3_.symm))
              refine hK.out _ _ ⟨(blk_cell BK334.out 0).trans rfl, (blk_cell BK334.out 1).trans rfl, (blk_cell BK330.out 0).trans rfl, (blk_cell BK330.out 1).trans rfl, (blk_cell BK331.out 0).trans rfl, (blk_cell BK331.out 1).trans rfl, ((HB.out.cell (World.block_lt_of_cell? w _ hw335_0)).trans hw335_0), ((HB.out.cell (World.block_lt_of_cell? w _ hw336_0)).trans hw336_0)⟩ (fun hHeld => ?_)
              clear hK K
              refine norm_ (a' := ?_) ?_ ?_
              rotate_left
              ·show Act.put _ (some 33) _ = _
               simp only [Act.put, sB, sC, sD, i64_w, i32_w]
               rfl
              refine pure_ (i := 15) (N := some 34) (v := ?_) (a' := ?_) #[true, true, true, true, true, true, true, true, true, true, true, true, true, true, true, true, false] rfl rfl (any_of HT_.out (by kernel_rfl)) (fun _ _ _ h => h) (Or.inl ⟨by rfl, ?_⟩) ?_ ?_
              rotate_left
              ·intro w'
               go_simp
               with_reducible rfl
              rotate_left
              ·simp only [Act.put, sB, sC, sD, i64_w, i32_w]
               rfl
              refine last_ (i := 16) (N := none) #[true, true, true, true, true, true, true, true, true, true, true, true, true, true, true, true, true] rfl rfl (one_of HT_.out (by kernel_rfl)) (by decide) (fun K hK => ?_)
              have hs30 : w28.cell? ⟨gb334, 0, none⟩ = some (u335000) := (blk_cell BK334.out 0).trans rfl
              have hfs30 := blk_frozen BK334.out 0
              have hns30_0 := NB330_334.out
              have hns30_1 := NB331_334.out
              have hns30_2 := NB332_334.out
              have hms30_0 := NB334_330.out
              have hms30_1 := NB334_331.out
              have hms30_2 := NB334_332.out
              refine skip_ (w1 := ?_) ?_ ?_ ?_ ?_
              rotate_left
              ·rfl
              ·rfl
              ·go_simp
               rfl
              refine hK.out _ _ ?_
              clear hK K
              refine done_ (done_of HT_.out (by kernel_rfl)) ?_
              try go_wp2
              have n0_ : Aside0 (Kd.R Kd.flt 33 (w28.setCell ⟨gb334, 0, none⟩ (.slice Ao29 y337.length co29)) w.heap.size (fun k_ => N_ (.slice Ao29 y337.length co29) k_) u335001 x335001_1) := ⟨rk (Kd.R_mono (fr1 HO_335001.out BK334.out (by decide) 0 (.slice Ao29 y337.length co29)) (fun _ hk => hk.1.2))⟩
              have n1_ : Aside0 (Kd.R Kd.flt 33 (w28.setCell ⟨gb334, 0, none⟩ (.slice Ao29 y337.length co29)) w.heap.size (fun k_ => some k_ ≠ (u335001 : Value).ownBlock) (.slice Ao29 y337.length co29) y337) := ⟨rk (Kd.R_mono (fr1 HO339.out BK334.out (by decide) 0 (.slice Ao29 y337.length co29)) (fun _ hk => hk.1))⟩
              have n2_ : Aside0 ((w28.setCell ⟨gb334, 0, none⟩ (.slice Ao29 y337.length co29)).heap[gb330]? = some (.cells #[.slice (some ad335) l0_0.length c0_0, .slice A0_1 l0_1.length c0_1] 25 (0, 0))) := ⟨by refine pk ?_; refine blk_far ?_ NB330_334.out _; refine pk ?_; exact BK330.out⟩
              have n3_ : Aside0 ((w28.setCell ⟨gb334, 0, none⟩ (.slice Ao29 y337.length co29)).heap[gb331]? = some (.cells #[.slice (some ad336) l1_0.length c1_0, .slice A1_1 l1_1.length c1_1] 25 (0, 0))) := ⟨by refine pk ?_; refine blk_far ?_ NB331_334.out _; refine pk ?_; exact BK331.out⟩
              have n4_ : Aside0 ((w28.setCell ⟨gb334, 0, none⟩ (.slice Ao29 y337.length co29)).heap[gb332]? = some (.cells #[.slice none 0 0, .slice none 0 0] 25 (0, 0))) := ⟨by refine pk ?_; refine blk_far ?_ NB332_334.out _; refine pk ?_; exact BK332.out⟩
              have n5_ : Aside0 ((w28.setCell ⟨gb334, 0, none⟩ (.slice Ao29 y337.length co29)).heap[gb334]? = some (.cells #[.slice Ao29 y337.length co29, u335001] 25 (0, 0))) := ⟨by refine pk ?_; refine blk_put (cs := #[u335000, u335001]) ?_ 0 _ rfl; refine pk ?_; exact BK334.out⟩
              have n6_ : Aside0 (Below w.heap.size w (w28.setCell ⟨gb334, 0, none⟩ (.slice Ao29 y337.length co29))) := ⟨by repeat (with_reducible first | exact HB.out | refine bz ?_ (by assumption) | apply bA | apply bN | apply bD)⟩
              (try clear HO_335001)
              (try clear HO339)
              (try clear BK330)
              (try clear BK331)
              (try clear BK332)
              (try clear BK334)
              (try clear HB)
              generalize (w28.setCell ⟨gb334, 0, none⟩ (.slice Ao29 y337.length co29)) = w31 at n0_ n1_ n2_ n3_ n4_ n5_ n6_ ⊢
              have HO_335001 := n0_
              have HO339 := n1_
              have BK330 := n2_
              have BK331 := n3_
              have BK332 := n4_
              have BK334 := n5_
              have HB := n6_
              clear n0_ n1_ n2_ n3_ n4_ n5_ n6_
              replace HO_335001 := a_ (Kd.R_drew HO_335001.out)
              replace HO339 := a_ (Kd.R_drew HO339.out)
              replace BK330 := a_ (blk_drew BK330.out)
              replace BK331 := a_ (blk_drew BK331.out)
              replace BK332 := a_ (blk_drew BK332.out)
              replace BK334 := a_ (blk_drew BK334.out)
              replace HB := a_ (below_drew1 HB.out)
              have p340 : 0 ≤ (x16_1 : Int) := of_decide_eq_true (by first | (with_reducible assumption) | assumption)
              have q340 : x16_1 < (l0_1.length : Int) := of_decide_eq_true (by first | (with_reducible assumption) | assumption)
              obtain ⟨ad340, e340, hx340_0⟩ := Kd.at_flt HR0_1.out x16_1 p340 q340
              have hw340_0 := hx340_0
              cases e340
              replace hx340_0 := (HB.out.cell (World.block_lt_of_cell? w _ hx340_0)).trans hx340_0
              replace p340 := eq_true p340
              replace q340 := eq_true q340
              have p341 : 0 ≤ (x16_1 : Int) := of_decide_eq_true (by first | (with_reducible assumption) | assumption)
              have q341 : x16_1 < (l1_1.length : Int) := of_decide_eq_true (by first | (with_reducible assumption) | assumption)
              obtain ⟨ad341, e341, hx341_0⟩ := Kd.at_flt HR1_1.out x16_1 p341 q341
              have hw341_0 := hx341_0
              cases e341
              replace hx341_0 := (HB.out.cell (World.block_lt_of_cell? w _ hx341_0)).trans hx341_0
              replace p341 := eq_true p341
              replace q341 := eq_true q341
              refine start_ (n := 17) (S := fun w' => w'.cell? ⟨gb334, 0, none⟩ = some (.slice Ao29 y337.length co29) ∧ w'.cell? ⟨gb334, 1, none⟩ = some (u335001) ∧ w'.cell? ⟨gb330, 0, none⟩ = some (.slice (some ad335) l0_0.length c0_0) ∧ w'.cell? ⟨gb330, 1, none⟩ = some (.slice (some ad340) l0_1.length c0_1) ∧ w'.cell? ⟨gb331, 0, none⟩ = some (.slice (some ad336) l1_0.length c1_0) ∧ w'.cell? ⟨gb331, 1, none⟩ = some (.slice (some ad341) l1_1.length c1_1) ∧ w'.cell? (ad340.add (x16_1).toNat) = some (.float .f64 (rdOf (0 : Nat) l0_1 x16_1)) ∧ w'.cell? (ad341.add (x16_1).toNat) = some (.float .f64 (rdOf (0 : Nat) l1_1 x16_1))) (ds := [16]) #[false, false, false, false, false, false, false, false, false, false, false, false, false, false, false, false, false] (by kernel_rfl) rfl rfl ⟨(blk_cell BK334.out 0).trans rfl, (blk_cell BK334.out 1).trans rfl, (blk_cell BK330.out 0).trans rfl, (blk_cell BK330.out 1).trans rfl, (blk_cell BK331.out 0).trans rfl, (blk_cell BK331.out 1).trans rfl, ((HB.out.cell (World.block_lt_of_cell? w _ hw340_0)).trans hw340_0), ((HB.out.cell (World.block_lt_of_cell? w _ hw341_0)).trans hw341_0)⟩ (fun hHeld => ?_); refine with_tabW impl_BoxHull.tab8 impl_BoxHull.bits8 (fun HT_ HW_ => ?_)
              generalize w31.drew = w32 at HO_335001 HO339 BK330 BK331 BK332 BK334 HB hx340_0 hx341_0 hHeld ⊢
              refine pure_ (i := 0) (N := some 35) (v := ?_) (a' := ?_) #[true, false, false, false, false, false, false, false, false, false, false, false, false, false, false, false, false] rfl rfl (any_of HT_.out (by kernel_rfl)) (fun _ _ _ h => h) (Or.inl ⟨by rfl, ?_⟩) ?_ ?_
              rotate_left
              ·intro w'
               go_simp
               with_reducible rfl
              rotate_left
              ·simp only [Act.put, sB, sC, sD, i64_w, i32_w]
               rfl
              refine pure_ (i := 2) (N := some 37) (v := ?_) (a' := ?_) #[true, false, true, false, false, false, false, false, false, false, false, false, false, false, false, false, false] rfl rfl (any_of HT_.out (by kernel_rfl)) (fun _ _ _ h => h) (Or.inl ⟨by rfl, ?_⟩) ?_ ?_
              rotate_left
              ·intro w'
               go_simp
               with_reducible rfl
              rotate_left
              ·simp only [Act.put, sB, sC, sD, i64_w, i32_w]
               rfl
              refine pure_ (i := 4) (N := some 39) (v := ?_) (a' := ?_) #[true, false, true, false, true, false, false, false, false, false, false, false, false, false, false, false, false] rfl rfl (any_of HT_.out (by kernel_rfl)) (fun _ _ _ h => h) (Or.inl ⟨by rfl, ?_⟩) ?_ ?_
              rotate_left
              ·intro w'
               go_simp
               with_reducible rfl
              rotate_left
              ·simp only [Act.put, sB, sC, sD, i64_w, i32_w]
               rfl
              refine pure_ (i := 7) (N := some 42) (v := ?_) (a' := ?_) #[true, false, true, false, true, false, false, true, false, false, false, false, false, false, false, false, false] rfl rfl (any_of HT_.out (by kernel_rfl)) (fun _ _ _ h => h) (Or.inl ⟨by rfl, ?_⟩) ?_ ?_
              rotate_left
              ·intro w'
               go_simp
               with_reducible rfl
              rotate_left
              ·simp only [Act.put, sB, sC, sD, i64_w, i32_w]
               rfl
              refine pure_ (i := 9) (N := some 44) (v := ?_) (a' := ?_) #[true, false, true, false, true, false, false, true, false, true, false, false, false, false, false, false, false] rfl rfl (any_of HT_.out (by kernel_rfl)) (fun _ _ _ h => h) (Or.inl ⟨by rfl, ?_⟩) ?_ ?_
              rotate_left
              ·intro w'
               go_simp
               with_reducible rfl
              rotate_left
              ·simp only [Act.put, sB, sC, sD, i64_w, i32_w]
               rfl
              refine take_ (i := 1) (N := some 36) (v := ?_) (a' := ?_) #[true, true, true, false, true, false, false, true, false, true, false, false, false, false, false, false, false] rfl rfl (take_ofW HT_.out HW_.out (by kernel_rfl)) (fun _ _ _ h => h) (Or.inl ⟨by rfl, ?_⟩) hHeld ?_ ?_
              rotate_left
              ·rintro w' ⟨s0, s1, s2, s3, s4, s5, s6, s7⟩
               go_simp
               with_reducible rfl
              rotate_left
              ·simp only [Act.put, sB, sC, sD, i64_w, i32_w]
               rfl
              refine take_ (i := 3) (N := some 38) (v := ?_) (a' := ?_) #[true, true, true, true, true, false, false, true, false, true, false, false, false, false, false, false, false] rfl rfl (take_ofW HT_.out HW_.out (by kernel_rfl)) (fun _ _ _ h => h) (Or.inl ⟨by rfl, ?_⟩) hHeld ?_ ?_
              rotate_left
              ·rintro w' ⟨s0, s1, s2, s3, s4, s5, s6, s7⟩
               go_simp
               with_reducible rfl
              rotate_left
              ·simp only [Act.put, sB, sC, sD, i64_w, i32_w]
               rfl
              refine pure_ (i := 5) (N := some 40) (v := ?_) (a' := ?_) #[true, true, true, true, true, true, false, true, false, true, false, false, false, false, false, false, false] rfl rfl (any_of HT_.out (by kernel_rfl)) (fun _ _ _ h => h) (Or.inl ⟨by rfl, ?_⟩) ?_ ?_
              rotate_left
              ·intro w'
               go_simp
               with_reducible rfl
              rotate_left
              ·simp only [Act.put, sB, sC, sD, i64_w, i32_w]
               rfl
              refine take_ (i := 6) (N := some 41) (v := ?_) (a' := ?_) #[true, true, true, true, true, true, true, true, false, true, false, false, false, false, false, false, false] rfl rfl (take_ofW HT_.out HW_.out (by kernel_rfl)) (fun _ _ _ h => h) (Or.inl ⟨by rfl, ?_⟩) hHeld ?_ ?_
              rotate_left
              ·rintro w' ⟨s0, s1, s2, s3, s4, s5, s6, s7⟩
               go_simp
               with_reducible rfl
              rotate_left
              ·simp only [Act.put, sB, sC, sD, i64_w, i32_w]
               rfl
              refine take_ (i := 8) (N := some 43) (v := ?_) (a' := ?_) #[true, true, true, true, true, true, true, true, true, true, false, false, false, false, false, false, false] rfl rfl (take_ofW HT_.out HW_.out (by kernel_rfl)) (fun _ _ _ h => h) (Or.inl ⟨by rfl, ?_⟩) hHeld ?_ ?_
              rotate_left
              ·rintro w' ⟨s0, s1, s2, s3, s4, s5, s6, s7⟩
               go_simp
               with_reducible rfl
              rotate_left
              ·simp only [Act.put, sB, sC, sD, i64_w, i32_w]
               rfl
              refine pure_ (i := 10) (N := some 45) (v := ?_) (a' := ?_) #[true, true, true, true, true, true, true, true, true, true, true, false, false, false, false, false, false] rfl rfl (any_of HT_.out (by kernel_rfl)) (fun _ _ _ h => h) (Or.inl ⟨by rfl, ?_⟩) ?_ ?_
              rotate_left
              ·intro w'
               go_simp
               with_reducible rfl
              rotate_left
              ·simp only [Act.put, sB, sC, sD, i64_w, i32_w]
               rfl
              refine take_ (i := 11) (N := some 46) (v := ?_) (a' := ?_) #[true, true, true, true, true, true, true, true, true, true, true, true, false, false, false, false, false] rfl rfl (take_ofW HT_.out HW_.out (by kernel_rfl)) (fun _ _ _ h => h) (Or.inl ⟨by rfl, ?_⟩) hHeld ?_ ?_
              rotate_left
              ·rintro w' ⟨s0, s1, s2, s3, s4, s5, s6, s7⟩
               go_simp
               with_reducible rfl
              rotate_left
              ·simp only [Act.put, sB, sC, sD, i64_w, i32_w]
               rfl
              refine pure_ (i := 12) (N := some 47) (v := ?_) (a' := ?_) #[true, true, true, true, true, true, true, true, true, true, true, true, true, false, false, false, false] rfl rfl (any_of HT_.out (by kernel_rfl)) (fun _ _ _ h => h) (Or.inl ⟨by rfl, ?_⟩) ?_ ?_
              rotate_left
              ·intro w'
               go_simp
               with_reducible rfl
              rotate_left
              ·simp only [Act.put, sB, sC, sD, i64_w, i32_w]
               rfl
              refine one_ (i := 13) (N := some 48) #[true, true, true, true, true, true, true, true, true, true, true, true, true, true, false, false, false] rfl rfl (one_of HT_.out (by kernel_rfl)) (by decide) (fun K hK => ?_)
              refine value_ (w1 := ?_) (v := ?_) (by rfl) rfl ?_ ?_
              rotate_left 2
              ·go_simp
               constructor
               ·rfl
               ·rfl
              refine hK.out _ _ ⟨(blk_cell (blk_alloc BK334.out _) 0).trans rfl, (blk_cell (blk_alloc BK334.out _) 1).trans rfl, (blk_cell (blk_alloc BK330.out _) 0).trans rfl, (blk_cell (blk_alloc BK330.out _) 1).trans rfl, (blk_cell (blk_alloc BK331.out _) 0).trans rfl, (blk_cell (blk_alloc BK331.out _) 1).trans rfl, (World.cell?_alloc_lt _ _ _ (World.block_lt_of_cell? _ _ (((HB.out.cell (World.block_lt_of_cell? w _ hw340_0)).trans hw340_0)))).trans (((HB.out.cell (World.block_lt_of_cell? w _ hw340_0)).trans hw340_0)), (World.cell?_alloc_lt _ _ _ (World.block_lt_of_cell? _ _ (((HB.out.cell (World.block_lt_of_cell? w _ hw341_0)).trans hw341_0)))).trans (((HB.out.cell (World.block_lt_of_cell? w _ hw341_0)).trans hw341_0))⟩ (fun hHeld => ?_)
              clear hK K
              refine norm_ (a' := ?_) ?_ ?_
              rotate_left
              ·show Act.put _ (some 48) _ = _
               simp only [Act.put, sB, sC, sD, i64_w, i32_w]
               rfl
              refine one_ (i := 14) (N := some 49) #[true, true, true, true, true, true, true, true, true, true, true, true, true, true, true, false, false] rfl rfl (one_of HT_.out (by kernel_rfl)) (by decide) (fun K hK => ?_)
              refine Kd.R_append_step Kd.flt (w0 := w) w.heap.size (by rfl) (.tmp 36) (.tmp 48) 23 33 (.float .f64 0) 8 rfl Try.underlying23 info33 rfl (by decide) (by omega) u335001 x335001_1 (fmax (rdOf (0 : Nat) l0_1 x16_1) (rdOf (0 : Nat) l1_1 x16_1)) [.float .f64 (fmax (rdOf (0 : Nat) l0_1 x16_1) (rdOf (0 : Nat) l1_1 x16_1))] (fun k_ => N_ (.slice Ao29 y337.length co29) k_) (fun _ => False) rfl rfl ?aP (fun _ hk => hk.elim) ?aF ?aO ?aB ?aS ?aL ?_
              (case aP => exact rfl)
              (case aB => exact (by repeat (with_reducible first | exact HB.out | refine bz ?_ (by assumption) | apply bA | apply bN | apply bD)))
              (case aF => exact (fun k_ hk => Kd.fresh' (Kd.R_lt (rk HO339.out)) k_ hk))
              (case aO => exact (rk HO_335001.out))
              (case aS => exact (bs HB.out))
              (case aL => have := LMc26.out; omega)
              intro v343 w33 ho hb hg hat
              rw [← Ny342.out] at ho
              replace BK330 := a_ (blk_grown (pk BK330.out) hg (Kd.R_ne HO_335001.out BK330.out (by decide)))
              replace BK331 := a_ (blk_grown (pk BK331.out) hg (Kd.R_ne HO_335001.out BK331.out (by decide)))
              replace BK332 := a_ (blk_grown (pk BK332.out) hg (Kd.R_ne HO_335001.out BK332.out (by decide)))
              replace BK334 := a_ (blk_grown (pk BK334.out) hg (Kd.R_ne HO_335001.out BK334.out (by decide)))
              replace HO339 := a_ (Kd.R_after (ok := (fun _ => True)) (rk (Kd.R_mono HO339.out (fun _ hk => ⟨trivial, hk⟩))) hg hat)
              replace HB := a_ (hb)
              have HO344 := a_ (ho)
              clear HO_335001 ho hb hg hat
              obtain ⟨Ao34, co34, eo34⟩ := Kd.R_slice HO344.out
              (first | subst eo34 | (injection eo34 with f1_ f2_ f3_; obtain rfl := f1_.symm; obtain rfl := f3_.symm))
              refine hK.out _ _ ⟨(blk_cell BK334.out 0).trans rfl, (blk_cell BK334.out 1).trans rfl, (blk_cell BK330.out 0).trans rfl, (blk_cell BK330.out 1).trans rfl, (blk_cell BK331.out 0).trans rfl, (blk_cell BK331.out 1).trans rfl, ((HB.out.cell (World.block_lt_of_cell? w _ hw340_0)).trans hw340_0), ((HB.out.cell (World.block_lt_of_cell? w _ hw341_0)).trans hw341_0)⟩ (fun hHeld => ?_)
              clear hK K
              refine norm_ (a' := ?_) ?_ ?_
              rotate_left
              ·show Act.put _ (some 49) _ = _
               simp only [Act.put, sB, sC, sD, i64_w, i32_w]
               rfl
              refine pure_ (i := 15) (N := some 50) (v := ?_) (a' := ?_) #[true, true, true, true, true, true, true, true, true, true, true, true, true, true, true, true, false] rfl rfl (any_of HT_.out (by kernel_rfl)) (fun _ _ _ h => h) (Or.inl ⟨by rfl, ?_⟩) ?_ ?_
              rotate_left
              ·intro w'
               go_simp
               with_reducible rfl
              rotate_left
              ·simp only [Act.put, sB, sC, sD, i64_w, i32_w]
               rfl
              refine last_ (i := 16) (N := none) #[true, true, true, true, true, true, true, true, true, true, true, true, true, true, true, true, true] rfl rfl (one_of HT_.out (by kernel_rfl)) (by decide) (fun K hK => ?_)
              have hs35 : w33.cell? ⟨gb334, 1, none⟩ = some (u335001) := (blk_cell BK334.out 1).trans rfl
              have hfs35 := blk_frozen BK334.out 1
              have hns35_0 := NB330_334.out
              have hns35_1 := NB331_334.out
              have hns35_2 := NB332_334.out
              have hms35_0 := NB334_330.out
              have hms35_1 := NB334_331.out
              have hms35_2 := NB334_332.out
              refine skip_ (w1 := ?_) ?_ ?_ ?_ ?_
              rotate_left
              ·rfl
              ·rfl
              ·go_simp
               rfl
              refine hK.out _ _ ?_
              clear hK K
              refine done_ (done_of HT_.out (by kernel_rfl)) ?_
              try go_wp2
              go_roundg k1
              case measure => have := HK1.out; omega
              case rel => exact ⟨(wrap64 (x16_1 + 1)), (y337), (y342), (.slice Ao29 y337.length co29), (.slice Ao34 y342.length co34), (by first | rfl | (simp; done) | (simp [*]; done)), H', ⟨by have := HK1.out; omega⟩, ⟨rk (Kd.R_mono (fr1 HO339.out BK334.out (by decide) 1 (.slice Ao34 y342.length co34)) (fun _ hk => hk.1.2))⟩, ⟨rk (Kd.R_mono (fr1 HO344.out BK334.out (by decide) 1 (.slice Ao34 y342.length co34)) (fun _ hk => hk.1))⟩, ⟨by refine pk ?_; refine blk_far ?_ NB330_334.out _; refine pk ?_; exact BK330.out⟩, ⟨by refine pk ?_; refine blk_far ?_ NB331_334.out _; refine pk ?_; exact BK331.out⟩, ⟨by refine pk ?_; refine blk_far ?_ NB332_334.out _; refine pk ?_; exact BK332.out⟩, ⟨by refine pk ?_; refine blk_put (cs := #[.slice Ao29 y337.length co29, u335001]) ?_ 1 _ rfl; refine pk ?_; exact BK334.out⟩, ⟨by repeat (with_reducible first | exact HB.out | refine bz ?_ (by assumption) | apply bA | apply bN | apply bD)⟩⟩
             ·rw [if_neg c26] at H
              exact absurd H (by simp)
            ·rw [if_neg c25] at H
             exact absurd H (by simp)
           ·rw [if_neg c24] at H
            exact absurd H (by simp)
          ·rw [if_neg c23] at H
           exact absurd H (by simp)
         ·rw [if_neg c22] at H
          exact absurd H (by simp)
        ·rw [if_neg c21] at H
         exact absurd H (by simp)
       ·rw [if_neg c20] at H
        exact absurd H (by simp)
      ·rw [if_neg c19] at H
       exact absurd H (by simp)
     ·rw [if_neg c18] at H
      exact absurd H (by simp)
    ·rw [if_neg c17] at H
     have c17b0 : decide (x16_1 < (l0_0.length : Int)) = false := decide_eq_false c17
     clear c17
     simp only [Option.some.injEq, Prod.mk.injEq] at H
     obtain ⟨rfl, rfl, rfl⟩ := H
     have hnb36 := NB334_330.out
     have hnc36 := NB330_334.out
     have hnb37 := NB334_331.out
     have hnc37 := NB331_334.out
     have hnb38 := NB334_332.out
     have hnc38 := NB332_334.out
     have hcz39_0 : wr.cell? ⟨gb334, 0, none⟩ = some (u335000) := (blk_cell BK334.out 0).trans rfl
     have hcz39_1 : wr.cell? ⟨gb334, 1, none⟩ = some (u335001) := (blk_cell BK334.out 1).trans rfl
     have hfz39_0 := blk_frozen BK334.out 0
     have hfz39_1 := blk_frozen BK334.out 1
     obtain ⟨Ao40, co40, eo40⟩ := Kd.R_slice HO_335000.out
     subst eo40
     have hnb41 := NB332_330.out
     have hnc41 := NB330_332.out
     have hnb42 := NB332_331.out
     have hnc42 := NB331_332.out
     have hcz43_0 : wr.cell? ⟨gb332, 0, none⟩ = some (.slice none 0 0) := (blk_cell BK332.out 0).trans rfl
     have hcz43_1 : wr.cell? ⟨gb332, 1, none⟩ = some (.slice none 0 0) := (blk_cell BK332.out 1).trans rfl
     have hfz43_0 := blk_frozen BK332.out 0
     have hfz43_1 := blk_frozen BK332.out 1
     obtain ⟨Ao44, co44, eo44⟩ := Kd.R_slice HO_335001.out
     subst eo44
     go_wp2
     refine bodyPost_ret (results_ct rfl _ _ gb332 25 #[.slice Ao40 x335000_1.length co40, .slice Ao44 x335001_1.length co44] (0, 0) _ rfl (by refine pk ?_; refine blk_put (cs := #[.slice Ao40 x335000_1.length co40, .slice none 0 0]) ?_ 1 _ rfl; refine pk ?_; refine blk_put (cs := #[.slice none 0 0, .slice none 0 0]) ?_ 0 _ rfl; refine pk ?_; exact BK332.out) Try.underlying25 rfl (by kernel_rfl)) rfl ?_
     exact ⟨_, _, by first | rfl | (simp [errW_none, errW_some] <;> rfl) | (simp [*, errW_none, errW_some] <;> rfl), by refine rk ?_; exact Kd.R_mono (fr2 HO_335000.out BK332.out (by decide) 0 (.slice Ao40 x335000_1.length co40) 1 (.slice Ao44 x335001_1.length co44)) (fun _ hk => hk.1), by refine rk ?_; exact Kd.R_mono (fr2 HO_335001.out BK332.out (by decide) 0 (.slice Ao40 x335000_1.length co40) 1 (.slice Ao44 x335001_1.length co44)) (fun _ hk => hk.1), by repeat (with_reducible first | exact HB.out | refine bz ?_ (by assumption) | apply bA | apply bN | apply bD)⟩
 ·replace c4 := Bool.eq_false_iff.mpr c4
  subst c4
  have H1 : (some (([] : List Nat), ([] : List Nat), false)) = some (r1, r2, r3) := by rw [if_neg (show ¬ (false = true) by decide)] at H; exact H
  clear H
  have H := H1
  clear H1
  simp only [Option.some.injEq, Prod.mk.injEq] at H
  obtain ⟨rfl, rfl, rfl⟩ := H
  go_enter Try.func5, Try.ntmps5
  go_wp2_with (first | ((with_reducible refine gate_dst (N := 2) rfl ?_); refine box_event ?hg (N := 2) ?hd (cs := #[.slice A0_0 l0_0.length c0_0, .slice A0_1 l0_1.length c0_1]) (t := 25) ?hr ?_; (case hd => rfl); (case hg => rfl); (case hr => first | (go_simp; done) | (go_simp; rfl)); intro gb330 hg w45 hbox hb; have BK330 := a_ (hbox); have GW330 := a_ (bsg hg HB.out); have GE330 := a_ (bsg hg HB.out); replace HB := a_ (below_step (un HB.out) hb); clear hb hbox hg) | ((with_reducible refine gate_dst (N := 3) rfl ?_); refine box_event ?hg (N := 3) ?hd (cs := #[.slice A1_0 l1_0.length c1_0, .slice A1_1 l1_1.length c1_1]) (t := 25) ?hr ?_; (case hd => rfl); (case hg => rfl); (case hr => first | (go_simp; done) | (go_simp; rfl)); intro gb331 hg w46 hbox hb; have BK331 := a_ (hbox); have GW331 := a_ (bsg hg HB.out); have GE331 := a_ (bsg hg HB.out); replace HB := a_ (below_step (by repeat (with_reducible first | exact HB.out | refine bz ?_ (by assumption) | apply bA | apply bN | apply bD)) hb); have NB330_331 := a_ (nel hg BK330.out); have NB331_330 := a_ (nle hg BK330.out); replace BK330 := a_ (blk_below (pk BK330.out) hb); clear hb hbox hg) | ((with_reducible refine gate_dst (N := 4) rfl ?_); refine box_event ?hg (N := 4) ?hd (cs := #[.slice none 0 0, .slice none 0 0]) (t := 25) ?hr ?_; (case hd => rfl); (case hg => rfl); (case hr => first | (go_simp; done) | (go_simp; rfl)); intro gb332 hg w47 hbox hb; have BK332 := a_ (hbox); have GW332 := a_ (bsg hg HB.out); have GE332 := a_ (bsg hg HB.out); replace HB := a_ (below_step (by repeat (with_reducible first | exact HB.out | refine bz ?_ (by assumption) | apply bA | apply bN | apply bD)) hb); have NB330_332 := a_ (nel hg BK330.out); have NB332_330 := a_ (nle hg BK330.out); replace BK330 := a_ (blk_below (pk BK330.out) hb); have NB331_332 := a_ (nel hg BK331.out); have NB332_331 := a_ (nle hg BK331.out); replace BK331 := a_ (blk_below (pk BK331.out) hb); clear hb hbox hg; have hnb48 := NB330_331.out; have hnc48 := NB331_330.out; have hnb49 := NB330_332.out; have hnc49 := NB332_330.out; have hcz50_0 : _ = some (Value.slice A0_0 l0_0.length c0_0) := (blk_cell BK330.out 0).trans rfl; have hcz50_1 : _ = some (Value.slice A0_1 l0_1.length c0_1) := (blk_cell BK330.out 1).trans rfl; have hfz50_0 := blk_frozen BK330.out 0; have hfz50_1 := blk_frozen BK330.out 1; have hnb51 := NB331_332.out; have hnc51 := NB332_331.out; have hcz52_0 : _ = some (Value.slice A1_0 l1_0.length c1_0) := (blk_cell BK331.out 0).trans rfl; have hcz52_1 : _ = some (Value.slice A1_1 l1_1.length c1_1) := (blk_cell BK331.out 1).trans rfl; have hfz52_0 := blk_frozen BK331.out 0; have hfz52_1 := blk_frozen BK331.out 1) | ((with_reducible refine gate_callee (f := 12) rfl ?_); refine goesL_ (some 10) rfl rfl Try.func12 (by kernel_rfl) rfl #[.agg #[.slice A0_0 l0_0.length c0_0, .slice A0_1 l0_1.length c0_1], .agg #[.slice A1_0 l1_0.length c1_0, .slice A1_1 l1_1.length c1_1]] rfl (by (try simp only [lA, lB, lC]); first | done | rfl | (simp only [lD, lE]; rfl)) ?_; (with_reducible refine (impl_alike.calls k _ _ l0_0 _ _ l0_1 _ _ l1_0 _ _ l1_1 false _ ?side1 ?side2 ?side3 ?side4 ?side5 ?side6 ?side7 ?side8 A3.out).mono ?_); (case side1 => exact Kd.C_below HR0_0.out (un HB.out)); (case side2 => exact HC0_0.out); (case side3 => exact Kd.C_below HR0_1.out (un HB.out)); (case side4 => exact HC0_1.out); (case side5 => exact Kd.C_below HR1_0.out (un HB.out)); (case side6 => exact HC1_0.out); (case side7 => exact Kd.C_below HR1_1.out (un HB.out)); (case side8 => exact HC1_1.out); rintro e w53 ⟨rfl, hb⟩; refine ⟨_, rfl, ?_⟩; replace BK330 := a_ (blk_below (pk BK330.out) hb); replace BK331 := a_ (blk_below (pk BK331.out) hb); replace BK332 := a_ (blk_below (pk BK332.out) hb); replace HB := a_ (below_step (by repeat (with_reducible first | exact HB.out | refine bz ?_ (by assumption) | apply bA | apply bN | apply bD)) hb); clear hb; have hcz54_0 : _ = some (Value.slice none 0 0) := (blk_cell BK332.out 0).trans rfl; have hcz54_1 : _ = some (Value.slice none 0 0) := (blk_cell BK332.out 1).trans rfl; have hfz54_0 := blk_frozen BK332.out 0; have hfz54_1 := blk_frozen BK332.out 1))
  refine bodyPost_ret (results_ct rfl _ _ gb332 25 #[.slice none 0 0, .slice none 0 0] (0, 0) _ rfl (by refine pk ?_; refine blk_put (cs := #[.slice none 0 0, .slice none 0 0]) ?_ 1 _ rfl; refine pk ?_; refine blk_put (cs := #[.slice none 0 0, .slice none 0 0]) ?_ 0 _ rfl; refine pk ?_; exact BK332.out) Try.underlying25 rfl (by kernel_rfl)) rfl ?_
  exact ⟨_, _, by first | rfl | (simp [errW_none, errW_some] <;> rfl) | (simp [*, errW_none, errW_some] <;> rfl), by first | exact Kd.R_nil _ _ _ _ _ | exact Kd.N_nil _ _ _ _ _ | exact Kd.V_nil _ _ _ _ _ | exact Kd.Q_nil _ _ _ _ _ | exact Kd.S_nil _ _ _ _ _, by first | exact Kd.R_nil _ _ _ _ _ | exact Kd.N_nil _ _ _ _ _ | exact Kd.V_nil _ _ _ _ _ | exact Kd.Q_nil _ _ _ _ _ | exact Kd.S_nil _ _ _ _ _, by repeat (with_reducible first | exact HB.out | refine bz ?_ (by assumption) | apply bA | apply bN | apply bD)⟩

/-! ### spec_GoodReal: function 25 -/
def spec_GoodReal.f (a0 : Nat) : Option (Bool) := (math_IsNaN.f a0).bind fun t345 => (if t345 = true then (some false) else ((math_IsInf.f a0 0).bind fun t346 => (if t346 = true then (some false) else (if (FloatKind.f64.format.order a0 (0 : Nat) == some Ordering.eq) = true then ((math_Signbit.f a0).bind fun t347 => (some (!t347))) else (some (!false))))))
set_option maxHeartbeats 8000000 in
set_option maxRecDepth 100000 in
theorem spec_GoodReal.calls (a0 : Nat) (r : Bool) (w : World) (h : spec_GoodReal.f a0 = some r) :
  Calls Try.prog 25 #[.float .f64 a0] w fun e w' => e = .returned (.bool r) ∧ Drawn0 w w' := by
 have H : ((math_IsNaN.f a0).bind fun t345 => (if t345 = true then (some false) else ((math_IsInf.f a0 0).bind fun t346 => (if t346 = true then (some false) else (if (FloatKind.f64.format.order a0 (0 : Nat) == some Ordering.eq) = true then ((math_Signbit.f a0).bind fun t347 => (some (!t347))) else (some (!false))))))) = some r := h
 clear h
 replace H := Option.bind_eq_some_iff.mp H
 obtain ⟨t345, A20, H⟩ := H
 have A2 := Aside0.mk A20
 clear A20
 by_cases c3 : t345 = true
 ·subst c3
  have H1 : (some false) = some r := by rw [if_pos rfl] at H; exact H
  clear H
  have H := H1
  clear H1
  obtain rfl := Option.some.inj H
  go_enter Try.func25, Try.ntmps25
  go_wp2_with (first | ((with_reducible refine gate_callee (f := 35) rfl ?_); refine goesL_ (some 4) rfl rfl Try.func35 (by kernel_rfl) rfl #[.float .f64 a0] rfl (by (try simp only [lA, lB, lC]); first | done | rfl | (simp only [lD, lE]; rfl)) ?_; (with_reducible refine (math_IsNaN.calls a0 true _ A2.out).mono ?_); rintro e w' ⟨rfl, ⟨nd, rfl⟩⟩; refine ⟨_, rfl, ?_⟩))
  go_ret
  exact ⟨by first | rfl | (simp; done) | (simp [*]; done), by repeat (first | exact Drawn0.refl _ | apply Drawn0.step)⟩
 ·replace c3 := Bool.eq_false_iff.mpr c3
  subst c3
  have H1 : ((math_IsInf.f a0 0).bind fun t346 => (if t346 = true then (some false) else (if (FloatKind.f64.format.order a0 (0 : Nat) == some Ordering.eq) = true then ((math_Signbit.f a0).bind fun t347 => (some (!t347))) else (some (!false))))) = some r := by rw [if_neg (show ¬ (false = true) by decide)] at H; exact H
  clear H
  have H := H1
  clear H1
  replace H := Option.bind_eq_some_iff.mp H
  obtain ⟨t346, A40, H⟩ := H
  have A4 := Aside0.mk A40
  clear A40
  by_cases c5 : t346 = true
  ·subst c5
   have H1 : (some false) = some r := by rw [if_pos rfl] at H; exact H
   clear H
   have H := H1
   clear H1
   obtain rfl := Option.some.inj H
   go_enter Try.func25, Try.ntmps25
   go_wp2_with (first | ((with_reducible refine gate_callee (f := 35) rfl ?_); refine goesL_ (some 4) rfl rfl Try.func35 (by kernel_rfl) rfl #[.float .f64 a0] rfl (by (try simp only [lA, lB, lC]); first | done | rfl | (simp only [lD, lE]; rfl)) ?_; (with_reducible refine (math_IsNaN.calls a0 false _ A2.out).mono ?_); rintro e w' ⟨rfl, ⟨nd, rfl⟩⟩; refine ⟨_, rfl, ?_⟩) | (go_at_call 36; (with_reducible refine (math_IsInf.calls a0 0 true _ A4.out).mono ?_); rintro e w' ⟨rfl, ⟨nd, rfl⟩⟩))
   go_ret
   exact ⟨by first | rfl | (simp; done) | (simp [*]; done), by repeat (first | exact Drawn0.refl _ | apply Drawn0.step)⟩
  ·replace c5 := Bool.eq_false_iff.mpr c5
   subst c5
   have H1 : (if (FloatKind.f64.format.order a0 (0 : Nat) == some Ordering.eq) = true then ((math_Signbit.f a0).bind fun t347 => (some (!t347))) else (some (!false))) = some r := by rw [if_neg (show ¬ (false = true) by decide)] at H; exact H
   clear H
   have H := H1
   clear H1
   by_cases c6 : (FloatKind.f64.format.order a0 (0 : Nat) == some Ordering.eq) = true
   ·rw [if_pos c6] at H
    have c6b0 : (FloatKind.f64.format.order a0 (0 : Nat) == some Ordering.eq) = true := c6
    (try (have c6b1 : decide (FloatKind.f64.format.order a0 (0 : Nat) = some Ordering.eq) = true := by simpa using c6))
    (try (have c6b2 : (FloatKind.f64.format.order a0 (0 : Nat) == some Ordering.eq) = true := by simpa using c6))
    clear c6
    replace H := Option.bind_eq_some_iff.mp H
    obtain ⟨t347, A70, H⟩ := H
    have A7 := Aside0.mk A70
    clear A70
    obtain rfl := Option.some.inj H
    go_enter Try.func25, Try.ntmps25
    go_wp2_with (first | ((with_reducible refine gate_callee (f := 35) rfl ?_); refine goesL_ (some 4) rfl rfl Try.func35 (by kernel_rfl) rfl #[.float .f64 a0] rfl (by (try simp only [lA, lB, lC]); first | done | rfl | (simp only [lD, lE]; rfl)) ?_; (with_reducible refine (math_IsNaN.calls a0 false _ A2.out).mono ?_); rintro e w' ⟨rfl, ⟨nd, rfl⟩⟩; refine ⟨_, rfl, ?_⟩) | (go_at_call 36; (with_reducible refine (math_IsInf.calls a0 0 false _ A4.out).mono ?_); rintro e w' ⟨rfl, ⟨nd, rfl⟩⟩) | (go_at_call 37; (with_reducible refine (math_Signbit.calls a0 t347 _ A7.out).mono ?_); rintro e w' ⟨rfl, ⟨nd, rfl⟩⟩))
    go_ret
    exact ⟨by first | rfl | (simp; done) | (simp [*]; done), by repeat (first | exact Drawn0.refl _ | apply Drawn0.step)⟩
   ·rw [if_neg c6] at H
    have c6b0 : (FloatKind.f64.format.order a0 (0 : Nat) == some Ordering.eq) = false := by simpa using c6
    (try (have c6b1 : decide (FloatKind.f64.format.order a0 (0 : Nat) = some Ordering.eq) = false := by simpa using c6))
    (try (have c6b2 : (FloatKind.f64.format.order a0 (0 : Nat) == some Ordering.eq) = false := by simpa using c6))
    (try (have c6b3 : ¬ (FloatKind.f64.format.order a0 (0 : Nat) = some Ordering.eq) := by simpa using c6))
    clear c6
    obtain rfl := Option.some.inj H
    go_enter Try.func25, Try.ntmps25
    go_wp2_with (first | ((with_reducible refine gate_callee (f := 35) rfl ?_); refine goesL_ (some 4) rfl rfl Try.func35 (by kernel_rfl) rfl #[.float .f64 a0] rfl (by (try simp only [lA, lB, lC]); first | done | rfl | (simp only [lD, lE]; rfl)) ?_; (with_reducible refine (math_IsNaN.calls a0 false _ A2.out).mono ?_); rintro e w' ⟨rfl, ⟨nd, rfl⟩⟩; refine ⟨_, rfl, ?_⟩) | (go_at_call 36; (with_reducible refine (math_IsInf.calls a0 0 false _ A4.out).mono ?_); rintro e w' ⟨rfl, ⟨nd, rfl⟩⟩))
    go_ret
    exact ⟨by first | rfl | (simp; done) | (simp [*]; done), by repeat (first | exact Drawn0.refl _ | apply Drawn0.step)⟩

end Go.Proofs.Ytbhnnobpjmnngaa.PFnJoins
