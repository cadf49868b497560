-- Written by a program of this session out of the loaded functions' print; helper lemmas as print.sh lays them.
import Derived.Test.YtbhnnobpjmnngaaUp2
import Derived.Test.YtbhnnobpjmnngaaUp
import Derived.Test.YtbhnnobpjmnngaaRFnJoinsx0
import Derived.Test.YtbhnnobpjmnngaaRFnJoinsx5
import Derived.Test.YtbhnnobpjmnngaaRFnJoinsx7
namespace Go.Proofs.Ytbhnnobpjmnngaa.PFnJoins
open Go.RowKit Go.Proofs.YtbhnnobpjmnngaaW.PrintWords Go.Proofs.YtbhnnobpjmnngaaW.PrintLast Go.Proofs.YtbhnnobpjmnngaaW.PrintMore
attribute [local go_sem] max2_int min2_int max_two min_two max_three min_three max_four min_four go_fstore go_fneg go_fadd go_fsub go_fmul go_fquo go_fmax go_fmin go_fconv go_bits go_frombits  -- for this text's walks alone
set_option linter.unusedVariables false
set_option linter.unusedSimpArgs false

/-! ### spec_BoxHull: function 6 -/
def spec_BoxHull.l0 : Nat → Int → Int → List Nat → List Nat → List Nat → List Nat → List Nat → List Nat → Option (List Nat × List Nat × Bool)
 | 0, _, _, _, _, _, _, _, _ => none
 | k + 1, x18, x19, x360000, x360001, x361000, x361001, x364000, x364001 => if x19 < x18 then (if 0 ≤ x19 then (if x19 < (x360000.length : Int) then (if x19 < (x361000.length : Int) then (if (FloatKind.f64.format.order (rdOf (0 : Nat) x361000 x19) (rdOf (0 : Nat) x360000 x19) == some Ordering.lt) = true then (if x19 < (x360001.length : Int) then (if x19 < (x361001.length : Int) then (if (FloatKind.f64.format.order (rdOf (0 : Nat) x361001 x19) (rdOf (0 : Nat) x360001 x19) == some Ordering.gt) = true then (if x364000.length < 17592186044416 then (if x364001.length < 17592186044416 then (spec_BoxHull.l0 k x18 (wrap64 (x19 + 1)) x360000 x360001 x361000 x361001 (x364000 ++ [rdOf (0 : Nat) x361000 x19]) (x364001 ++ [rdOf (0 : Nat) x361001 x19])) else (none)) else (none)) else (if x364000.length < 17592186044416 then (if x364001.length < 17592186044416 then (spec_BoxHull.l0 k x18 (wrap64 (x19 + 1)) x360000 x360001 x361000 x361001 (x364000 ++ [rdOf (0 : Nat) x361000 x19]) (x364001 ++ [rdOf (0 : Nat) x360001 x19])) else (none)) else (none))) else (none)) else (none)) else (if x19 < (x360001.length : Int) then (if x19 < (x361001.length : Int) then (if (FloatKind.f64.format.order (rdOf (0 : Nat) x361001 x19) (rdOf (0 : Nat) x360001 x19) == some Ordering.gt) = true then (if x364000.length < 17592186044416 then (if x364001.length < 17592186044416 then (spec_BoxHull.l0 k x18 (wrap64 (x19 + 1)) x360000 x360001 x361000 x361001 (x364000 ++ [rdOf (0 : Nat) x360000 x19]) (x364001 ++ [rdOf (0 : Nat) x361001 x19])) else (none)) else (none)) else (if x364000.length < 17592186044416 then (if x364001.length < 17592186044416 then (spec_BoxHull.l0 k x18 (wrap64 (x19 + 1)) x360000 x360001 x361000 x361001 (x364000 ++ [rdOf (0 : Nat) x360000 x19]) (x364001 ++ [rdOf (0 : Nat) x360001 x19])) else (none)) else (none))) else (none)) else (none))) else (none)) else (none)) else (none)) else (some (x364000, x364001, true))
def spec_BoxHull.f (k : Nat) (l0_0 : List Nat) (l0_1 : List Nat) (l1_0 : List Nat) (l1_1 : List Nat) : Option (List Nat × List Nat × Bool) := (spec_l17Pair.f k l0_0 l0_1 l1_0 l1_1).bind fun t362 => (if t362 = true then (spec_BoxHull.l0 k (l0_0.length : Int) 0 l0_0 l0_1 l1_0 l1_1 ([] : List Nat) ([] : List Nat)) else (some (([] : List Nat), ([] : List Nat), false)))
theorem spec_BoxHull.mono_l : ∀ k, (∀ y0 y1 y2 y3 y4 y5 y6 y7, LeO (spec_BoxHull.l0 k y0 y1 y2 y3 y4 y5 y6 y7) (spec_BoxHull.l0 (k + 1) y0 y1 y2 y3 y4 y5 y6 y7))
 | 0 => fun _ _ _ _ _ _ _ _ r h => by simp [spec_BoxHull.l0] at h
 | k + 1 => by
  have ih0 := spec_BoxHull.mono_l k
  ·intro y0 y1 y2 y3 y4 y5 y6 y7
   unfold spec_BoxHull.l0
   repeat' first
   | (with_reducible exact ih0 _ _ _ _ _ _ _ _)
   | (with_reducible exact spec_l17Pair.mono _ _ _ _ _)
   | (with_reducible exact LeO.refl _)
   | (with_reducible exact LeO.none _)
   | (with_reducible refine LeO.ite ?_ ?_)
   | (with_reducible refine LeO.bind ?_ (fun _ => ?_))
   | exact ih0 _ _ _ _ _ _ _ _
   | exact spec_l17Pair.mono _ _ _ _ _
   | exact LeO.none _
   | refine LeO.ite ?_ ?_
   | refine LeO.bind ?_ (fun _ => ?_)
theorem spec_BoxHull.mono : ∀ a0 a1 a2 a3 k, LeO (spec_BoxHull.f k a0 a1 a2 a3) (spec_BoxHull.f (k + 1) a0 a1 a2 a3) := by
 intro a0 a1 a2 a3 k
 have ih0 := spec_BoxHull.mono_l k
 unfold spec_BoxHull.f
 repeat' first
   | (with_reducible exact ih0 _ _ _ _ _ _ _ _)
   | (with_reducible exact spec_l17Pair.mono _ _ _ _ _)
   | (with_reducible exact LeO.refl _)
   | (with_reducible exact LeO.none _)
   | (with_reducible refine LeO.ite ?_ ?_)
   | (with_reducible refine LeO.bind ?_ (fun _ => ?_))
   | exact ih0 _ _ _ _ _ _ _ _
   | exact spec_l17Pair.mono _ _ _ _ _
   | exact LeO.none _
   | refine LeO.ite ?_ ?_
   | refine LeO.bind ?_ (fun _ => ?_)
set_option maxHeartbeats 8000000 in
set_option maxRecDepth 100000 in
theorem spec_BoxHull.calls (k : Nat) (A0_0 : Option Addr) (c0_0 : Nat) (l0_0 : List Nat) (A0_1 : Option Addr) (c0_1 : Nat) (l0_1 : List Nat) (A1_0 : Option Addr) (c1_0 : Nat) (l1_0 : List Nat) (A1_1 : Option Addr) (c1_1 : Nat) (l1_1 : List Nat) (r1 : List Nat) (r2 : List Nat) (r3 : Bool) (w : World) (hr0_0 : Kd.C Kd.flt w A0_0 l0_0.length l0_0) (hc0_0 : l0_0.length ≤ c0_0) (hr0_1 : Kd.C Kd.flt w A0_1 l0_1.length l0_1) (hc0_1 : l0_1.length ≤ c0_1) (hr1_0 : Kd.C Kd.flt w A1_0 l1_0.length l1_0) (hc1_0 : l1_0.length ≤ c1_0) (hr1_1 : Kd.C Kd.flt w A1_1 l1_1.length l1_1) (hc1_1 : l1_1.length ≤ c1_1) (h : spec_BoxHull.f k l0_0 l0_1 l1_0 l1_1 = some (r1, r2, r3)) :
  Calls Try.prog 6 #[.agg #[.slice A0_0 l0_0.length c0_0, .slice A0_1 l0_1.length c0_1], .agg #[.slice A1_0 l1_0.length c1_0, .slice A1_1 l1_1.length c1_1]] w fun e w' => ∃ v0_ v1_ : Value, e = .returned (.tuple #[.agg #[v0_, v1_], .bool r3]) ∧ Kd.R Kd.flt 33 w' w.heap.size (fun k_ => N_ v1_ k_) v0_ r1 ∧ Kd.R Kd.flt 33 w' w.heap.size (fun k_ => N_ v0_ k_) v1_ r2 ∧ Below w.heap.size w w' := by
 have hu25 := Try.underlying25
 have HR0_0 := Aside0.mk hr0_0
 have HC0_0 := Aside0.mk hc0_0
 clear hr0_0 hc0_0
 have HR0_1 := Aside0.mk hr0_1
 have HC0_1 := Aside0.mk hc0_1
 clear hr0_1 hc0_1
 have HR1_0 := Aside0.mk hr1_0
 have HC1_0 := Aside0.mk hc1_0
 clear hr1_0 hc1_0
 have HR1_1 := Aside0.mk hr1_1
 have HC1_1 := Aside0.mk hc1_1
 clear hr1_1 hc1_1
 have HB := a_ (Below.refl w.heap.size w)
 have H : ((spec_l17Pair.f k l0_0 l0_1 l1_0 l1_1).bind fun t362 => (if t362 = true then (spec_BoxHull.l0 k (l0_0.length : Int) 0 l0_0 l0_1 l1_0 l1_1 ([] : List Nat) ([] : List Nat)) else (some (([] : List Nat), ([] : List Nat), false)))) = some (r1, r2, r3) := h
 clear h
 replace H := Option.bind_eq_some_iff.mp H
 obtain ⟨t362, A30, H⟩ := H
 replace H : (if t362 = true then (spec_BoxHull.l0 k (l0_0.length : Int) 0 l0_0 l0_1 l1_0 l1_1 ([] : List Nat) ([] : List Nat)) else (some (([] : List Nat), ([] : List Nat), false))) = some (r1, r2, r3) := H
 have A3 := Aside0.mk A30
 clear A30
 by_cases c4 : t362 = true
 ·subst c4
  have H1 : (spec_BoxHull.l0 k (l0_0.length : Int) 0 l0_0 l0_1 l1_0 l1_1 ([] : List Nat) ([] : List Nat)) = some (r1, r2, r3) := by rw [if_pos rfl] at H; exact H
  clear H
  have H := H1
  clear H1
  have H' := Aside0.mk H
  clear H
  go_enter Try.func6, Try.ntmps6
  go_wp2_with (first | ((with_reducible refine gate_dst (N := 2) rfl ?_); refine box_event ?hg (N := 2) ?hd (cs := #[.slice A0_0 l0_0.length c0_0, .slice A0_1 l0_1.length c0_1]) (t := 25) ?hr ?_; (case hd => rfl); (case hg => rfl); (case hr => first | (go_simp; done) | (go_simp; rfl)); intro gb359 hg w5 hbox hb; have BK359 := a_ (hbox); have GW359 := a_ (bsg hg HB.out); have GE359 := a_ (bsg hg HB.out); replace HB := a_ (below_step (un HB.out) hb); clear hb hbox hg) | ((with_reducible refine gate_dst (N := 3) rfl ?_); refine box_event ?hg (N := 3) ?hd (cs := #[.slice A1_0 l1_0.length c1_0, .slice A1_1 l1_1.length c1_1]) (t := 25) ?hr ?_; (case hd => rfl); (case hg => rfl); (case hr => first | (go_simp; done) | (go_simp; rfl)); intro gb360 hg w6 hbox hb; have BK360 := a_ (hbox); have GW360 := a_ (bsg hg HB.out); have GE360 := a_ (bsg hg HB.out); replace HB := a_ (below_step (by repeat (with_reducible first | exact HB.out | refine bz ?_ (by assumption) | apply bA | apply bN | apply bD)) hb); have NB359_360 := a_ (nel hg BK359.out); have NB360_359 := a_ (nle hg BK359.out); replace BK359 := a_ (blk_below (pk BK359.out) hb); clear hb hbox hg) | ((with_reducible refine gate_dst (N := 4) rfl ?_); refine box_event ?hg (N := 4) ?hd (cs := #[.slice none 0 0, .slice none 0 0]) (t := 25) ?hr ?_; (case hd => rfl); (case hg => rfl); (case hr => first | (go_simp; done) | (go_simp; rfl)); intro gb361 hg w7 hbox hb; have BK361 := a_ (hbox); have GW361 := a_ (bsg hg HB.out); have GE361 := a_ (bsg hg HB.out); replace HB := a_ (below_step (by repeat (with_reducible first | exact HB.out | refine bz ?_ (by assumption) | apply bA | apply bN | apply bD)) hb); have NB359_361 := a_ (nel hg BK359.out); have NB361_359 := a_ (nle hg BK359.out); replace BK359 := a_ (blk_below (pk BK359.out) hb); have NB360_361 := a_ (nel hg BK360.out); have NB361_360 := a_ (nle hg BK360.out); replace BK360 := a_ (blk_below (pk BK360.out) hb); clear hb hbox hg; have hnb8 := NB359_360.out; have hnc8 := NB360_359.out; have hnb9 := NB359_361.out; have hnc9 := NB361_359.out; have hcz10_0 : _ = some (Value.slice A0_0 l0_0.length c0_0) := (blk_cell BK359.out 0).trans rfl; have hcz10_1 : _ = some (Value.slice A0_1 l0_1.length c0_1) := (blk_cell BK359.out 1).trans rfl; have hfz10_0 := blk_frozen BK359.out 0; have hfz10_1 := blk_frozen BK359.out 1; have hnb11 := NB360_361.out; have hnc11 := NB361_360.out; have hcz12_0 : _ = some (Value.slice A1_0 l1_0.length c1_0) := (blk_cell BK360.out 0).trans rfl; have hcz12_1 : _ = some (Value.slice A1_1 l1_1.length c1_1) := (blk_cell BK360.out 1).trans rfl; have hfz12_0 := blk_frozen BK360.out 0; have hfz12_1 := blk_frozen BK360.out 1) | ((with_reducible refine gate_callee (f := 13) rfl ?_); refine goesL_ (some 12) rfl rfl Try.func13 (by kernel_rfl) rfl #[.agg #[.slice A0_0 l0_0.length c0_0, .slice A0_1 l0_1.length c0_1], .agg #[.slice A1_0 l1_0.length c1_0, .slice A1_1 l1_1.length c1_1]] rfl (by (try simp only [lA, lB, lC]); first | done | rfl | (simp only [lD, lE]; rfl)) ?_; (with_reducible refine (spec_l17Pair.calls k _ _ l0_0 _ _ l0_1 _ _ l1_0 _ _ l1_1 true _ ?side1 ?side2 ?side3 ?side4 ?side5 ?side6 ?side7 ?side8 A3.out).mono ?_); (case side1 => exact Kd.C_below HR0_0.out (un HB.out)); (case side2 => exact HC0_0.out); (case side3 => exact Kd.C_below HR0_1.out (un HB.out)); (case side4 => exact HC0_1.out); (case side5 => exact Kd.C_below HR1_0.out (un HB.out)); (case side6 => exact HC1_0.out); (case side7 => exact Kd.C_below HR1_1.out (un HB.out)); (case side8 => exact HC1_1.out); rintro e w13 ⟨rfl, hb⟩; refine ⟨_, rfl, ?_⟩; replace BK359 := a_ (blk_below (pk BK359.out) hb); replace BK360 := a_ (blk_below (pk BK360.out) hb); replace BK361 := a_ (blk_below (pk BK361.out) hb); replace HB := a_ (below_step (by repeat (with_reducible first | exact HB.out | refine bz ?_ (by assumption) | apply bA | apply bN | apply bD)) hb); clear hb) | ((with_reducible refine gate_dst (N := 6) rfl ?_); refine box_event ?hg (N := 6) ?hd (cs := #[.slice none 0 0, .slice none 0 0]) (t := 25) ?hr ?_; (case hd => rfl); (case hg => rfl); (case hr => first | (go_simp; done) | (go_simp; rfl)); intro gb363 hg w14 hbox hb; have BK363 := a_ (hbox); have GW363 := a_ (bsg hg HB.out); have GE363 := a_ (bsg hg HB.out); replace HB := a_ (below_step (by repeat (with_reducible first | exact HB.out | refine bz ?_ (by assumption) | apply bA | apply bN | apply bD)) hb); have NB359_363 := a_ (nel hg BK359.out); have NB363_359 := a_ (nle hg BK359.out); replace BK359 := a_ (blk_below (pk BK359.out) hb); have NB360_363 := a_ (nel hg BK360.out); have NB363_360 := a_ (nle hg BK360.out); replace BK360 := a_ (blk_below (pk BK360.out) hb); have NB361_363 := a_ (nel hg BK361.out); have NB363_361 := a_ (nle hg BK361.out); replace BK361 := a_ (blk_below (pk BK361.out) hb); clear hb hbox hg; have hnb15 := NB363_359.out; have hnc15 := NB359_363.out; have hnb16 := NB363_360.out; have hnc16 := NB360_363.out; have hnb17 := NB363_361.out; have hnc17 := NB361_363.out; have hcz18_0 : _ = some (Value.slice none 0 0) := (blk_cell BK363.out 0).trans rfl; have hcz18_1 : _ = some (Value.slice none 0 0) := (blk_cell BK363.out 1).trans rfl; have hfz18_0 := blk_frozen BK363.out 0; have hfz18_1 := blk_frozen BK363.out 1; have hcz19_0 : _ = some (Value.slice A0_0 l0_0.length c0_0) := (blk_cell BK359.out 0).trans rfl; have hcz19_1 : _ = some (Value.slice A0_1 l0_1.length c0_1) := (blk_cell BK359.out 1).trans rfl; have hfz19_0 := blk_frozen BK359.out 0; have hfz19_1 := blk_frozen BK359.out 1))
  go_loopg [19] k (fun kq v19 w' => ∃ (x19_1 : Int) (x364000_1 : List Nat) (x364001_1 : List Nat) (u364000 : Value) (u364001 : Value), v19 = .int .i64 x19_1 ∧ Aside0 (spec_BoxHull.l0 kq (l0_0.length : Int) x19_1 l0_0 l0_1 l1_0 l1_1 x364000_1 x364001_1 = some (r1, r2, r3)) ∧ Aside0 (kq ≤ k) ∧ Aside0 (Kd.R Kd.flt 33 w' w.heap.size (fun k_ => some k_ ≠ (u364001 : Value).ownBlock) u364000 x364000_1) ∧ Aside0 (Kd.R Kd.flt 33 w' w.heap.size (fun k_ => some k_ ≠ (u364000 : Value).ownBlock) u364001 x364001_1) ∧ Aside0 (w'.heap[gb359]? = some (.cells #[(.slice A0_0 l0_0.length c0_0), (.slice A0_1 l0_1.length c0_1)] 25 (0, 0))) ∧ Aside0 (w'.heap[gb360]? = some (.cells #[(.slice A1_0 l1_0.length c1_0), (.slice A1_1 l1_1.length c1_1)] 25 (0, 0))) ∧ Aside0 (w'.heap[gb361]? = some (.cells #[(.slice none 0 0), (.slice none 0 0)] 25 (0, 0))) ∧ Aside0 (w'.heap[gb363]? = some (.cells #[u364000, u364001] 25 (0, 0))) ∧ Aside0 (Below w.heap.size w w'))
  case atStart => exact ⟨(0), (([] : List Nat)), (([] : List Nat)), (.slice none 0 0), (.slice none 0 0), (by first | rfl | (simp; done) | (simp [*]; done)), H', ⟨Nat.le_refl _⟩, ⟨by first | exact Kd.R_nil _ _ _ _ _ | exact Kd.N_nil _ _ _ _ _ | exact Kd.V_nil _ _ _ _ _ | exact Kd.Q_nil _ _ _ _ _ | exact Kd.S_nil _ _ _ _ _⟩, ⟨by first | exact Kd.R_nil _ _ _ _ _ | exact Kd.N_nil _ _ _ _ _ | exact Kd.V_nil _ _ _ _ _ | exact Kd.Q_nil _ _ _ _ _ | exact Kd.S_nil _ _ _ _ _⟩, ⟨by refine pk ?_; refine blk_far ?_ NB359_363.out _; refine pk ?_; refine blk_far ?_ NB359_363.out _; refine pk ?_; exact BK359.out⟩, ⟨by refine pk ?_; refine blk_far ?_ NB360_363.out _; refine pk ?_; refine blk_far ?_ NB360_363.out _; refine pk ?_; exact BK360.out⟩, ⟨by refine pk ?_; refine blk_far ?_ NB361_363.out _; refine pk ?_; refine blk_far ?_ NB361_363.out _; refine pk ?_; exact BK361.out⟩, ⟨by refine pk ?_; refine blk_put (cs := #[.slice none 0 0, .slice none 0 0]) ?_ 1 _ rfl; refine pk ?_; refine blk_put (cs := #[.slice none 0 0, .slice none 0 0]) ?_ 0 _ rfl; refine pk ?_; exact BK363.out⟩, ⟨by repeat (with_reducible first | exact HB.out | refine bz ?_ (by assumption) | apply bA | apply bN | apply bD)⟩⟩
  case round =>
   clear H'
   try clear c1; try clear p2; try clear c4; try clear c6; try clear c8; try clear c9; try clear c11; try clear c13; try clear c15; try clear c16; try clear c17; try clear hcz10_0; try clear hcz10_1; try clear hcz12_0; try clear hcz12_1; try clear hcz18_0; try clear hcz18_1; try clear hcz19_0; try clear hcz19_1; try clear hfz10_0; try clear hfz10_1; try clear hfz12_0; try clear hfz12_1; try clear hfz18_0; try clear hfz18_1; try clear hfz19_0; try clear hfz19_1
   obtain ⟨x19_1, x364000_1, x364001_1, u364000, u364001, rfl, HA, HK1, HO_364000, HO_364001, BK359, BK360, BK361, BK363, HB⟩ := hrel
   cases gk with
   | zero => exact absurd HA.out (by simp [spec_BoxHull.l0])
   | succ k1 =>
    have H := HA.out
    clear HA
    simp only [spec_BoxHull.l0] at H
    by_cases c20 : x19_1 < (l0_0.length : Int)
    ·rw [if_pos c20] at H
     have c20b0 : decide (x19_1 < (l0_0.length : Int)) = true := decide_eq_true c20
     clear c20
     by_cases c21 : 0 ≤ x19_1
     ·rw [if_pos c21] at H
      have c21b0 : decide (0 ≤ x19_1) = true := decide_eq_true c21
      clear c21
      by_cases c22 : x19_1 < (l0_0.length : Int)
      ·rw [if_pos c22] at H
       have c22b0 : decide (x19_1 < (l0_0.length : Int)) = true := decide_eq_true c22
       clear c22
       by_cases c23 : x19_1 < (l1_0.length : Int)
       ·rw [if_pos c23] at H
        have c23b0 : decide (x19_1 < (l1_0.length : Int)) = true := decide_eq_true c23
        clear c23
        by_cases c24 : (FloatKind.f64.format.order (rdOf (0 : Nat) l1_0 x19_1) (rdOf (0 : Nat) l0_0 x19_1) == some Ordering.lt) = true
        ·rw [if_pos c24] at H
         have c24b0 : (FloatKind.f64.format.order (rdOf (0 : Nat) l1_0 x19_1) (rdOf (0 : Nat) l0_0 x19_1) == some Ordering.lt) = true := c24
         (try (have c24b1 : decide (FloatKind.f64.format.order (rdOf (0 : Nat) l1_0 x19_1) (rdOf (0 : Nat) l0_0 x19_1) = some Ordering.lt) = true := by simpa using c24))
         (try (have c24b2 : (FloatKind.f64.format.order (rdOf (0 : Nat) l1_0 x19_1) (rdOf (0 : Nat) l0_0 x19_1) == some Ordering.lt) = true := by simpa using c24))
         clear c24
         by_cases c25 : x19_1 < (l0_1.length : Int)
         ·rw [if_pos c25] at H
          have c25b0 : decide (x19_1 < (l0_1.length : Int)) = true := decide_eq_true c25
          clear c25
          by_cases c26 : x19_1 < (l1_1.length : Int)
          ·rw [if_pos c26] at H
           have c26b0 : decide (x19_1 < (l1_1.length : Int)) = true := decide_eq_true c26
           clear c26
           by_cases c27 : (FloatKind.f64.format.order (rdOf (0 : Nat) l1_1 x19_1) (rdOf (0 : Nat) l0_1 x19_1) == some Ordering.gt) = true
           ·rw [if_pos c27] at H
            have c27b0 : (FloatKind.f64.format.order (rdOf (0 : Nat) l1_1 x19_1) (rdOf (0 : Nat) l0_1 x19_1) == some Ordering.gt) = true := c27
            (try (have c27b1 : decide (FloatKind.f64.format.order (rdOf (0 : Nat) l1_1 x19_1) (rdOf (0 : Nat) l0_1 x19_1) = some Ordering.gt) = true := by simpa using c27))
            (try (have c27b2 : (FloatKind.f64.format.order (rdOf (0 : Nat) l1_1 x19_1) (rdOf (0 : Nat) l0_1 x19_1) == some Ordering.gt) = true := by simpa using c27))
            clear c27
            by_cases c28 : x364000_1.length < 17592186044416
            ·rw [if_pos c28] at H
             have LMc28 := Aside0.mk c28
             clear c28
             obtain ⟨y370, hy370⟩ : ∃ y_ : List Nat, y_ = (x364000_1 ++ [rdOf (0 : Nat) l1_0 x19_1]) := ⟨_, rfl⟩
             replace H : (if x364001_1.length < 17592186044416 then (spec_BoxHull.l0 k1 (l0_0.length : Int) (wrap64 (x19_1 + 1)) l0_0 l0_1 l1_0 l1_1 y370 (x364001_1 ++ [rdOf (0 : Nat) l1_1 x19_1])) else (none)) = some (r1, r2, r3) := by first | (rw [hy370]; with_reducible exact H) | (have H2_ := (Option.bind_some _ _).symm.trans H; rw [hy370]; with_reducible exact H2_) | (have H2_ := (Option.bind_some _ _).symm.trans H; with_reducible exact H2_) | with_reducible exact H | (rw [hy370]; exact H) | exact H
             have Ny370 := Aside0.mk hy370
             clear hy370
             by_cases c29 : x364001_1.length < 17592186044416
             ·rw [if_pos c29] at H
              have LMc29 := Aside0.mk c29
              clear c29
              obtain ⟨y373, hy373⟩ : ∃ y_ : List Nat, y_ = (x364001_1 ++ [rdOf (0 : Nat) l1_1 x19_1]) := ⟨_, rfl⟩
              replace H : (spec_BoxHull.l0 k1 (l0_0.length : Int) (wrap64 (x19_1 + 1)) l0_0 l0_1 l1_0 l1_1 y370 y373) = some (r1, r2, r3) := by first | (rw [hy373]; with_reducible exact H) | (have H2_ := (Option.bind_some _ _).symm.trans H; rw [hy373]; with_reducible exact H2_) | (have H2_ := (Option.bind_some _ _).symm.trans H; with_reducible exact H2_) | with_reducible exact H | (rw [hy373]; exact H) | exact H
              have Ny373 := Aside0.mk hy373
              clear hy373
              have H' := Aside0.mk H
              clear H
              have hnb30 := NB359_360.out
              have hnc30 := NB360_359.out
              have hnb31 := NB359_361.out
              have hnc31 := NB361_359.out
              have hnb32 := NB359_363.out
              have hnc32 := NB363_359.out
              have hcz33_0 : wr.cell? ⟨gb359, 0, none⟩ = some (.slice A0_0 l0_0.length c0_0) := (blk_cell BK359.out 0).trans rfl
              have hcz33_1 : wr.cell? ⟨gb359, 1, none⟩ = some (.slice A0_1 l0_1.length c0_1) := (blk_cell BK359.out 1).trans rfl
              have hfz33_0 := blk_frozen BK359.out 0
              have hfz33_1 := blk_frozen BK359.out 1
              have p364 : 0 ≤ (x19_1 : Int) := of_decide_eq_true (by first | (with_reducible assumption) | assumption)
              have q364 : x19_1 < (l0_0.length : Int) := of_decide_eq_true (by first | (with_reducible assumption) | assumption)
              obtain ⟨ad364, e364, hx364_0⟩ := Kd.at_flt HR0_0.out x19_1 p364 q364
              cases e364
              replace hx364_0 := (HB.out.cell (World.block_lt_of_cell? w _ hx364_0)).trans hx364_0
              replace p364 := eq_true p364
              replace q364 := eq_true q364
              have hnb34 := NB360_361.out
              have hnc34 := NB361_360.out
              have hnb35 := NB360_363.out
              have hnc35 := NB363_360.out
              have hcz36_0 : wr.cell? ⟨gb360, 0, none⟩ = some (.slice A1_0 l1_0.length c1_0) := (blk_cell BK360.out 0).trans rfl
              have hcz36_1 : wr.cell? ⟨gb360, 1, none⟩ = some (.slice A1_1 l1_1.length c1_1) := (blk_cell BK360.out 1).trans rfl
              have hfz36_0 := blk_frozen BK360.out 0
              have hfz36_1 := blk_frozen BK360.out 1
              have p365 : 0 ≤ (x19_1 : Int) := of_decide_eq_true (by first | (with_reducible assumption) | assumption)
              have q365 : x19_1 < (l1_0.length : Int) := of_decide_eq_true (by first | (with_reducible assumption) | assumption)
              obtain ⟨ad365, e365, hx365_0⟩ := Kd.at_flt HR1_0.out x19_1 p365 q365
              cases e365
              replace hx365_0 := (HB.out.cell (World.block_lt_of_cell? w _ hx365_0)).trans hx365_0
              replace p365 := eq_true p365
              replace q365 := eq_true q365
              have p366 : 0 ≤ (x19_1 : Int) := of_decide_eq_true (by first | (with_reducible assumption) | assumption)
              have q366 : x19_1 < (l1_0.length : Int) := of_decide_eq_true (by first | (with_reducible assumption) | assumption)
              obtain ⟨ad366, e366, hx366_0⟩ := Kd.at_flt HR1_0.out x19_1 p366 q366
              obtain rfl : ad365 = ad366 := (by injection e366)
              replace hx366_0 := (HB.out.cell (World.block_lt_of_cell? w _ hx366_0)).trans hx366_0
              replace p366 := eq_true p366
              replace q366 := eq_true q366
              have p367 : 0 ≤ (x19_1 : Int) := of_decide_eq_true (by first | (with_reducible assumption) | assumption)
              have q367 : x19_1 < (l0_1.length : Int) := of_decide_eq_true (by first | (with_reducible assumption) | assumption)
              obtain ⟨ad367, e367, hx367_0⟩ := Kd.at_flt HR0_1.out x19_1 p367 q367
              cases e367
              replace hx367_0 := (HB.out.cell (World.block_lt_of_cell? w _ hx367_0)).trans hx367_0
              replace p367 := eq_true p367
              replace q367 := eq_true q367
              have p368 : 0 ≤ (x19_1 : Int) := of_decide_eq_true (by first | (with_reducible assumption) | assumption)
              have q368 : x19_1 < (l1_1.length : Int) := of_decide_eq_true (by first | (with_reducible assumption) | assumption)
              obtain ⟨ad368, e368, hx368_0⟩ := Kd.at_flt HR1_1.out x19_1 p368 q368
              cases e368
              replace hx368_0 := (HB.out.cell (World.block_lt_of_cell? w _ hx368_0)).trans hx368_0
              replace p368 := eq_true p368
              replace q368 := eq_true q368
              have p369 : 0 ≤ (x19_1 : Int) := of_decide_eq_true (by first | (with_reducible assumption) | assumption)
              have q369 : x19_1 < (l1_1.length : Int) := of_decide_eq_true (by first | (with_reducible assumption) | assumption)
              obtain ⟨ad369, e369, hx369_0⟩ := Kd.at_flt HR1_1.out x19_1 p369 q369
              obtain rfl : ad368 = ad369 := (by injection e369)
              replace hx369_0 := (HB.out.cell (World.block_lt_of_cell? w _ hx369_0)).trans hx369_0
              replace p369 := eq_true p369
              replace q369 := eq_true q369
              have hnb37 := NB363_361.out
              have hnc37 := NB361_363.out
              have hcz38_0 : wr.cell? ⟨gb363, 0, none⟩ = some (u364000) := (blk_cell BK363.out 0).trans rfl
              have hcz38_1 : wr.cell? ⟨gb363, 1, none⟩ = some (u364001) := (blk_cell BK363.out 1).trans rfl
              have hfz38_0 := blk_frozen BK363.out 0
              have hfz38_1 := blk_frozen BK363.out 1
              go_wp2_with (first | ((with_reducible refine gate_builtin (b := .append) (xs := #[.tmp 57, .tmp 59]) rfl ?_); at_builtin; refine Kd.R_append Kd.flt (w0 := w) w.heap.size rfl (.tmp 57) (.tmp 59) 23 33 (.float .f64 0) 8 rfl Try.underlying23 info33 rfl (by decide) (by omega) u364000 x364000_1 (rdOf (0 : Nat) l1_0 x19_1) [.float .f64 (rdOf (0 : Nat) l1_0 x19_1)] (fun k_ => some k_ ≠ (u364001 : Value).ownBlock) (fun _ => False) rfl rfl ?aP (fun _ hk => hk.elim) ?aF ?aO ?aB ?aS ?aL ?_; (case aP => exact rfl); (case aB => exact (by repeat (with_reducible first | exact HB.out | refine bz ?_ (by assumption) | apply bA | apply bN | apply bD))); (case aF => exact (fun k_ hk => Kd.fresh' (Kd.R_lt (rk HO_364001.out)) k_ hk)); (case aO => exact (rk HO_364000.out)); (case aS => exact (bs HB.out)); (case aL => have := LMc28.out; omega); intro v371 w39 ho hb hg hat; rw [← Ny370.out] at ho; replace HO_364001 := a_ (Kd.R_after (ok := (fun _ => True)) (rk (Kd.R_mono HO_364001.out (fun _ hk => ⟨trivial, hk⟩))) hg hat); replace BK359 := a_ (blk_grown (pk BK359.out) hg (Kd.R_ne HO_364000.out BK359.out (by decide))); replace BK360 := a_ (blk_grown (pk BK360.out) hg (Kd.R_ne HO_364000.out BK360.out (by decide))); replace BK361 := a_ (blk_grown (pk BK361.out) hg (Kd.R_ne HO_364000.out BK361.out (by decide))); replace BK363 := a_ (blk_grown (pk BK363.out) hg (Kd.R_ne HO_364000.out BK363.out (by decide))); replace HB := a_ (hb); have HO372 := a_ (ho); clear HO_364000 ho hb hg hat; obtain ⟨Ao40, co40, eo40⟩ := Kd.R_slice HO372.out; subst eo40; have hcz41_0 : w39.cell? ⟨gb363, 0, none⟩ = some (u364000) := (blk_cell BK363.out 0).trans rfl; have hcz41_1 : w39.cell? ⟨gb363, 1, none⟩ = some (u364001) := (blk_cell BK363.out 1).trans rfl; have hfz41_0 := blk_frozen BK363.out 0; have hfz41_1 := blk_frozen BK363.out 1) | ((with_reducible refine gate_builtin (b := .append) (xs := #[.tmp 63, .tmp 65]) rfl ?_); at_builtin; refine Kd.R_append Kd.flt (w0 := w) w.heap.size rfl (.tmp 63) (.tmp 65) 23 33 (.float .f64 0) 8 rfl Try.underlying23 info33 rfl (by decide) (by omega) u364001 x364001_1 (rdOf (0 : Nat) l1_1 x19_1) [.float .f64 (rdOf (0 : Nat) l1_1 x19_1)] (fun k_ => N_ (.slice Ao40 y370.length co40) k_) (fun _ => False) rfl (by first | (go_simp; done) | (go_simp; rfl)) ?aP (fun _ hk => hk.elim) ?aF ?aO ?aB ?aS ?aL ?_; (case aP => exact rfl); (case aB => exact (by repeat (with_reducible first | exact HB.out | refine bz ?_ (by assumption) | apply bA | apply bN | apply bD))); (case aF => exact (fun k_ hk => Kd.fresh' (Kd.R_lt (rk (Kd.R_mono (fr1 HO372.out BK363.out (by decide) 0 (.slice Ao40 y370.length co40)) (fun _ h_ => h_.1)))) k_ hk)); (case aO => exact (rk (Kd.R_mono (fr1 HO_364001.out BK363.out (by decide) 0 (.slice Ao40 y370.length co40)) (fun _ hk => hk.1.2)))); (case aS => exact (bs HB.out)); (case aL => have := LMc29.out; omega); intro v374 w42 ho hb hg hat; rw [← Ny373.out] at ho; replace BK359 := a_ (blk_grown (g := gb359) (o := .cells #[.slice (some ad364) l0_0.length c0_0, .slice (some ad367) l0_1.length c0_1] 25 (0, 0)) (by refine pk ?_; refine blk_far ?_ NB359_363.out _; refine pk ?_; exact BK359.out) hg (Kd.R_ne HO_364001.out BK359.out (by decide))); replace BK360 := a_ (blk_grown (g := gb360) (o := .cells #[.slice (some ad365) l1_0.length c1_0, .slice (some ad368) l1_1.length c1_1] 25 (0, 0)) (by refine pk ?_; refine blk_far ?_ NB360_363.out _; refine pk ?_; exact BK360.out) hg (Kd.R_ne HO_364001.out BK360.out (by decide))); replace BK361 := a_ (blk_grown (g := gb361) (o := .cells #[.slice none 0 0, .slice none 0 0] 25 (0, 0)) (by refine pk ?_; refine blk_far ?_ NB361_363.out _; refine pk ?_; exact BK361.out) hg (Kd.R_ne HO_364001.out BK361.out (by decide))); replace HO372 := a_ (Kd.R_after (ok := (fun _ => True)) (rk (Kd.R_mono (fr1 HO372.out BK363.out (by decide) 0 (.slice Ao40 y370.length co40)) (fun _ hk => ⟨trivial, hk.1⟩))) hg hat); replace BK363 := a_ (blk_grown (g := gb363) (o := .cells #[.slice Ao40 y370.length co40, u364001] 25 (0, 0)) (by refine pk ?_; refine blk_put (cs := #[u364000, u364001]) ?_ 0 _ rfl; refine pk ?_; exact BK363.out) hg (Kd.R_ne HO_364001.out BK363.out (by decide))); replace HB := a_ (hb); have HO375 := a_ (ho); clear HO_364001 ho hb hg hat; obtain ⟨Ao43, co43, eo43⟩ := Kd.R_slice HO375.out; subst eo43; have hcz44_0 : _ = some (Value.slice Ao40 y370.length co40) := (blk_cell BK363.out 0).trans rfl; have hcz44_1 : w42.cell? ⟨gb363, 1, none⟩ = some (u364001) := (blk_cell BK363.out 1).trans rfl; have hfz44_0 := blk_frozen BK363.out 0; have hfz44_1 := blk_frozen BK363.out 1))
              go_roundg k1
              case measure => have := HK1.out; omega
              case rel => exact ⟨(wrap64 (x19_1 + 1)), (y370), (y373), (.slice Ao40 y370.length co40), (.slice Ao43 y373.length co43), (by first | rfl | (simp; done) | (simp [*]; done)), H', ⟨by have := HK1.out; omega⟩, ⟨rk (Kd.R_mono (fr1 HO372.out BK363.out (by decide) 1 (.slice Ao43 y373.length co43)) (fun _ hk => hk.1.2))⟩, ⟨rk (Kd.R_mono (fr1 HO375.out BK363.out (by decide) 1 (.slice Ao43 y373.length co43)) (fun _ hk => hk.1))⟩, ⟨by refine pk ?_; refine blk_far ?_ NB359_363.out _; refine pk ?_; exact BK359.out⟩, ⟨by refine pk ?_; refine blk_far ?_ NB360_363.out _; refine pk ?_; exact BK360.out⟩, ⟨by refine pk ?_; refine blk_far ?_ NB361_363.out _; refine pk ?_; exact BK361.out⟩, ⟨by refine pk ?_; refine blk_put (cs := #[.slice Ao40 y370.length co40, u364001]) ?_ 1 _ rfl; refine pk ?_; exact BK363.out⟩, ⟨by repeat (with_reducible first | exact HB.out | refine bz ?_ (by assumption) | apply bA | apply bN | apply bD)⟩⟩
             ·rw [if_neg c29] at H
              exact absurd H (by simp)
            ·rw [if_neg c28] at H
             exact absurd H (by simp)
           ·rw [if_neg c27] at H
            have c27b0 : (FloatKind.f64.format.order (rdOf (0 : Nat) l1_1 x19_1) (rdOf (0 : Nat) l0_1 x19_1) == some Ordering.gt) = false := by simpa using c27
            (try (have c27b1 : decide (FloatKind.f64.format.order (rdOf (0 : Nat) l1_1 x19_1) (rdOf (0 : Nat) l0_1 x19_1) = some Ordering.gt) = false := by simpa using c27))
            (try (have c27b2 : (FloatKind.f64.format.order (rdOf (0 : Nat) l1_1 x19_1) (rdOf (0 : Nat) l0_1 x19_1) == some Ordering.gt) = false := by simpa using c27))
            (try (have c27b3 : ¬ (FloatKind.f64.format.order (rdOf (0 : Nat) l1_1 x19_1) (rdOf (0 : Nat) l0_1 x19_1) = some Ordering.gt) := by simpa using c27))
            clear c27
            by_cases c45 : x364000_1.length < 17592186044416
            ·rw [if_pos c45] at H
             have LMc45 := Aside0.mk c45
             clear c45
             obtain ⟨y376, hy376⟩ : ∃ y_ : List Nat, y_ = (x364000_1 ++ [rdOf (0 : Nat) l1_0 x19_1]) := ⟨_, rfl⟩
             replace H : (if x364001_1.length < 17592186044416 then (spec_BoxHull.l0 k1 (l0_0.length : Int) (wrap64 (x19_1 + 1)) l0_0 l0_1 l1_0 l1_1 y376 (x364001_1 ++ [rdOf (0 : Nat) l0_1 x19_1])) else (none)) = some (r1, r2, r3) := by first | (rw [hy376]; with_reducible exact H) | (have H2_ := (Option.bind_some _ _).symm.trans H; rw [hy376]; with_reducible exact H2_) | (have H2_ := (Option.bind_some _ _).symm.trans H; with_reducible exact H2_) | with_reducible exact H | (rw [hy376]; exact H) | exact H
             have Ny376 := Aside0.mk hy376
             clear hy376
             by_cases c46 : x364001_1.length < 17592186044416
             ·rw [if_pos c46] at H
              have LMc46 := Aside0.mk c46
              clear c46
              obtain ⟨y379, hy379⟩ : ∃ y_ : List Nat, y_ = (x364001_1 ++ [rdOf (0 : Nat) l0_1 x19_1]) := ⟨_, rfl⟩
              replace H : (spec_BoxHull.l0 k1 (l0_0.length : Int) (wrap64 (x19_1 + 1)) l0_0 l0_1 l1_0 l1_1 y376 y379) = some (r1, r2, r3) := by first | (rw [hy379]; with_reducible exact H) | (have H2_ := (Option.bind_some _ _).symm.trans H; rw [hy379]; with_reducible exact H2_) | (have H2_ := (Option.bind_some _ _).symm.trans H; with_reducible exact H2_) | with_reducible exact H | (rw [hy379]; exact H) | exact H
              have Ny379 := Aside0.mk hy379
              clear hy379
              have H' := Aside0.mk H
              clear H
              have hnb47 := NB359_360.out
              have hnc47 := NB360_359.out
              have hnb48 := NB359_361.out
              have hnc48 := NB361_359.out
              have hnb49 := NB359_363.out
              have hnc49 := NB363_359.out
              have hcz50_0 : wr.cell? ⟨gb359, 0, none⟩ = some (.slice A0_0 l0_0.length c0_0) := (blk_cell BK359.out 0).trans rfl
              have hcz50_1 : wr.cell? ⟨gb359, 1, none⟩ = some (.slice A0_1 l0_1.length c0_1) := (blk_cell BK359.out 1).trans rfl
              have hfz50_0 := blk_frozen BK359.out 0
              have hfz50_1 := blk_frozen BK359.out 1
              have p364 : 0 ≤ (x19_1 : Int) := of_decide_eq_true (by first | (with_reducible assumption) | assumption)
              have q364 : x19_1 < (l0_0.length : Int) := of_decide_eq_true (by first | (with_reducible assumption) | assumption)
              obtain ⟨ad364, e364, hx364_0⟩ := Kd.at_flt HR0_0.out x19_1 p364 q364
              cases e364
              replace hx364_0 := (HB.out.cell (World.block_lt_of_cell? w _ hx364_0)).trans hx364_0
              replace p364 := eq_true p364
              replace q364 := eq_true q364
              have hnb51 := NB360_361.out
              have hnc51 := NB361_360.out
              have hnb52 := NB360_363.out
              have hnc52 := NB363_360.out
              have hcz53_0 : wr.cell? ⟨gb360, 0, none⟩ = some (.slice A1_0 l1_0.length c1_0) := (blk_cell BK360.out 0).trans rfl
              have hcz53_1 : wr.cell? ⟨gb360, 1, none⟩ = some (.slice A1_1 l1_1.length c1_1) := (blk_cell BK360.out 1).trans rfl
              have hfz53_0 := blk_frozen BK360.out 0
              have hfz53_1 := blk_frozen BK360.out 1
              have p365 : 0 ≤ (x19_1 : Int) := of_decide_eq_true (by first | (with_reducible assumption) | assumption)
              have q365 : x19_1 < (l1_0.length : Int) := of_decide_eq_true (by first | (with_reducible assumption) | assumption)
              obtain ⟨ad365, e365, hx365_0⟩ := Kd.at_flt HR1_0.out x19_1 p365 q365
              cases e365
              replace hx365_0 := (HB.out.cell (World.block_lt_of_cell? w _ hx365_0)).trans hx365_0
              replace p365 := eq_true p365
              replace q365 := eq_true q365
              have p366 : 0 ≤ (x19_1 : Int) := of_decide_eq_true (by first | (with_reducible assumption) | assumption)
              have q366 : x19_1 < (l1_0.length : Int) := of_decide_eq_true (by first | (with_reducible assumption) | assumption)
              obtain ⟨ad366, e366, hx366_0⟩ := Kd.at_flt HR1_0.out x19_1 p366 q366
              obtain rfl : ad365 = ad366 := (by injection e366)
              replace hx366_0 := (HB.out.cell (World.block_lt_of_cell? w _ hx366_0)).trans hx366_0
              replace p366 := eq_true p366
              replace q366 := eq_true q366
              have p367 : 0 ≤ (x19_1 : Int) := of_decide_eq_true (by first | (with_reducible assumption) | assumption)
              have q367 : x19_1 < (l0_1.length : Int) := of_decide_eq_true (by first | (with_reducible assumption) | assumption)
              obtain ⟨ad367, e367, hx367_0⟩ := Kd.at_flt HR0_1.out x19_1 p367 q367
              cases e367
              replace hx367_0 := (HB.out.cell (World.block_lt_of_cell? w _ hx367_0)).trans hx367_0
              replace p367 := eq_true p367
              replace q367 := eq_true q367
              have p368 : 0 ≤ (x19_1 : Int) := of_decide_eq_true (by first | (with_reducible assumption) | assumption)
              have q368 : x19_1 < (l1_1.length : Int) := of_decide_eq_true (by first | (with_reducible assumption) | assumption)
              obtain ⟨ad368, e368, hx368_0⟩ := Kd.at_flt HR1_1.out x19_1 p368 q368
              cases e368
              replace hx368_0 := (HB.out.cell (World.block_lt_of_cell? w _ hx368_0)).trans hx368_0
              replace p368 := eq_true p368
              replace q368 := eq_true q368
              have hnb54 := NB363_361.out
              have hnc54 := NB361_363.out
              have hcz55_0 : wr.cell? ⟨gb363, 0, none⟩ = some (u364000) := (blk_cell BK363.out 0).trans rfl
              have hcz55_1 : wr.cell? ⟨gb363, 1, none⟩ = some (u364001) := (blk_cell BK363.out 1).trans rfl
              have hfz55_0 := blk_frozen BK363.out 0
              have hfz55_1 := blk_frozen BK363.out 1
              go_wp2_with (first | ((with_reducible refine gate_builtin (b := .append) (xs := #[.tmp 57, .tmp 59]) rfl ?_); at_builtin; refine Kd.R_append Kd.flt (w0 := w) w.heap.size rfl (.tmp 57) (.tmp 59) 23 33 (.float .f64 0) 8 rfl Try.underlying23 info33 rfl (by decide) (by omega) u364000 x364000_1 (rdOf (0 : Nat) l1_0 x19_1) [.float .f64 (rdOf (0 : Nat) l1_0 x19_1)] (fun k_ => some k_ ≠ (u364001 : Value).ownBlock) (fun _ => False) rfl rfl ?aP (fun _ hk => hk.elim) ?aF ?aO ?aB ?aS ?aL ?_; (case aP => exact rfl); (case aB => exact (by repeat (with_reducible first | exact HB.out | refine bz ?_ (by assumption) | apply bA | apply bN | apply bD))); (case aF => exact (fun k_ hk => Kd.fresh' (Kd.R_lt (rk HO_364001.out)) k_ hk)); (case aO => exact (rk HO_364000.out)); (case aS => exact (bs HB.out)); (case aL => have := LMc45.out; omega); intro v377 w56 ho hb hg hat; rw [← Ny376.out] at ho; replace HO_364001 := a_ (Kd.R_after (ok := (fun _ => True)) (rk (Kd.R_mono HO_364001.out (fun _ hk => ⟨trivial, hk⟩))) hg hat); replace BK359 := a_ (blk_grown (pk BK359.out) hg (Kd.R_ne HO_364000.out BK359.out (by decide))); replace BK360 := a_ (blk_grown (pk BK360.out) hg (Kd.R_ne HO_364000.out BK360.out (by decide))); replace BK361 := a_ (blk_grown (pk BK361.out) hg (Kd.R_ne HO_364000.out BK361.out (by decide))); replace BK363 := a_ (blk_grown (pk BK363.out) hg (Kd.R_ne HO_364000.out BK363.out (by decide))); replace HB := a_ (hb); have HO378 := a_ (ho); clear HO_364000 ho hb hg hat; obtain ⟨Ao57, co57, eo57⟩ := Kd.R_slice HO378.out; subst eo57; have hcz58_0 : w56.cell? ⟨gb363, 0, none⟩ = some (u364000) := (blk_cell BK363.out 0).trans rfl; have hcz58_1 : w56.cell? ⟨gb363, 1, none⟩ = some (u364001) := (blk_cell BK363.out 1).trans rfl; have hfz58_0 := blk_frozen BK363.out 0; have hfz58_1 := blk_frozen BK363.out 1) | ((with_reducible refine gate_builtin (b := .append) (xs := #[.tmp 63, .tmp 65]) rfl ?_); at_builtin; refine Kd.R_append Kd.flt (w0 := w) w.heap.size rfl (.tmp 63) (.tmp 65) 23 33 (.float .f64 0) 8 rfl Try.underlying23 info33 rfl (by decide) (by omega) u364001 x364001_1 (rdOf (0 : Nat) l0_1 x19_1) [.float .f64 (rdOf (0 : Nat) l0_1 x19_1)] (fun k_ => N_ (.slice Ao57 y376.length co57) k_) (fun _ => False) rfl (by first | (go_simp; done) | (go_simp; rfl)) ?aP (fun _ hk => hk.elim) ?aF ?aO ?aB ?aS ?aL ?_; (case aP => exact rfl); (case aB => exact (by repeat (with_reducible first | exact HB.out | refine bz ?_ (by assumption) | apply bA | apply bN | apply bD))); (case aF => exact (fun k_ hk => Kd.fresh' (Kd.R_lt (rk (Kd.R_mono (fr1 HO378.out BK363.out (by decide) 0 (.slice Ao57 y376.length co57)) (fun _ h_ => h_.1)))) k_ hk)); (case aO => exact (rk (Kd.R_mono (fr1 HO_364001.out BK363.out (by decide) 0 (.slice Ao57 y376.length co57)) (fun _ hk => hk.1.2)))); (case aS => exact (bs HB.out)); (case aL => have := LMc46.out; omega); intro v380 w59 ho hb hg hat; rw [← Ny379.out] at ho; replace BK359 := a_ (blk_grown (g := gb359) (o := .cells #[.slice (some ad364) l0_0.length c0_0, .slice (some ad367) l0_1.length c0_1] 25 (0, 0)) (by refine pk ?_; refine blk_far ?_ NB359_363.out _; refine pk ?_; exact BK359.out) hg (Kd.R_ne HO_364001.out BK359.out (by decide))); replace BK360 := a_ (blk_grown (g := gb360) (o := .cells #[.slice (some ad365) l1_0.length c1_0, .slice (some ad368) l1_1.length c1_1] 25 (0, 0)) (by refine pk ?_; refine blk_far ?_ NB360_363.out _; refine pk ?_; exact BK360.out) hg (Kd.R_ne HO_364001.out BK360.out (by decide))); replace BK361 := a_ (blk_grown (g := gb361) (o := .cells #[.slice none 0 0, .slice none 0 0] 25 (0, 0)) (by refine pk ?_; refine blk_far ?_ NB361_363.out _; refine pk ?_; exact BK361.out) hg (Kd.R_ne HO_364001.out BK361.out (by decide))); replace HO378 := a_ (Kd.R_after (ok := (fun _ => True)) (rk (Kd.R_mono (fr1 HO378.out BK363.out (by decide) 0 (.slice Ao57 y376.length co57)) (fun _ hk => ⟨trivial, hk.1⟩))) hg hat); replace BK363 := a_ (blk_grown (g := gb363) (o := .cells #[.slice Ao57 y376.length co57, u364001] 25 (0, 0)) (by refine pk ?_; refine blk_put (cs := #[u364000, u364001]) ?_ 0 _ rfl; refine pk ?_; exact BK363.out) hg (Kd.R_ne HO_364001.out BK363.out (by decide))); replace HB := a_ (hb); have HO381 := a_ (ho); clear HO_364001 ho hb hg hat; obtain ⟨Ao60, co60, eo60⟩ := Kd.R_slice HO381.out; subst eo60; have hcz61_0 : _ = some (Value.slice Ao57 y376.length co57) := (blk_cell BK363.out 0).trans rfl; have hcz61_1 : w59.cell? ⟨gb363, 1, none⟩ = some (u364001) := (blk_cell BK363.out 1).trans rfl; have hfz61_0 := blk_frozen BK363.out 0; have hfz61_1 := blk_frozen BK363.out 1))
              go_roundg k1
              case measure => have := HK1.out; omega
              case rel => exact ⟨(wrap64 (x19_1 + 1)), (y376), (y379), (.slice Ao57 y376.length co57), (.slice Ao60 y379.length co60), (by first | rfl | (simp; done) | (simp [*]; done)), H', ⟨by have := HK1.out; omega⟩, ⟨rk (Kd.R_mono (fr1 HO378.out BK363.out (by decide) 1 (.slice Ao60 y379.length co60)) (fun _ hk => hk.1.2))⟩, ⟨rk (Kd.R_mono (fr1 HO381.out BK363.out (by decide) 1 (.slice Ao60 y379.length co60)) (fun _ hk => hk.1))⟩, ⟨by refine pk ?_; refine blk_far ?_ NB359_363.out _; refine pk ?_; exact BK359.out⟩, ⟨by refine pk ?_; refine blk_far ?_ NB360_363.out _; refine pk ?_; exact BK360.out⟩, ⟨by refine pk ?_; refine blk_far ?_ NB361_363.out _; refine pk ?_; exact BK361.out⟩, ⟨by refine pk ?_; refine blk_put (cs := #[.slice Ao57 y376.length co57, u364001]) ?_ 1 _ rfl; refine pk ?_; exact BK363.out⟩, ⟨by repeat (with_reducible first | exact HB.out | refine bz ?_ (by assumption) | apply bA | apply bN | apply bD)⟩⟩
             ·rw [if_neg c46] at H
              exact absurd H (by simp)
            ·rw [if_neg c45] at H
             exact absurd H (by simp)
          ·rw [if_neg c26] at H
           exact absurd H (by simp)
         ·rw [if_neg c25] at H
          exact absurd H (by simp)
        ·rw [if_neg c24] at H
         have c24b0 : (FloatKind.f64.format.order (rdOf (0 : Nat) l1_0 x19_1) (rdOf (0 : Nat) l0_0 x19_1) == some Ordering.lt) = false := by simpa using c24
         (try (have c24b1 : decide (FloatKind.f64.format.order (rdOf (0 : Nat) l1_0 x19_1) (rdOf (0 : Nat) l0_0 x19_1) = some Ordering.lt) = false := by simpa using c24))
         (try (have c24b2 : (FloatKind.f64.format.order (rdOf (0 : Nat) l1_0 x19_1) (rdOf (0 : Nat) l0_0 x19_1) == some Ordering.lt) = false := by simpa using c24))
         (try (have c24b3 : ¬ (FloatKind.f64.format.order (rdOf (0 : Nat) l1_0 x19_1) (rdOf (0 : Nat) l0_0 x19_1) = some Ordering.lt) := by simpa using c24))
         clear c24
         by_cases c62 : x19_1 < (l0_1.length : Int)
         ·rw [if_pos c62] at H
          have c62b0 : decide (x19_1 < (l0_1.length : Int)) = true := decide_eq_true c62
          clear c62
          by_cases c63 : x19_1 < (l1_1.length : Int)
          ·rw [if_pos c63] at H
           have c63b0 : decide (x19_1 < (l1_1.length : Int)) = true := decide_eq_true c63
           clear c63
           by_cases c64 : (FloatKind.f64.format.order (rdOf (0 : Nat) l1_1 x19_1) (rdOf (0 : Nat) l0_1 x19_1) == some Ordering.gt) = true
           ·rw [if_pos c64] at H
            have c64b0 : (FloatKind.f64.format.order (rdOf (0 : Nat) l1_1 x19_1) (rdOf (0 : Nat) l0_1 x19_1) == some Ordering.gt) = true := c64
            (try (have c64b1 : decide (FloatKind.f64.format.order (rdOf (0 : Nat) l1_1 x19_1) (rdOf (0 : Nat) l0_1 x19_1) = some Ordering.gt) = true := by simpa using c64))
            (try (have c64b2 : (FloatKind.f64.format.order (rdOf (0 : Nat) l1_1 x19_1) (rdOf (0 : Nat) l0_1 x19_1) == some Ordering.gt) = true := by simpa using c64))
            clear c64
            by_cases c65 : x364000_1.length < 17592186044416
            ·rw [if_pos c65] at H
             have LMc65 := Aside0.mk c65
             clear c65
             obtain ⟨y385, hy385⟩ : ∃ y_ : List Nat, y_ = (x364000_1 ++ [rdOf (0 : Nat) l0_0 x19_1]) := ⟨_, rfl⟩
             replace H : (if x364001_1.length < 17592186044416 then (spec_BoxHull.l0 k1 (l0_0.length : Int) (wrap64 (x19_1 + 1)) l0_0 l0_1 l1_0 l1_1 y385 (x364001_1 ++ [rdOf (0 : Nat) l1_1 x19_1])) else (none)) = some (r1, r2, r3) := by first | (rw [hy385]; with_reducible exact H) | (have H2_ := (Option.bind_some _ _).symm.trans H; rw [hy385]; with_reducible exact H2_) | (have H2_ := (Option.bind_some _ _).symm.trans H; with_reducible exact H2_) | with_reducible exact H | (rw [hy385]; exact H) | exact H
             have Ny385 := Aside0.mk hy385
             clear hy385
             by_cases c66 : x364001_1.length < 17592186044416
             ·rw [if_pos c66] at H
              have LMc66 := Aside0.mk c66
              clear c66
              obtain ⟨y388, hy388⟩ : ∃ y_ : List Nat, y_ = (x364001_1 ++ [rdOf (0 : Nat) l1_1 x19_1]) := ⟨_, rfl⟩
              replace H : (spec_BoxHull.l0 k1 (l0_0.length : Int) (wrap64 (x19_1 + 1)) l0_0 l0_1 l1_0 l1_1 y385 y388) = some (r1, r2, r3) := by first | (rw [hy388]; with_reducible exact H) | (have H2_ := (Option.bind_some _ _).symm.trans H; rw [hy388]; with_reducible exact H2_) | (have H2_ := (Option.bind_some _ _).symm.trans H; with_reducible exact H2_) | with_reducible exact H | (rw [hy388]; exact H) | exact H
              have Ny388 := Aside0.mk hy388
              clear hy388
              have H' := Aside0.mk H
              clear H
              have hnb67 := NB359_360.out
              have hnc67 := NB360_359.out
              have hnb68 := NB359_361.out
              have hnc68 := NB361_359.out
              have hnb69 := NB359_363.out
              have hnc69 := NB363_359.out
              have hcz70_0 : wr.cell? ⟨gb359, 0, none⟩ = some (.slice A0_0 l0_0.length c0_0) := (blk_cell BK359.out 0).trans rfl
              have hcz70_1 : wr.cell? ⟨gb359, 1, none⟩ = some (.slice A0_1 l0_1.length c0_1) := (blk_cell BK359.out 1).trans rfl
              have hfz70_0 := blk_frozen BK359.out 0
              have hfz70_1 := blk_frozen BK359.out 1
              have p364 : 0 ≤ (x19_1 : Int) := of_decide_eq_true (by first | (with_reducible assumption) | assumption)
              have q364 : x19_1 < (l0_0.length : Int) := of_decide_eq_true (by first | (with_reducible assumption) | assumption)
              obtain ⟨ad364, e364, hx364_0⟩ := Kd.at_flt HR0_0.out x19_1 p364 q364
              cases e364
              replace hx364_0 := (HB.out.cell (World.block_lt_of_cell? w _ hx364_0)).trans hx364_0
              replace p364 := eq_true p364
              replace q364 := eq_true q364
              have hnb71 := NB360_361.out
              have hnc71 := NB361_360.out
              have hnb72 := NB360_363.out
              have hnc72 := NB363_360.out
              have hcz73_0 : wr.cell? ⟨gb360, 0, none⟩ = some (.slice A1_0 l1_0.length c1_0) := (blk_cell BK360.out 0).trans rfl
              have hcz73_1 : wr.cell? ⟨gb360, 1, none⟩ = some (.slice A1_1 l1_1.length c1_1) := (blk_cell BK360.out 1).trans rfl
              have hfz73_0 := blk_frozen BK360.out 0
              have hfz73_1 := blk_frozen BK360.out 1
              have p365 : 0 ≤ (x19_1 : Int) := of_decide_eq_true (by first | (with_reducible assumption) | assumption)
              have q365 : x19_1 < (l1_0.length : Int) := of_decide_eq_true (by first | (with_reducible assumption) | assumption)
              obtain ⟨ad365, e365, hx365_0⟩ := Kd.at_flt HR1_0.out x19_1 p365 q365
              cases e365
              replace hx365_0 := (HB.out.cell (World.block_lt_of_cell? w _ hx365_0)).trans hx365_0
              replace p365 := eq_true p365
              replace q365 := eq_true q365
              have p382 : 0 ≤ (x19_1 : Int) := of_decide_eq_true (by first | (with_reducible assumption) | assumption)
              have q382 : x19_1 < (l0_1.length : Int) := of_decide_eq_true (by first | (with_reducible assumption) | assumption)
              obtain ⟨ad382, e382, hx382_0⟩ := Kd.at_flt HR0_1.out x19_1 p382 q382
              cases e382
              replace hx382_0 := (HB.out.cell (World.block_lt_of_cell? w _ hx382_0)).trans hx382_0
              replace p382 := eq_true p382
              replace q382 := eq_true q382
              have p383 : 0 ≤ (x19_1 : Int) := of_decide_eq_true (by first | (with_reducible assumption) | assumption)
              have q383 : x19_1 < (l1_1.length : Int) := of_decide_eq_true (by first | (with_reducible assumption) | assumption)
              obtain ⟨ad383, e383, hx383_0⟩ := Kd.at_flt HR1_1.out x19_1 p383 q383
              cases e383
              replace hx383_0 := (HB.out.cell (World.block_lt_of_cell? w _ hx383_0)).trans hx383_0
              replace p383 := eq_true p383
              replace q383 := eq_true q383
              have p384 : 0 ≤ (x19_1 : Int) := of_decide_eq_true (by first | (with_reducible assumption) | assumption)
              have q384 : x19_1 < (l1_1.length : Int) := of_decide_eq_true (by first | (with_reducible assumption) | assumption)
              obtain ⟨ad384, e384, hx384_0⟩ := Kd.at_flt HR1_1.out x19_1 p384 q384
              obtain rfl : ad383 = ad384 := (by injection e384)
              replace hx384_0 := (HB.out.cell (World.block_lt_of_cell? w _ hx384_0)).trans hx384_0
              replace p384 := eq_true p384
              replace q384 := eq_true q384
              have hnb74 := NB363_361.out
              have hnc74 := NB361_363.out
              have hcz75_0 : wr.cell? ⟨gb363, 0, none⟩ = some (u364000) := (blk_cell BK363.out 0).trans rfl
              have hcz75_1 : wr.cell? ⟨gb363, 1, none⟩ = some (u364001) := (blk_cell BK363.out 1).trans rfl
              have hfz75_0 := blk_frozen BK363.out 0
              have hfz75_1 := blk_frozen BK363.out 1
              go_wp2_with (first | ((with_reducible refine gate_builtin (b := .append) (xs := #[.tmp 57, .tmp 59]) rfl ?_); at_builtin; refine Kd.R_append Kd.flt (w0 := w) w.heap.size rfl (.tmp 57) (.tmp 59) 23 33 (.float .f64 0) 8 rfl Try.underlying23 info33 rfl (by decide) (by omega) u364000 x364000_1 (rdOf (0 : Nat) l0_0 x19_1) [.float .f64 (rdOf (0 : Nat) l0_0 x19_1)] (fun k_ => some k_ ≠ (u364001 : Value).ownBlock) (fun _ => False) rfl rfl ?aP (fun _ hk => hk.elim) ?aF ?aO ?aB ?aS ?aL ?_; (case aP => exact rfl); (case aB => exact (by repeat (with_reducible first | exact HB.out | refine bz ?_ (by assumption) | apply bA | apply bN | apply bD))); (case aF => exact (fun k_ hk => Kd.fresh' (Kd.R_lt (rk HO_364001.out)) k_ hk)); (case aO => exact (rk HO_364000.out)); (case aS => exact (bs HB.out)); (case aL => have := LMc65.out; omega); intro v386 w76 ho hb hg hat; rw [← Ny385.out] at ho; replace HO_364001 := a_ (Kd.R_after (ok := (fun _ => True)) (rk (Kd.R_mono HO_364001.out (fun _ hk => ⟨trivial, hk⟩))) hg hat); replace BK359 := a_ (blk_grown (pk BK359.out) hg (Kd.R_ne HO_364000.out BK359.out (by decide))); replace BK360 := a_ (blk_grown (pk BK360.out) hg (Kd.R_ne HO_364000.out BK360.out (by decide))); replace BK361 := a_ (blk_grown (pk BK361.out) hg (Kd.R_ne HO_364000.out BK361.out (by decide))); replace BK363 := a_ (blk_grown (pk BK363.out) hg (Kd.R_ne HO_364000.out BK363.out (by decide))); replace HB := a_ (hb); have HO387 := a_ (ho); clear HO_364000 ho hb hg hat; obtain ⟨Ao77, co77, eo77⟩ := Kd.R_slice HO387.out; subst eo77; have hcz78_0 : w76.cell? ⟨gb363, 0, none⟩ = some (u364000) := (blk_cell BK363.out 0).trans rfl; have hcz78_1 : w76.cell? ⟨gb363, 1, none⟩ = some (u364001) := (blk_cell BK363.out 1).trans rfl; have hfz78_0 := blk_frozen BK363.out 0; have hfz78_1 := blk_frozen BK363.out 1) | ((with_reducible refine gate_builtin (b := .append) (xs := #[.tmp 63, .tmp 65]) rfl ?_); at_builtin; refine Kd.R_append Kd.flt (w0 := w) w.heap.size rfl (.tmp 63) (.tmp 65) 23 33 (.float .f64 0) 8 rfl Try.underlying23 info33 rfl (by decide) (by omega) u364001 x364001_1 (rdOf (0 : Nat) l1_1 x19_1) [.float .f64 (rdOf (0 : Nat) l1_1 x19_1)] (fun k_ => N_ (.slice Ao77 y385.length co77) k_) (fun _ => False) rfl (by first | (go_simp; done) | (go_simp; rfl)) ?aP (fun _ hk => hk.elim) ?aF ?aO ?aB ?aS ?aL ?_; (case aP => exact rfl); (case aB => exact (by repeat (with_reducible first | exact HB.out | refine bz ?_ (by assumption) | apply bA | apply bN | apply bD))); (case aF => exact (fun k_ hk => Kd.fresh' (Kd.R_lt (rk (Kd.R_mono (fr1 HO387.out BK363.out (by decide) 0 (.slice Ao77 y385.length co77)) (fun _ h_ => h_.1)))) k_ hk)); (case aO => exact (rk (Kd.R_mono (fr1 HO_364001.out BK363.out (by decide) 0 (.slice Ao77 y385.length co77)) (fun _ hk => hk.1.2)))); (case aS => exact (bs HB.out)); (case aL => have := LMc66.out; omega); intro v389 w79 ho hb hg hat; rw [← Ny388.out] at ho; replace BK359 := a_ (blk_grown (g := gb359) (o := .cells #[.slice (some ad364) l0_0.length c0_0, .slice (some ad382) l0_1.length c0_1] 25 (0, 0)) (by refine pk ?_; refine blk_far ?_ NB359_363.out _; refine pk ?_; exact BK359.out) hg (Kd.R_ne HO_364001.out BK359.out (by decide))); replace BK360 := a_ (blk_grown (g := gb360) (o := .cells #[.slice (some ad365) l1_0.length c1_0, .slice (some ad383) l1_1.length c1_1] 25 (0, 0)) (by refine pk ?_; refine blk_far ?_ NB360_363.out _; refine pk ?_; exact BK360.out) hg (Kd.R_ne HO_364001.out BK360.out (by decide))); replace BK361 := a_ (blk_grown (g := gb361) (o := .cells #[.slice none 0 0, .slice none 0 0] 25 (0, 0)) (by refine pk ?_; refine blk_far ?_ NB361_363.out _; refine pk ?_; exact BK361.out) hg (Kd.R_ne HO_364001.out BK361.out (by decide))); replace HO387 := a_ (Kd.R_after (ok := (fun _ => True)) (rk (Kd.R_mono (fr1 HO387.out BK363.out (by decide) 0 (.slice Ao77 y385.length co77)) (fun _ hk => ⟨trivial, hk.1⟩))) hg hat); replace BK363 := a_ (blk_grown (g := gb363) (o := .cells #[.slice Ao77 y385.length co77, u364001] 25 (0, 0)) (by refine pk ?_; refine blk_put (cs := #[u364000, u364001]) ?_ 0 _ rfl; refine pk ?_; exact BK363.out) hg (Kd.R_ne HO_364001.out BK363.out (by decide))); replace HB := a_ (hb); have HO390 := a_ (ho); clear HO_364001 ho hb hg hat; obtain ⟨Ao80, co80, eo80⟩ := Kd.R_slice HO390.out; subst eo80; have hcz81_0 : _ = some (Value.slice Ao77 y385.length co77) := (blk_cell BK363.out 0).trans rfl; have hcz81_1 : w79.cell? ⟨gb363, 1, none⟩ = some (u364001) := (blk_cell BK363.out 1).trans rfl; have hfz81_0 := blk_frozen BK363.out 0; have hfz81_1 := blk_frozen BK363.out 1))
              go_roundg k1
              case measure => have := HK1.out; omega
              case rel => exact ⟨(wrap64 (x19_1 + 1)), (y385), (y388), (.slice Ao77 y385.length co77), (.slice Ao80 y388.length co80), (by first | rfl | (simp; done) | (simp [*]; done)), H', ⟨by have := HK1.out; omega⟩, ⟨rk (Kd.R_mono (fr1 HO387.out BK363.out (by decide) 1 (.slice Ao80 y388.length co80)) (fun _ hk => hk.1.2))⟩, ⟨rk (Kd.R_mono (fr1 HO390.out BK363.out (by decide) 1 (.slice Ao80 y388.length co80)) (fun _ hk => hk.1))⟩, ⟨by refine pk ?_; refine blk_far ?_ NB359_363.out _; refine pk ?_; exact BK359.out⟩, ⟨by refine pk ?_; refine blk_far ?_ NB360_363.out _; refine pk ?_; exact BK360.out⟩, ⟨by refine pk ?_; refine blk_far ?_ NB361_363.out _; refine pk ?_; exact BK361.out⟩, ⟨by refine pk ?_; refine blk_put (cs := #[.slice Ao77 y385.length co77, u364001]) ?_ 1 _ rfl; refine pk ?_; exact BK363.out⟩, ⟨by repeat (with_reducible first | exact HB.out | refine bz ?_ (by assumption) | apply bA | apply bN | apply bD)⟩⟩
             ·rw [if_neg c66] at H
              exact absurd H (by simp)
            ·rw [if_neg c65] at H
             exact absurd H (by simp)
           ·rw [if_neg c64] at H
            have c64b0 : (FloatKind.f64.format.order (rdOf (0 : Nat) l1_1 x19_1) (rdOf (0 : Nat) l0_1 x19_1) == some Ordering.gt) = false := by simpa using c64
            (try (have c64b1 : decide (FloatKind.f64.format.order (rdOf (0 : Nat) l1_1 x19_1) (rdOf (0 : Nat) l0_1 x19_1) = some Ordering.gt) = false := by simpa using c64))
            (try (have c64b2 : (FloatKind.f64.format.order (rdOf (0 : Nat) l1_1 x19_1) (rdOf (0 : Nat) l0_1 x19_1) == some Ordering.gt) = false := by simpa using c64))
            (try (have c64b3 : ¬ (FloatKind.f64.format.order (rdOf (0 : Nat) l1_1 x19_1) (rdOf (0 : Nat) l0_1 x19_1) = some Ordering.gt) := by simpa using c64))
            clear c64
            by_cases c82 : x364000_1.length < 17592186044416
            ·rw [if_pos c82] at H
             have LMc82 := Aside0.mk c82
             clear c82
             obtain ⟨y391, hy391⟩ : ∃ y_ : List Nat, y_ = (x364000_1 ++ [rdOf (0 : Nat) l0_0 x19_1]) := ⟨_, rfl⟩
             replace H : (if x364001_1.length < 17592186044416 then (spec_BoxHull.l0 k1 (l0_0.length : Int) (wrap64 (x19_1 + 1)) l0_0 l0_1 l1_0 l1_1 y391 (x364001_1 ++ [rdOf (0 : Nat) l0_1 x19_1])) else (none)) = some (r1, r2, r3) := by first | (rw [hy391]; with_reducible exact H) | (have H2_ := (Option.bind_some _ _).symm.trans H; rw [hy391]; with_reducible exact H2_) | (have H2_ := (Option.bind_some _ _).symm.trans H; with_reducible exact H2_) | with_reducible exact H | (rw [hy391]; exact H) | exact H
             have Ny391 := Aside0.mk hy391
             clear hy391
             by_cases c83 : x364001_1.length < 17592186044416
             ·rw [if_pos c83] at H
              have LMc83 := Aside0.mk c83
              clear c83
              obtain ⟨y394, hy394⟩ : ∃ y_ : List Nat, y_ = (x364001_1 ++ [rdOf (0 : Nat) l0_1 x19_1]) := ⟨_, rfl⟩
              replace H : (spec_BoxHull.l0 k1 (l0_0.length : Int) (wrap64 (x19_1 + 1)) l0_0 l0_1 l1_0 l1_1 y391 y394) = some (r1, r2, r3) := by first | (rw [hy394]; with_reducible exact H) | (have H2_ := (Option.bind_some _ _).symm.trans H; rw [hy394]; with_reducible exact H2_) | (have H2_ := (Option.bind_some _ _).symm.trans H; with_reducible exact H2_) | with_reducible exact H | (rw [hy394]; exact H) | exact H
              have Ny394 := Aside0.mk hy394
              clear hy394
              have H' := Aside0.mk H
              clear H
              have hnb84 := NB359_360.out
              have hnc84 := NB360_359.out
              have hnb85 := NB359_361.out
              have hnc85 := NB361_359.out
              have hnb86 := NB359_363.out
              have hnc86 := NB363_359.out
              have hcz87_0 : wr.cell? ⟨gb359, 0, none⟩ = some (.slice A0_0 l0_0.length c0_0) := (blk_cell BK359.out 0).trans rfl
              have hcz87_1 : wr.cell? ⟨gb359, 1, none⟩ = some (.slice A0_1 l0_1.length c0_1) := (blk_cell BK359.out 1).trans rfl
              have hfz87_0 := blk_frozen BK359.out 0
              have hfz87_1 := blk_frozen BK359.out 1
              have p364 : 0 ≤ (x19_1 : Int) := of_decide_eq_true (by first | (with_reducible assumption) | assumption)
              have q364 : x19_1 < (l0_0.length : Int) := of_decide_eq_true (by first | (with_reducible assumption) | assumption)
              obtain ⟨ad364, e364, hx364_0⟩ := Kd.at_flt HR0_0.out x19_1 p364 q364
              cases e364
              replace hx364_0 := (HB.out.cell (World.block_lt_of_cell? w _ hx364_0)).trans hx364_0
              replace p364 := eq_true p364
              replace q364 := eq_true q364
              have hnb88 := NB360_361.out
              have hnc88 := NB361_360.out
              have hnb89 := NB360_363.out
              have hnc89 := NB363_360.out
              have hcz90_0 : wr.cell? ⟨gb360, 0, none⟩ = some (.slice A1_0 l1_0.length c1_0) := (blk_cell BK360.out 0).trans rfl
              have hcz90_1 : wr.cell? ⟨gb360, 1, none⟩ = some (.slice A1_1 l1_1.length c1_1) := (blk_cell BK360.out 1).trans rfl
              have hfz90_0 := blk_frozen BK360.out 0
              have hfz90_1 := blk_frozen BK360.out 1
              have p365 : 0 ≤ (x19_1 : Int) := of_decide_eq_true (by first | (with_reducible assumption) | assumption)
              have q365 : x19_1 < (l1_0.length : Int) := of_decide_eq_true (by first | (with_reducible assumption) | assumption)
              obtain ⟨ad365, e365, hx365_0⟩ := Kd.at_flt HR1_0.out x19_1 p365 q365
              cases e365
              replace hx365_0 := (HB.out.cell (World.block_lt_of_cell? w _ hx365_0)).trans hx365_0
              replace p365 := eq_true p365
              replace q365 := eq_true q365
              have p382 : 0 ≤ (x19_1 : Int) := of_decide_eq_true (by first | (with_reducible assumption) | assumption)
              have q382 : x19_1 < (l0_1.length : Int) := of_decide_eq_true (by first | (with_reducible assumption) | assumption)
              obtain ⟨ad382, e382, hx382_0⟩ := Kd.at_flt HR0_1.out x19_1 p382 q382
              cases e382
              replace hx382_0 := (HB.out.cell (World.block_lt_of_cell? w _ hx382_0)).trans hx382_0
              replace p382 := eq_true p382
              replace q382 := eq_true q382
              have p383 : 0 ≤ (x19_1 : Int) := of_decide_eq_true (by first | (with_reducible assumption) | assumption)
              have q383 : x19_1 < (l1_1.length : Int) := of_decide_eq_true (by first | (with_reducible assumption) | assumption)
              obtain ⟨ad383, e383, hx383_0⟩ := Kd.at_flt HR1_1.out x19_1 p383 q383
              cases e383
              replace hx383_0 := (HB.out.cell (World.block_lt_of_cell? w _ hx383_0)).trans hx383_0
              replace p383 := eq_true p383
              replace q383 := eq_true q383
              have hnb91 := NB363_361.out
              have hnc91 := NB361_363.out
              have hcz92_0 : wr.cell? ⟨gb363, 0, none⟩ = some (u364000) := (blk_cell BK363.out 0).trans rfl
              have hcz92_1 : wr.cell? ⟨gb363, 1, none⟩ = some (u364001) := (blk_cell BK363.out 1).trans rfl
              have hfz92_0 := blk_frozen BK363.out 0
              have hfz92_1 := blk_frozen BK363.out 1
              go_wp2_with (first | ((with_reducible refine gate_builtin (b := .append) (xs := #[.tmp 57, .tmp 59]) rfl ?_); at_builtin; refine Kd.R_append Kd.flt (w0 := w) w.heap.size rfl (.tmp 57) (.tmp 59) 23 33 (.float .f64 0) 8 rfl Try.underlying23 info33 rfl (by decide) (by omega) u364000 x364000_1 (rdOf (0 : Nat) l0_0 x19_1) [.float .f64 (rdOf (0 : Nat) l0_0 x19_1)] (fun k_ => some k_ ≠ (u364001 : Value).ownBlock) (fun _ => False) rfl rfl ?aP (fun _ hk => hk.elim) ?aF ?aO ?aB ?aS ?aL ?_; (case aP => exact rfl); (case aB => exact (by repeat (with_reducible first | exact HB.out | refine bz ?_ (by assumption) | apply bA | apply bN | apply bD))); (case aF => exact (fun k_ hk => Kd.fresh' (Kd.R_lt (rk HO_364001.out)) k_ hk)); (case aO => exact (rk HO_364000.out)); (case aS => exact (bs HB.out)); (case aL => have := LMc82.out; omega); intro v392 w93 ho hb hg hat; rw [← Ny391.out] at ho; replace HO_364001 := a_ (Kd.R_after (ok := (fun _ => True)) (rk (Kd.R_mono HO_364001.out (fun _ hk => ⟨trivial, hk⟩))) hg hat); replace BK359 := a_ (blk_grown (pk BK359.out) hg (Kd.R_ne HO_364000.out BK359.out (by decide))); replace BK360 := a_ (blk_grown (pk BK360.out) hg (Kd.R_ne HO_364000.out BK360.out (by decide))); replace BK361 := a_ (blk_grown (pk BK361.out) hg (Kd.R_ne HO_364000.out BK361.out (by decide))); replace BK363 := a_ (blk_grown (pk BK363.out) hg (Kd.R_ne HO_364000.out BK363.out (by decide))); replace HB := a_ (hb); have HO393 := a_ (ho); clear HO_364000 ho hb hg hat; obtain ⟨Ao94, co94, eo94⟩ := Kd.R_slice HO393.out; subst eo94; have hcz95_0 : w93.cell? ⟨gb363, 0, none⟩ = some (u364000) := (blk_cell BK363.out 0).trans rfl; have hcz95_1 : w93.cell? ⟨gb363, 1, none⟩ = some (u364001) := (blk_cell BK363.out 1).trans rfl; have hfz95_0 := blk_frozen BK363.out 0; have hfz95_1 := blk_frozen BK363.out 1) | ((with_reducible refine gate_builtin (b := .append) (xs := #[.tmp 63, .tmp 65]) rfl ?_); at_builtin; refine Kd.R_append Kd.flt (w0 := w) w.heap.size rfl (.tmp 63) (.tmp 65) 23 33 (.float .f64 0) 8 rfl Try.underlying23 info33 rfl (by decide) (by omega) u364001 x364001_1 (rdOf (0 : Nat) l0_1 x19_1) [.float .f64 (rdOf (0 : Nat) l0_1 x19_1)] (fun k_ => N_ (.slice Ao94 y391.length co94) k_) (fun _ => False) rfl (by first | (go_simp; done) | (go_simp; rfl)) ?aP (fun _ hk => hk.elim) ?aF ?aO ?aB ?aS ?aL ?_; (case aP => exact rfl); (case aB => exact (by repeat (with_reducible first | exact HB.out | refine bz ?_ (by assumption) | apply bA | apply bN | apply bD))); (case aF => exact (fun k_ hk => Kd.fresh' (Kd.R_lt (rk (Kd.R_mono (fr1 HO393.out BK363.out (by decide) 0 (.slice Ao94 y391.length co94)) (fun _ h_ => h_.1)))) k_ hk)); (case aO => exact (rk (Kd.R_mono (fr1 HO_364001.out BK363.out (by decide) 0 (.slice Ao94 y391.length co94)) (fun _ hk => hk.1.2)))); (case aS => exact (bs HB.out)); (case aL => have := LMc83.out; omega); intro v395 w96 ho hb hg hat; rw [← Ny394.out] at ho; replace BK359 := a_ (blk_grown (g := gb359) (o := .cells #[.slice (some ad364) l0_0.length c0_0, .slice (some ad382) l0_1.length c0_1] 25 (0, 0)) (by refine pk ?_; refine blk_far ?_ NB359_363.out _; refine pk ?_; exact BK359.out) hg (Kd.R_ne HO_364001.out BK359.out (by decide))); replace BK360 := a_ (blk_grown (g := gb360) (o := .cells #[.slice (some ad365) l1_0.length c1_0, .slice (some ad383) l1_1.length c1_1] 25 (0, 0)) (by refine pk ?_; refine blk_far ?_ NB360_363.out _; refine pk ?_; exact BK360.out) hg (Kd.R_ne HO_364001.out BK360.out (by decide))); replace BK361 := a_ (blk_grown (g := gb361) (o := .cells #[.slice none 0 0, .slice none 0 0] 25 (0, 0)) (by refine pk ?_; refine blk_far ?_ NB361_363.out _; refine pk ?_; exact BK361.out) hg (Kd.R_ne HO_364001.out BK361.out (by decide))); replace HO393 := a_ (Kd.R_after (ok := (fun _ => True)) (rk (Kd.R_mono (fr1 HO393.out BK363.out (by decide) 0 (.slice Ao94 y391.length co94)) (fun _ hk => ⟨trivial, hk.1⟩))) hg hat); replace BK363 := a_ (blk_grown (g := gb363) (o := .cells #[.slice Ao94 y391.length co94, u364001] 25 (0, 0)) (by refine pk ?_; refine blk_put (cs := #[u364000, u364001]) ?_ 0 _ rfl; refine pk ?_; exact BK363.out) hg (Kd.R_ne HO_364001.out BK363.out (by decide))); replace HB := a_ (hb); have HO396 := a_ (ho); clear HO_364001 ho hb hg hat; obtain ⟨Ao97, co97, eo97⟩ := Kd.R_slice HO396.out; subst eo97; have hcz98_0 : _ = some (Value.slice Ao94 y391.length co94) := (blk_cell BK363.out 0).trans rfl; have hcz98_1 : w96.cell? ⟨gb363, 1, none⟩ = some (u364001) := (blk_cell BK363.out 1).trans rfl; have hfz98_0 := blk_frozen BK363.out 0; have hfz98_1 := blk_frozen BK363.out 1))
              go_roundg k1
              case measure => have := HK1.out; omega
              case rel => exact ⟨(wrap64 (x19_1 + 1)), (y391), (y394), (.slice Ao94 y391.length co94), (.slice Ao97 y394.length co97), (by first | rfl | (simp; done) | (simp [*]; done)), H', ⟨by have := HK1.out; omega⟩, ⟨rk (Kd.R_mono (fr1 HO393.out BK363.out (by decide) 1 (.slice Ao97 y394.length co97)) (fun _ hk => hk.1.2))⟩, ⟨rk (Kd.R_mono (fr1 HO396.out BK363.out (by decide) 1 (.slice Ao97 y394.length co97)) (fun _ hk => hk.1))⟩, ⟨by refine pk ?_; refine blk_far ?_ NB359_363.out _; refine pk ?_; exact BK359.out⟩, ⟨by refine pk ?_; refine blk_far ?_ NB360_363.out _; refine pk ?_; exact BK360.out⟩, ⟨by refine pk ?_; refine blk_far ?_ NB361_363.out _; refine pk ?_; exact BK361.out⟩, ⟨by refine pk ?_; refine blk_put (cs := #[.slice Ao94 y391.length co94, u364001]) ?_ 1 _ rfl; refine pk ?_; exact BK363.out⟩, ⟨by repeat (with_reducible first | exact HB.out | refine bz ?_ (by assumption) | apply bA | apply bN | apply bD)⟩⟩
             ·rw [if_neg c83] at H
              exact absurd H (by simp)
            ·rw [if_neg c82] at H
             exact absurd H (by simp)
          ·rw [if_neg c63] at H
           exact absurd H (by simp)
         ·rw [if_neg c62] at H
          exact absurd H (by simp)
       ·rw [if_neg c23] at H
        exact absurd H (by simp)
      ·rw [if_neg c22] at H
       exact absurd H (by simp)
     ·rw [if_neg c21] at H
      exact absurd H (by simp)
    ·rw [if_neg c20] at H
     have c20b0 : decide (x19_1 < (l0_0.length : Int)) = false := decide_eq_false c20
     clear c20
     simp only [Option.some.injEq, Prod.mk.injEq] at H
     obtain ⟨rfl, rfl, rfl⟩ := H
     have hnb99 := NB363_359.out
     have hnc99 := NB359_363.out
     have hnb100 := NB363_360.out
     have hnc100 := NB360_363.out
     have hnb101 := NB363_361.out
     have hnc101 := NB361_363.out
     have hcz102_0 : wr.cell? ⟨gb363, 0, none⟩ = some (u364000) := (blk_cell BK363.out 0).trans rfl
     have hcz102_1 : wr.cell? ⟨gb363, 1, none⟩ = some (u364001) := (blk_cell BK363.out 1).trans rfl
     have hfz102_0 := blk_frozen BK363.out 0
     have hfz102_1 := blk_frozen BK363.out 1
     obtain ⟨Ao103, co103, eo103⟩ := Kd.R_slice HO_364000.out
     subst eo103
     have hnb104 := NB361_359.out
     have hnc104 := NB359_361.out
     have hnb105 := NB361_360.out
     have hnc105 := NB360_361.out
     have hcz106_0 : wr.cell? ⟨gb361, 0, none⟩ = some (.slice none 0 0) := (blk_cell BK361.out 0).trans rfl
     have hcz106_1 : wr.cell? ⟨gb361, 1, none⟩ = some (.slice none 0 0) := (blk_cell BK361.out 1).trans rfl
     have hfz106_0 := blk_frozen BK361.out 0
     have hfz106_1 := blk_frozen BK361.out 1
     obtain ⟨Ao107, co107, eo107⟩ := Kd.R_slice HO_364001.out
     subst eo107
     go_wp2
     refine bodyPost_ret (results_ct rfl _ _ gb361 25 #[.slice Ao103 x364000_1.length co103, .slice Ao107 x364001_1.length co107] (0, 0) _ rfl (by refine pk ?_; refine blk_put (cs := #[.slice Ao103 x364000_1.length co103, .slice none 0 0]) ?_ 1 _ rfl; refine pk ?_; refine blk_put (cs := #[.slice none 0 0, .slice none 0 0]) ?_ 0 _ rfl; refine pk ?_; exact BK361.out) Try.underlying25 rfl (by kernel_rfl)) rfl ?_
     exact ⟨_, _, by first | rfl | (simp [errW_none, errW_some] <;> rfl) | (simp [*, errW_none, errW_some] <;> rfl), by refine rk ?_; exact Kd.R_mono (fr2 HO_364000.out BK361.out (by decide) 0 (.slice Ao103 x364000_1.length co103) 1 (.slice Ao107 x364001_1.length co107)) (fun _ hk => hk.1), by refine rk ?_; exact Kd.R_mono (fr2 HO_364001.out BK361.out (by decide) 0 (.slice Ao103 x364000_1.length co103) 1 (.slice Ao107 x364001_1.length co107)) (fun _ hk => hk.1), by repeat (with_reducible first | exact HB.out | refine bz ?_ (by assumption) | apply bA | apply bN | apply bD)⟩
 ·replace c4 := Bool.eq_false_iff.mpr c4
  subst c4
  have H1 : (some (([] : List Nat), ([] : List Nat), false)) = some (r1, r2, r3) := by rw [if_neg (show ¬ (false = true) by decide)] at H; exact H
  clear H
  have H := H1
  clear H1
  simp only [Option.some.injEq, Prod.mk.injEq] at H
  obtain ⟨rfl, rfl, rfl⟩ := H
  go_enter Try.func6, Try.ntmps6
  go_wp2_with (first | ((with_reducible refine gate_dst (N := 2) rfl ?_); refine box_event ?hg (N := 2) ?hd (cs := #[.slice A0_0 l0_0.length c0_0, .slice A0_1 l0_1.length c0_1]) (t := 25) ?hr ?_; (case hd => rfl); (case hg => rfl); (case hr => first | (go_simp; done) | (go_simp; rfl)); intro gb359 hg w108 hbox hb; have BK359 := a_ (hbox); have GW359 := a_ (bsg hg HB.out); have GE359 := a_ (bsg hg HB.out); replace HB := a_ (below_step (un HB.out) hb); clear hb hbox hg) | ((with_reducible refine gate_dst (N := 3) rfl ?_); refine box_event ?hg (N := 3) ?hd (cs := #[.slice A1_0 l1_0.length c1_0, .slice A1_1 l1_1.length c1_1]) (t := 25) ?hr ?_; (case hd => rfl); (case hg => rfl); (case hr => first | (go_simp; done) | (go_simp; rfl)); intro gb360 hg w109 hbox hb; have BK360 := a_ (hbox); have GW360 := a_ (bsg hg HB.out); have GE360 := a_ (bsg hg HB.out); replace HB := a_ (below_step (by repeat (with_reducible first | exact HB.out | refine bz ?_ (by assumption) | apply bA | apply bN | apply bD)) hb); have NB359_360 := a_ (nel hg BK359.out); have NB360_359 := a_ (nle hg BK359.out); replace BK359 := a_ (blk_below (pk BK359.out) hb); clear hb hbox hg) | ((with_reducible refine gate_dst (N := 4) rfl ?_); refine box_event ?hg (N := 4) ?hd (cs := #[.slice none 0 0, .slice none 0 0]) (t := 25) ?hr ?_; (case hd => rfl); (case hg => rfl); (case hr => first | (go_simp; done) | (go_simp; rfl)); intro gb361 hg w110 hbox hb; have BK361 := a_ (hbox); have GW361 := a_ (bsg hg HB.out); have GE361 := a_ (bsg hg HB.out); replace HB := a_ (below_step (by repeat (with_reducible first | exact HB.out | refine bz ?_ (by assumption) | apply bA | apply bN | apply bD)) hb); have NB359_361 := a_ (nel hg BK359.out); have NB361_359 := a_ (nle hg BK359.out); replace BK359 := a_ (blk_below (pk BK359.out) hb); have NB360_361 := a_ (nel hg BK360.out); have NB361_360 := a_ (nle hg BK360.out); replace BK360 := a_ (blk_below (pk BK360.out) hb); clear hb hbox hg; have hnb111 := NB359_360.out; have hnc111 := NB360_359.out; have hnb112 := NB359_361.out; have hnc112 := NB361_359.out; have hcz113_0 : _ = some (Value.slice A0_0 l0_0.length c0_0) := (blk_cell BK359.out 0).trans rfl; have hcz113_1 : _ = some (Value.slice A0_1 l0_1.length c0_1) := (blk_cell BK359.out 1).trans rfl; have hfz113_0 := blk_frozen BK359.out 0; have hfz113_1 := blk_frozen BK359.out 1; have hnb114 := NB360_361.out; have hnc114 := NB361_360.out; have hcz115_0 : _ = some (Value.slice A1_0 l1_0.length c1_0) := (blk_cell BK360.out 0).trans rfl; have hcz115_1 : _ = some (Value.slice A1_1 l1_1.length c1_1) := (blk_cell BK360.out 1).trans rfl; have hfz115_0 := blk_frozen BK360.out 0; have hfz115_1 := blk_frozen BK360.out 1) | ((with_reducible refine gate_callee (f := 13) rfl ?_); refine goesL_ (some 12) rfl rfl Try.func13 (by kernel_rfl) rfl #[.agg #[.slice A0_0 l0_0.length c0_0, .slice A0_1 l0_1.length c0_1], .agg #[.slice A1_0 l1_0.length c1_0, .slice A1_1 l1_1.length c1_1]] rfl (by (try simp only [lA, lB, lC]); first | done | rfl | (simp only [lD, lE]; rfl)) ?_; (with_reducible refine (spec_l17Pair.calls k _ _ l0_0 _ _ l0_1 _ _ l1_0 _ _ l1_1 false _ ?side1 ?side2 ?side3 ?side4 ?side5 ?side6 ?side7 ?side8 A3.out).mono ?_); (case side1 => exact Kd.C_below HR0_0.out (un HB.out)); (case side2 => exact HC0_0.out); (case side3 => exact Kd.C_below HR0_1.out (un HB.out)); (case side4 => exact HC0_1.out); (case side5 => exact Kd.C_below HR1_0.out (un HB.out)); (case side6 => exact HC1_0.out); (case side7 => exact Kd.C_below HR1_1.out (un HB.out)); (case side8 => exact HC1_1.out); rintro e w116 ⟨rfl, hb⟩; refine ⟨_, rfl, ?_⟩; replace BK359 := a_ (blk_below (pk BK359.out) hb); replace BK360 := a_ (blk_below (pk BK360.out) hb); replace BK361 := a_ (blk_below (pk BK361.out) hb); replace HB := a_ (below_step (by repeat (with_reducible first | exact HB.out | refine bz ?_ (by assumption) | apply bA | apply bN | apply bD)) hb); clear hb; have hcz117_0 : _ = some (Value.slice none 0 0) := (blk_cell BK361.out 0).trans rfl; have hcz117_1 : _ = some (Value.slice none 0 0) := (blk_cell BK361.out 1).trans rfl; have hfz117_0 := blk_frozen BK361.out 0; have hfz117_1 := blk_frozen BK361.out 1))
  refine bodyPost_ret (results_ct rfl _ _ gb361 25 #[.slice none 0 0, .slice none 0 0] (0, 0) _ rfl (by refine pk ?_; refine blk_put (cs := #[.slice none 0 0, .slice none 0 0]) ?_ 1 _ rfl; refine pk ?_; refine blk_put (cs := #[.slice none 0 0, .slice none 0 0]) ?_ 0 _ rfl; refine pk ?_; exact BK361.out) Try.underlying25 rfl (by kernel_rfl)) rfl ?_
  exact ⟨_, _, by first | rfl | (simp [errW_none, errW_some] <;> rfl) | (simp [*, errW_none, errW_some] <;> rfl), by first | exact Kd.R_nil _ _ _ _ _ | exact Kd.N_nil _ _ _ _ _ | exact Kd.V_nil _ _ _ _ _ | exact Kd.Q_nil _ _ _ _ _ | exact Kd.S_nil _ _ _ _ _, by first | exact Kd.R_nil _ _ _ _ _ | exact Kd.N_nil _ _ _ _ _ | exact Kd.V_nil _ _ _ _ _ | exact Kd.Q_nil _ _ _ _ _ | exact Kd.S_nil _ _ _ _ _, by repeat (with_reducible first | exact HB.out | refine bz ?_ (by assumption) | apply bA | apply bN | apply bD)⟩

/-! ### impl_BoxWithin: function 7 -/
def impl_BoxWithin.l0 : Nat → Int → Int → List Nat → List Nat → List Nat → List Nat → Option (Bool)
 | 0, _, _, _, _, _, _ => none
 | k + 1, x12, x13, x398000, x398001, x399000, x399001 => if x13 < x12 then (if 0 ≤ x13 then (if x13 < (x398000.length : Int) then (if x13 < (x399000.length : Int) then (if (FloatKind.f64.format.order (rdOf (0 : Nat) x398000 x13) (rdOf (0 : Nat) x399000 x13) == some Ordering.lt) = true then (some false) else (if x13 < (x398001.length : Int) then (if x13 < (x399001.length : Int) then (if (FloatKind.f64.format.order (rdOf (0 : Nat) x398001 x13) (rdOf (0 : Nat) x399001 x13) == some Ordering.gt) = true then (some false) else (impl_BoxWithin.l0 k x12 (wrap64 (x13 + 1)) x398000 x398001 x399000 x399001)) else (none)) else (none))) else (none)) else (none)) else (none)) else (some true)
def impl_BoxWithin.f (k : Nat) (l0_0 : List Nat) (l0_1 : List Nat) (l1_0 : List Nat) (l1_1 : List Nat) : Option (Bool) := (impl_alike.f k l0_0 l0_1 l1_0 l1_1).bind fun t399 => (if t399 = true then (impl_BoxWithin.l0 k (l0_0.length : Int) 0 l0_0 l0_1 l1_0 l1_1) else (some false))
theorem impl_BoxWithin.mono_l : ∀ k, (∀ y0 y1 y2 y3 y4 y5, LeO (impl_BoxWithin.l0 k y0 y1 y2 y3 y4 y5) (impl_BoxWithin.l0 (k + 1) y0 y1 y2 y3 y4 y5))
 | 0 => fun _ _ _ _ _ _ r h => by simp [impl_BoxWithin.l0] at h
 | k + 1 => by
  have ih0 := impl_BoxWithin.mono_l k
  ·intro y0 y1 y2 y3 y4 y5
   unfold impl_BoxWithin.l0
   repeat' first
   | (with_reducible exact ih0 _ _ _ _ _ _)
   | (with_reducible exact impl_alike.mono _ _ _ _ _)
   | (with_reducible exact LeO.refl _)
   | (with_reducible exact LeO.none _)
   | (with_reducible refine LeO.ite ?_ ?_)
   | (with_reducible refine LeO.bind ?_ (fun _ => ?_))
   | exact ih0 _ _ _ _ _ _
   | exact impl_alike.mono _ _ _ _ _
   | exact LeO.none _
   | refine LeO.ite ?_ ?_
   | refine LeO.bind ?_ (fun _ => ?_)
theorem impl_BoxWithin.mono : ∀ a0 a1 a2 a3 k, LeO (impl_BoxWithin.f k a0 a1 a2 a3) (impl_BoxWithin.f (k + 1) a0 a1 a2 a3) := by
 intro a0 a1 a2 a3 k
 have ih0 := impl_BoxWithin.mono_l k
 unfold impl_BoxWithin.f
 repeat' first
   | (with_reducible exact ih0 _ _ _ _ _ _)
   | (with_reducible exact impl_alike.mono _ _ _ _ _)
   | (with_reducible exact LeO.refl _)
   | (with_reducible exact LeO.none _)
   | (with_reducible refine LeO.ite ?_ ?_)
   | (with_reducible refine LeO.bind ?_ (fun _ => ?_))
   | exact ih0 _ _ _ _ _ _
   | exact impl_alike.mono _ _ _ _ _
   | exact LeO.none _
   | refine LeO.ite ?_ ?_
   | refine LeO.bind ?_ (fun _ => ?_)
set_option maxHeartbeats 8000000 in
set_option maxRecDepth 100000 in
theorem impl_BoxWithin.calls (k : Nat) (A0_0 : Option Addr) (c0_0 : Nat) (l0_0 : List Nat) (A0_1 : Option Addr) (c0_1 : Nat) (l0_1 : List Nat) (A1_0 : Option Addr) (c1_0 : Nat) (l1_0 : List Nat) (A1_1 : Option Addr) (c1_1 : Nat) (l1_1 : List Nat) (r : Bool) (w : World) (hr0_0 : Kd.C Kd.flt w A0_0 l0_0.length l0_0) (hc0_0 : l0_0.length ≤ c0_0) (hr0_1 : Kd.C Kd.flt w A0_1 l0_1.length l0_1) (hc0_1 : l0_1.length ≤ c0_1) (hr1_0 : Kd.C Kd.flt w A1_0 l1_0.length l1_0) (hc1_0 : l1_0.length ≤ c1_0) (hr1_1 : Kd.C Kd.flt w A1_1 l1_1.length l1_1) (hc1_1 : l1_1.length ≤ c1_1) (h : impl_BoxWithin.f k l0_0 l0_1 l1_0 l1_1 = some r) :
  Calls Try.prog 7 #[.agg #[.slice A0_0 l0_0.length c0_0, .slice A0_1 l0_1.length c0_1], .agg #[.slice A1_0 l1_0.length c1_0, .slice A1_1 l1_1.length c1_1]] w fun e w' => e = .returned (.bool r) ∧ Below w.heap.size w w' := by
 have hu25 := Try.underlying25
 have HR0_0 := Aside0.mk hr0_0
 have HC0_0 := Aside0.mk hc0_0
 clear hr0_0 hc0_0
 have HR0_1 := Aside0.mk hr0_1
 have HC0_1 := Aside0.mk hc0_1
 clear hr0_1 hc0_1
 have HR1_0 := Aside0.mk hr1_0
 have HC1_0 := Aside0.mk hc1_0
 clear hr1_0 hc1_0
 have HR1_1 := Aside0.mk hr1_1
 have HC1_1 := Aside0.mk hc1_1
 clear hr1_1 hc1_1
 have HB := a_ (Below.refl w.heap.size w)
 have H : ((impl_alike.f k l0_0 l0_1 l1_0 l1_1).bind fun t399 => (if t399 = true then (impl_BoxWithin.l0 k (l0_0.length : Int) 0 l0_0 l0_1 l1_0 l1_1) else (some false))) = some r := h
 clear h
 replace H := Option.bind_eq_some_iff.mp H
 obtain ⟨t399, A30, H⟩ := H
 have A3 := Aside0.mk A30
 clear A30
 by_cases c4 : t399 = true
 ·subst c4
  have H1 : (impl_BoxWithin.l0 k (l0_0.length : Int) 0 l0_0 l0_1 l1_0 l1_1) = some r := by rw [if_pos rfl] at H; exact H
  clear H
  have H := H1
  clear H1
  have H' := Aside0.mk H
  clear H
  go_enter Try.func7, Try.ntmps7
  go_wp2_with (first | ((with_reducible refine gate_dst (N := 2) rfl ?_); refine box_event ?hg (N := 2) ?hd (cs := #[.slice A0_0 l0_0.length c0_0, .slice A0_1 l0_1.length c0_1]) (t := 25) ?hr ?_; (case hd => rfl); (case hg => rfl); (case hr => first | (go_simp; done) | (go_simp; rfl)); intro gb397 hg w5 hbox hb; have BK397 := a_ (hbox); have GW397 := a_ (bsg hg HB.out); have GE397 := a_ (bsg hg HB.out); replace HB := a_ (below_step (un HB.out) hb); clear hb hbox hg) | ((with_reducible refine gate_dst (N := 3) rfl ?_); refine box_event ?hg (N := 3) ?hd (cs := #[.slice A1_0 l1_0.length c1_0, .slice A1_1 l1_1.length c1_1]) (t := 25) ?hr ?_; (case hd => rfl); (case hg => rfl); (case hr => first | (go_simp; done) | (go_simp; rfl)); intro gb398 hg w6 hbox hb; have BK398 := a_ (hbox); have GW398 := a_ (bsg hg HB.out); have GE398 := a_ (bsg hg HB.out); replace HB := a_ (below_step (by repeat (with_reducible first | exact HB.out | refine bz ?_ (by assumption) | apply bA | apply bN | apply bD)) hb); have NB397_398 := a_ (nel hg BK397.out); have NB398_397 := a_ (nle hg BK397.out); replace BK397 := a_ (blk_below (pk BK397.out) hb); clear hb hbox hg; have hnb7 := NB397_398.out; have hnc7 := NB398_397.out; have hcz8_0 : _ = some (Value.slice A0_0 l0_0.length c0_0) := (blk_cell BK397.out 0).trans rfl; have hcz8_1 : _ = some (Value.slice A0_1 l0_1.length c0_1) := (blk_cell BK397.out 1).trans rfl; have hfz8_0 := blk_frozen BK397.out 0; have hfz8_1 := blk_frozen BK397.out 1; have hcz9_0 : _ = some (Value.slice A1_0 l1_0.length c1_0) := (blk_cell BK398.out 0).trans rfl; have hcz9_1 : _ = some (Value.slice A1_1 l1_1.length c1_1) := (blk_cell BK398.out 1).trans rfl; have hfz9_0 := blk_frozen BK398.out 0; have hfz9_1 := blk_frozen BK398.out 1) | (go_at_call 12; (with_reducible refine (impl_alike.calls k _ _ l0_0 _ _ l0_1 _ _ l1_0 _ _ l1_1 true _ ?side1 ?side2 ?side3 ?side4 ?side5 ?side6 ?side7 ?side8 A3.out).mono ?_); (case side1 => exact Kd.C_below HR0_0.out (un HB.out)); (case side2 => exact HC0_0.out); (case side3 => exact Kd.C_below HR0_1.out (un HB.out)); (case side4 => exact HC0_1.out); (case side5 => exact Kd.C_below HR1_0.out (un HB.out)); (case side6 => exact HC1_0.out); (case side7 => exact Kd.C_below HR1_1.out (un HB.out)); (case side8 => exact HC1_1.out); rintro e w10 ⟨rfl, hb⟩; replace BK397 := a_ (blk_below (pk BK397.out) hb); replace BK398 := a_ (blk_below (pk BK398.out) hb); replace HB := a_ (below_step (by repeat (with_reducible first | exact HB.out | refine bz ?_ (by assumption) | apply bA | apply bN | apply bD)) hb); clear hb; have hcz11_0 : _ = some (Value.slice A0_0 l0_0.length c0_0) := (blk_cell BK397.out 0).trans rfl; have hcz11_1 : _ = some (Value.slice A0_1 l0_1.length c0_1) := (blk_cell BK397.out 1).trans rfl; have hfz11_0 := blk_frozen BK397.out 0; have hfz11_1 := blk_frozen BK397.out 1))
  repeat (go_quiet (first | ((with_reducible refine gate_dst (N := 2) rfl ?_); refine box_event ?hg (N := 2) ?hd (cs := #[.slice A0_0 l0_0.length c0_0, .slice A0_1 l0_1.length c0_1]) (t := 25) ?hr ?_; (case hd => rfl); (case hg => rfl); (case hr => first | (go_simp; done) | (go_simp; rfl)); intro gb397 hg w5 hbox hb; have BK397 := a_ (hbox); have GW397 := a_ (bsg hg HB.out); have GE397 := a_ (bsg hg HB.out); replace HB := a_ (below_step (un HB.out) hb); clear hb hbox hg) | ((with_reducible refine gate_dst (N := 3) rfl ?_); refine box_event ?hg (N := 3) ?hd (cs := #[.slice A1_0 l1_0.length c1_0, .slice A1_1 l1_1.length c1_1]) (t := 25) ?hr ?_; (case hd => rfl); (case hg => rfl); (case hr => first | (go_simp; done) | (go_simp; rfl)); intro gb398 hg w6 hbox hb; have BK398 := a_ (hbox); have GW398 := a_ (bsg hg HB.out); have GE398 := a_ (bsg hg HB.out); replace HB := a_ (below_step (by repeat (with_reducible first | exact HB.out | refine bz ?_ (by assumption) | apply bA | apply bN | apply bD)) hb); have NB397_398 := a_ (nel hg BK397.out); have NB398_397 := a_ (nle hg BK397.out); replace BK397 := a_ (blk_below (pk BK397.out) hb); clear hb hbox hg; have hnb7 := NB397_398.out; have hnc7 := NB398_397.out; have hcz8_0 : _ = some (Value.slice A0_0 l0_0.length c0_0) := (blk_cell BK397.out 0).trans rfl; have hcz8_1 : _ = some (Value.slice A0_1 l0_1.length c0_1) := (blk_cell BK397.out 1).trans rfl; have hfz8_0 := blk_frozen BK397.out 0; have hfz8_1 := blk_frozen BK397.out 1; have hcz9_0 : _ = some (Value.slice A1_0 l1_0.length c1_0) := (blk_cell BK398.out 0).trans rfl; have hcz9_1 : _ = some (Value.slice A1_1 l1_1.length c1_1) := (blk_cell BK398.out 1).trans rfl; have hfz9_0 := blk_frozen BK398.out 0; have hfz9_1 := blk_frozen BK398.out 1) | (go_at_call 12; (with_reducible refine (impl_alike.calls k _ _ l0_0 _ _ l0_1 _ _ l1_0 _ _ l1_1 true _ ?side1 ?side2 ?side3 ?side4 ?side5 ?side6 ?side7 ?side8 A3.out).mono ?_); (case side1 => exact Kd.C_below HR0_0.out (un HB.out)); (case side2 => exact HC0_0.out); (case side3 => exact Kd.C_below HR0_1.out (un HB.out)); (case side4 => exact HC0_1.out); (case side5 => exact Kd.C_below HR1_0.out (un HB.out)); (case side6 => exact HC1_0.out); (case side7 => exact Kd.C_below HR1_1.out (un HB.out)); (case side8 => exact HC1_1.out); rintro e w10 ⟨rfl, hb⟩; replace BK397 := a_ (blk_below (pk BK397.out) hb); replace BK398 := a_ (blk_below (pk BK398.out) hb); replace HB := a_ (below_step (by repeat (with_reducible first | exact HB.out | refine bz ?_ (by assumption) | apply bA | apply bN | apply bD)) hb); clear hb; have hcz11_0 : _ = some (Value.slice A0_0 l0_0.length c0_0) := (blk_cell BK397.out 0).trans rfl; have hcz11_1 : _ = some (Value.slice A0_1 l0_1.length c0_1) := (blk_cell BK397.out 1).trans rfl; have hfz11_0 := blk_frozen BK397.out 0; have hfz11_1 := blk_frozen BK397.out 1)); try go_wp2_with (first | ((with_reducible refine gate_dst (N := 2) rfl ?_); refine box_event ?hg (N := 2) ?hd (cs := #[.slice A0_0 l0_0.length c0_0, .slice A0_1 l0_1.length c0_1]) (t := 25) ?hr ?_; (case hd => rfl); (case hg => rfl); (case hr => first | (go_simp; done) | (go_simp; rfl)); intro gb397 hg w5 hbox hb; have BK397 := a_ (hbox); have GW397 := a_ (bsg hg HB.out); have GE397 := a_ (bsg hg HB.out); replace HB := a_ (below_step (un HB.out) hb); clear hb hbox hg) | ((with_reducible refine gate_dst (N := 3) rfl ?_); refine box_event ?hg (N := 3) ?hd (cs := #[.slice A1_0 l1_0.length c1_0, .slice A1_1 l1_1.length c1_1]) (t := 25) ?hr ?_; (case hd => rfl); (case hg => rfl); (case hr => first | (go_simp; done) | (go_simp; rfl)); intro gb398 hg w6 hbox hb; have BK398 := a_ (hbox); have GW398 := a_ (bsg hg HB.out); have GE398 := a_ (bsg hg HB.out); replace HB := a_ (below_step (by repeat (with_reducible first | exact HB.out | refine bz ?_ (by assumption) | apply bA | apply bN | apply bD)) hb); have NB397_398 := a_ (nel hg BK397.out); have NB398_397 := a_ (nle hg BK397.out); replace BK397 := a_ (blk_below (pk BK397.out) hb); clear hb hbox hg; have hnb7 := NB397_398.out; have hnc7 := NB398_397.out; have hcz8_0 : _ = some (Value.slice A0_0 l0_0.length c0_0) := (blk_cell BK397.out 0).trans rfl; have hcz8_1 : _ = some (Value.slice A0_1 l0_1.length c0_1) := (blk_cell BK397.out 1).trans rfl; have hfz8_0 := blk_frozen BK397.out 0; have hfz8_1 := blk_frozen BK397.out 1; have hcz9_0 : _ = some (Value.slice A1_0 l1_0.length c1_0) := (blk_cell BK398.out 0).trans rfl; have hcz9_1 : _ = some (Value.slice A1_1 l1_1.length c1_1) := (blk_cell BK398.out 1).trans rfl; have hfz9_0 := blk_frozen BK398.out 0; have hfz9_1 := blk_frozen BK398.out 1) | (go_at_call 12; (with_reducible refine (impl_alike.calls k _ _ l0_0 _ _ l0_1 _ _ l1_0 _ _ l1_1 true _ ?side1 ?side2 ?side3 ?side4 ?side5 ?side6 ?side7 ?side8 A3.out).mono ?_); (case side1 => exact Kd.C_below HR0_0.out (un HB.out)); (case side2 => exact HC0_0.out); (case side3 => exact Kd.C_below HR0_1.out (un HB.out)); (case side4 => exact HC0_1.out); (case side5 => exact Kd.C_below HR1_0.out (un HB.out)); (case side6 => exact HC1_0.out); (case side7 => exact Kd.C_below HR1_1.out (un HB.out)); (case side8 => exact HC1_1.out); rintro e w10 ⟨rfl, hb⟩; replace BK397 := a_ (blk_below (pk BK397.out) hb); replace BK398 := a_ (blk_below (pk BK398.out) hb); replace HB := a_ (below_step (by repeat (with_reducible first | exact HB.out | refine bz ?_ (by assumption) | apply bA | apply bN | apply bD)) hb); clear hb; have hcz11_0 : _ = some (Value.slice A0_0 l0_0.length c0_0) := (blk_cell BK397.out 0).trans rfl; have hcz11_1 : _ = some (Value.slice A0_1 l0_1.length c0_1) := (blk_cell BK397.out 1).trans rfl; have hfz11_0 := blk_frozen BK397.out 0; have hfz11_1 := blk_frozen BK397.out 1)))
  go_loopg [13] k (fun kq v13 w' => ∃ (x13_1 : Int), v13 = .int .i64 x13_1 ∧ Aside0 (impl_BoxWithin.l0 kq (l0_0.length : Int) x13_1 l0_0 l0_1 l1_0 l1_1 = some r) ∧ Aside0 (kq ≤ k) ∧ Aside0 (w'.heap[gb397]? = some (.cells #[(.slice A0_0 l0_0.length c0_0), (.slice A0_1 l0_1.length c0_1)] 25 (0, 0))) ∧ Aside0 (w'.heap[gb398]? = some (.cells #[(.slice A1_0 l1_0.length c1_0), (.slice A1_1 l1_1.length c1_1)] 25 (0, 0))) ∧ Aside0 (Below w.heap.size w w'))
  case atStart => exact ⟨(0), (by first | rfl | (simp; done) | (simp [*]; done)), H', ⟨Nat.le_refl _⟩, ⟨pk BK397.out⟩, ⟨pk BK398.out⟩, ⟨by repeat (with_reducible first | exact HB.out | refine bz ?_ (by assumption) | apply bA | apply bN | apply bD)⟩⟩
  case round =>
   clear H'
   try clear c1; try clear p2; try clear c4; try clear c7; try clear hcz11_0; try clear hcz11_1; try clear hcz8_0; try clear hcz8_1; try clear hcz9_0; try clear hcz9_1; try clear hfz11_0; try clear hfz11_1; try clear hfz8_0; try clear hfz8_1; try clear hfz9_0; try clear hfz9_1
   obtain ⟨x13_1, rfl, HA, HK1, BK397, BK398, HB⟩ := hrel
   cases gk with
   | zero => exact absurd HA.out (by simp [impl_BoxWithin.l0])
   | succ k1 =>
    have H := HA.out
    clear HA
    simp only [impl_BoxWithin.l0] at H
    by_cases c12 : x13_1 < (l0_0.length : Int)
    ·rw [if_pos c12] at H
     have c12b0 : decide (x13_1 < (l0_0.length : Int)) = true := decide_eq_true c12
     clear c12
     by_cases c13 : 0 ≤ x13_1
     ·rw [if_pos c13] at H
      have c13b0 : decide (0 ≤ x13_1) = true := decide_eq_true c13
      clear c13
      by_cases c14 : x13_1 < (l0_0.length : Int)
      ·rw [if_pos c14] at H
       have c14b0 : decide (x13_1 < (l0_0.length : Int)) = true := decide_eq_true c14
       clear c14
       by_cases c15 : x13_1 < (l1_0.length : Int)
       ·rw [if_pos c15] at H
        have c15b0 : decide (x13_1 < (l1_0.length : Int)) = true := decide_eq_true c15
        clear c15
        by_cases c16 : (FloatKind.f64.format.order (rdOf (0 : Nat) l0_0 x13_1) (rdOf (0 : Nat) l1_0 x13_1) == some Ordering.lt) = true
        ·rw [if_pos c16] at H
         have c16b0 : (FloatKind.f64.format.order (rdOf (0 : Nat) l0_0 x13_1) (rdOf (0 : Nat) l1_0 x13_1) == some Ordering.lt) = true := c16
         (try (have c16b1 : decide (FloatKind.f64.format.order (rdOf (0 : Nat) l0_0 x13_1) (rdOf (0 : Nat) l1_0 x13_1) = some Ordering.lt) = true := by simpa using c16))
         (try (have c16b2 : (FloatKind.f64.format.order (rdOf (0 : Nat) l0_0 x13_1) (rdOf (0 : Nat) l1_0 x13_1) == some Ordering.lt) = true := by simpa using c16))
         clear c16
         obtain rfl := Option.some.inj H
         have hnb17 := NB397_398.out
         have hnc17 := NB398_397.out
         have hcz18_0 : wr.cell? ⟨gb397, 0, none⟩ = some (.slice A0_0 l0_0.length c0_0) := (blk_cell BK397.out 0).trans rfl
         have hcz18_1 : wr.cell? ⟨gb397, 1, none⟩ = some (.slice A0_1 l0_1.length c0_1) := (blk_cell BK397.out 1).trans rfl
         have hfz18_0 := blk_frozen BK397.out 0
         have hfz18_1 := blk_frozen BK397.out 1
         have p400 : 0 ≤ (x13_1 : Int) := of_decide_eq_true (by first | (with_reducible assumption) | assumption)
         have q400 : x13_1 < (l0_0.length : Int) := of_decide_eq_true (by first | (with_reducible assumption) | assumption)
         obtain ⟨ad400, e400, hx400_0⟩ := Kd.at_flt HR0_0.out x13_1 p400 q400
         cases e400
         replace hx400_0 := (HB.out.cell (World.block_lt_of_cell? w _ hx400_0)).trans hx400_0
         replace p400 := eq_true p400
         replace q400 := eq_true q400
         have hcz19_0 : wr.cell? ⟨gb398, 0, none⟩ = some (.slice A1_0 l1_0.length c1_0) := (blk_cell BK398.out 0).trans rfl
         have hcz19_1 : wr.cell? ⟨gb398, 1, none⟩ = some (.slice A1_1 l1_1.length c1_1) := (blk_cell BK398.out 1).trans rfl
         have hfz19_0 := blk_frozen BK398.out 0
         have hfz19_1 := blk_frozen BK398.out 1
         have p401 : 0 ≤ (x13_1 : Int) := of_decide_eq_true (by first | (with_reducible assumption) | assumption)
         have q401 : x13_1 < (l1_0.length : Int) := of_decide_eq_true (by first | (with_reducible assumption) | assumption)
         obtain ⟨ad401, e401, hx401_0⟩ := Kd.at_flt HR1_0.out x13_1 p401 q401
         cases e401
         replace hx401_0 := (HB.out.cell (World.block_lt_of_cell? w _ hx401_0)).trans hx401_0
         replace p401 := eq_true p401
         replace q401 := eq_true q401
         go_wp2
         repeat (go_quiet (fail); try go_wp2)
         go_ret
         exact ⟨by first | rfl | (simp [errW_none, errW_some] <;> rfl) | (simp [*, errW_none, errW_some] <;> rfl), by repeat (with_reducible first | exact HB.out | refine bz ?_ (by assumption) | apply bA | apply bN | apply bD)⟩
        ·rw [if_neg c16] at H
         have c16b0 : (FloatKind.f64.format.order (rdOf (0 : Nat) l0_0 x13_1) (rdOf (0 : Nat) l1_0 x13_1) == some Ordering.lt) = false := by simpa using c16
         (try (have c16b1 : decide (FloatKind.f64.format.order (rdOf (0 : Nat) l0_0 x13_1) (rdOf (0 : Nat) l1_0 x13_1) = some Ordering.lt) = false := by simpa using c16))
         (try (have c16b2 : (FloatKind.f64.format.order (rdOf (0 : Nat) l0_0 x13_1) (rdOf (0 : Nat) l1_0 x13_1) == some Ordering.lt) = false := by simpa using c16))
         (try (have c16b3 : ¬ (FloatKind.f64.format.order (rdOf (0 : Nat) l0_0 x13_1) (rdOf (0 : Nat) l1_0 x13_1) = some Ordering.lt) := by simpa using c16))
         clear c16
         by_cases c20 : x13_1 < (l0_1.length : Int)
         ·rw [if_pos c20] at H
          have c20b0 : decide (x13_1 < (l0_1.length : Int)) = true := decide_eq_true c20
          clear c20
          by_cases c21 : x13_1 < (l1_1.length : Int)
          ·rw [if_pos c21] at H
           have c21b0 : decide (x13_1 < (l1_1.length : Int)) = true := decide_eq_true c21
           clear c21
           by_cases c22 : (FloatKind.f64.format.order (rdOf (0 : Nat) l0_1 x13_1) (rdOf (0 : Nat) l1_1 x13_1) == some Ordering.gt) = true
           ·rw [if_pos c22] at H
            have c22b0 : (FloatKind.f64.format.order (rdOf (0 : Nat) l0_1 x13_1) (rdOf (0 : Nat) l1_1 x13_1) == some Ordering.gt) = true := c22
            (try (have c22b1 : decide (FloatKind.f64.format.order (rdOf (0 : Nat) l0_1 x13_1) (rdOf (0 : Nat) l1_1 x13_1) = some Ordering.gt) = true := by simpa using c22))
            (try (have c22b2 : (FloatKind.f64.format.order (rdOf (0 : Nat) l0_1 x13_1) (rdOf (0 : Nat) l1_1 x13_1) == some Ordering.gt) = true := by simpa using c22))
            clear c22
            obtain rfl := Option.some.inj H
            have hnb23 := NB397_398.out
            have hnc23 := NB398_397.out
            have hcz24_0 : wr.cell? ⟨gb397, 0, none⟩ = some (.slice A0_0 l0_0.length c0_0) := (blk_cell BK397.out 0).trans rfl
            have hcz24_1 : wr.cell? ⟨gb397, 1, none⟩ = some (.slice A0_1 l0_1.length c0_1) := (blk_cell BK397.out 1).trans rfl
            have hfz24_0 := blk_frozen BK397.out 0
            have hfz24_1 := blk_frozen BK397.out 1
            have p400 : 0 ≤ (x13_1 : Int) := of_decide_eq_true (by first | (with_reducible assumption) | assumption)
            have q400 : x13_1 < (l0_0.length : Int) := of_decide_eq_true (by first | (with_reducible assumption) | assumption)
            obtain ⟨ad400, e400, hx400_0⟩ := Kd.at_flt HR0_0.out x13_1 p400 q400
            cases e400
            replace hx400_0 := (HB.out.cell (World.block_lt_of_cell? w _ hx400_0)).trans hx400_0
            replace p400 := eq_true p400
            replace q400 := eq_true q400
            have hcz25_0 : wr.cell? ⟨gb398, 0, none⟩ = some (.slice A1_0 l1_0.length c1_0) := (blk_cell BK398.out 0).trans rfl
            have hcz25_1 : wr.cell? ⟨gb398, 1, none⟩ = some (.slice A1_1 l1_1.length c1_1) := (blk_cell BK398.out 1).trans rfl
            have hfz25_0 := blk_frozen BK398.out 0
            have hfz25_1 := blk_frozen BK398.out 1
            have p401 : 0 ≤ (x13_1 : Int) := of_decide_eq_true (by first | (with_reducible assumption) | assumption)
            have q401 : x13_1 < (l1_0.length : Int) := of_decide_eq_true (by first | (with_reducible assumption) | assumption)
            obtain ⟨ad401, e401, hx401_0⟩ := Kd.at_flt HR1_0.out x13_1 p401 q401
            cases e401
            replace hx401_0 := (HB.out.cell (World.block_lt_of_cell? w _ hx401_0)).trans hx401_0
            replace p401 := eq_true p401
            replace q401 := eq_true q401
            have p402 : 0 ≤ (x13_1 : Int) := of_decide_eq_true (by first | (with_reducible assumption) | assumption)
            have q402 : x13_1 < (l0_1.length : Int) := of_decide_eq_true (by first | (with_reducible assumption) | assumption)
            obtain ⟨ad402, e402, hx402_0⟩ := Kd.at_flt HR0_1.out x13_1 p402 q402
            cases e402
            replace hx402_0 := (HB.out.cell (World.block_lt_of_cell? w _ hx402_0)).trans hx402_0
            replace p402 := eq_true p402
            replace q402 := eq_true q402
            have p403 : 0 ≤ (x13_1 : Int) := of_decide_eq_true (by first | (with_reducible assumption) | assumption)
            have q403 : x13_1 < (l1_1.length : Int) := of_decide_eq_true (by first | (with_reducible assumption) | assumption)
            obtain ⟨ad403, e403, hx403_0⟩ := Kd.at_flt HR1_1.out x13_1 p403 q403
            cases e403
            replace hx403_0 := (HB.out.cell (World.block_lt_of_cell? w _ hx403_0)).trans hx403_0
            replace p403 := eq_true p403
            replace q403 := eq_true q403
            go_wp2
            repeat (go_quiet (fail); try go_wp2)
            go_ret
            exact ⟨by first | rfl | (simp [errW_none, errW_some] <;> rfl) | (simp [*, errW_none, errW_some] <;> rfl), by repeat (with_reducible first | exact HB.out | refine bz ?_ (by assumption) | apply bA | apply bN | apply bD)⟩
           ·rw [if_neg c22] at H
            have c22b0 : (FloatKind.f64.format.order (rdOf (0 : Nat) l0_1 x13_1) (rdOf (0 : Nat) l1_1 x13_1) == some Ordering.gt) = false := by simpa using c22
            (try (have c22b1 : decide (FloatKind.f64.format.order (rdOf (0 : Nat) l0_1 x13_1) (rdOf (0 : Nat) l1_1 x13_1) = some Ordering.gt) = false := by simpa using c22))
            (try (have c22b2 : (FloatKind.f64.format.order (rdOf (0 : Nat) l0_1 x13_1) (rdOf (0 : Nat) l1_1 x13_1) == some Ordering.gt) = false := by simpa using c22))
            (try (have c22b3 : ¬ (FloatKind.f64.format.order (rdOf (0 : Nat) l0_1 x13_1) (rdOf (0 : Nat) l1_1 x13_1) = some Ordering.gt) := by simpa using c22))
            clear c22
            have H' := Aside0.mk H
            clear H
            have hnb26 := NB397_398.out
            have hnc26 := NB398_397.out
            have hcz27_0 : wr.cell? ⟨gb397, 0, none⟩ = some (.slice A0_0 l0_0.length c0_0) := (blk_cell BK397.out 0).trans rfl
            have hcz27_1 : wr.cell? ⟨gb397, 1, none⟩ = some (.slice A0_1 l0_1.length c0_1) := (blk_cell BK397.out 1).trans rfl
            have hfz27_0 := blk_frozen BK397.out 0
            have hfz27_1 := blk_frozen BK397.out 1
            have p400 : 0 ≤ (x13_1 : Int) := of_decide_eq_true (by first | (with_reducible assumption) | assumption)
            have q400 : x13_1 < (l0_0.length : Int) := of_decide_eq_true (by first | (with_reducible assumption) | assumption)
            obtain ⟨ad400, e400, hx400_0⟩ := Kd.at_flt HR0_0.out x13_1 p400 q400
            cases e400
            replace hx400_0 := (HB.out.cell (World.block_lt_of_cell? w _ hx400_0)).trans hx400_0
            replace p400 := eq_true p400
            replace q400 := eq_true q400
            have hcz28_0 : wr.cell? ⟨gb398, 0, none⟩ = some (.slice A1_0 l1_0.length c1_0) := (blk_cell BK398.out 0).trans rfl
            have hcz28_1 : wr.cell? ⟨gb398, 1, none⟩ = some (.slice A1_1 l1_1.length c1_1) := (blk_cell BK398.out 1).trans rfl
            have hfz28_0 := blk_frozen BK398.out 0
            have hfz28_1 := blk_frozen BK398.out 1
            have p401 : 0 ≤ (x13_1 : Int) := of_decide_eq_true (by first | (with_reducible assumption) | assumption)
            have q401 : x13_1 < (l1_0.length : Int) := of_decide_eq_true (by first | (with_reducible assumption) | assumption)
            obtain ⟨ad401, e401, hx401_0⟩ := Kd.at_flt HR1_0.out x13_1 p401 q401
            cases e401
            replace hx401_0 := (HB.out.cell (World.block_lt_of_cell? w _ hx401_0)).trans hx401_0
            replace p401 := eq_true p401
            replace q401 := eq_true q401
            have p402 : 0 ≤ (x13_1 : Int) := of_decide_eq_true (by first | (with_reducible assumption) | assumption)
            have q402 : x13_1 < (l0_1.length : Int) := of_decide_eq_true (by first | (with_reducible assumption) | assumption)
            obtain ⟨ad402, e402, hx402_0⟩ := Kd.at_flt HR0_1.out x13_1 p402 q402
            cases e402
            replace hx402_0 := (HB.out.cell (World.block_lt_of_cell? w _ hx402_0)).trans hx402_0
            replace p402 := eq_true p402
            replace q402 := eq_true q402
            have p403 : 0 ≤ (x13_1 : Int) := of_decide_eq_true (by first | (with_reducible assumption) | assumption)
            have q403 : x13_1 < (l1_1.length : Int) := of_decide_eq_true (by first | (with_reducible assumption) | assumption)
            obtain ⟨ad403, e403, hx403_0⟩ := Kd.at_flt HR1_1.out x13_1 p403 q403
            cases e403
            replace hx403_0 := (HB.out.cell (World.block_lt_of_cell? w _ hx403_0)).trans hx403_0
            replace p403 := eq_true p403
            replace q403 := eq_true q403
            go_wp2
            repeat (go_quiet (fail); try go_wp2)
            go_roundg k1
            case measure => have := HK1.out; omega
            case rel => exact ⟨(wrap64 (x13_1 + 1)), (by first | rfl | (simp; done) | (simp [*]; done)), H', ⟨by have := HK1.out; omega⟩, ⟨pk BK397.out⟩, ⟨pk BK398.out⟩, ⟨by repeat (with_reducible first | exact HB.out | refine bz ?_ (by assumption) | apply bA | apply bN | apply bD)⟩⟩
          ·rw [if_neg c21] at H
           exact absurd H (by simp)
         ·rw [if_neg c20] at H
          exact absurd H (by simp)
       ·rw [if_neg c15] at H
        exact absurd H (by simp)
      ·rw [if_neg c14] at H
       exact absurd H (by simp)
     ·rw [if_neg c13] at H
      exact absurd H (by simp)
    ·rw [if_neg c12] at H
     have c12b0 : decide (x13_1 < (l0_0.length : Int)) = false := decide_eq_false c12
     clear c12
     obtain rfl := Option.some.inj H
     go_wp2
     repeat (go_quiet (fail); try go_wp2)
     go_ret
     exact ⟨by first | rfl | (simp [errW_none, errW_some] <;> rfl) | (simp [*, errW_none, errW_some] <;> rfl), by repeat (with_reducible first | exact HB.out | refine bz ?_ (by assumption) | apply bA | apply bN | apply bD)⟩
 ·replace c4 := Bool.eq_false_iff.mpr c4
  subst c4
  have H1 : (some false) = some r := by rw [if_neg (show ¬ (false = true) by decide)] at H; exact H
  clear H
  have H := H1
  clear H1
  obtain rfl := Option.some.inj H
  go_enter Try.func7, Try.ntmps7
  go_wp2_with (first | ((with_reducible refine gate_dst (N := 2) rfl ?_); refine box_event ?hg (N := 2) ?hd (cs := #[.slice A0_0 l0_0.length c0_0, .slice A0_1 l0_1.length c0_1]) (t := 25) ?hr ?_; (case hd => rfl); (case hg => rfl); (case hr => first | (go_simp; done) | (go_simp; rfl)); intro gb397 hg w29 hbox hb; have BK397 := a_ (hbox); have GW397 := a_ (bsg hg HB.out); have GE397 := a_ (bsg hg HB.out); replace HB := a_ (below_step (un HB.out) hb); clear hb hbox hg) | ((with_reducible refine gate_dst (N := 3) rfl ?_); refine box_event ?hg (N := 3) ?hd (cs := #[.slice A1_0 l1_0.length c1_0, .slice A1_1 l1_1.length c1_1]) (t := 25) ?hr ?_; (case hd => rfl); (case hg => rfl); (case hr => first | (go_simp; done) | (go_simp; rfl)); intro gb398 hg w30 hbox hb; have BK398 := a_ (hbox); have GW398 := a_ (bsg hg HB.out); have GE398 := a_ (bsg hg HB.out); replace HB := a_ (below_step (by repeat (with_reducible first | exact HB.out | refine bz ?_ (by assumption) | apply bA | apply bN | apply bD)) hb); have NB397_398 := a_ (nel hg BK397.out); have NB398_397 := a_ (nle hg BK397.out); replace BK397 := a_ (blk_below (pk BK397.out) hb); clear hb hbox hg; have hnb31 := NB397_398.out; have hnc31 := NB398_397.out; have hcz32_0 : _ = some (Value.slice A0_0 l0_0.length c0_0) := (blk_cell BK397.out 0).trans rfl; have hcz32_1 : _ = some (Value.slice A0_1 l0_1.length c0_1) := (blk_cell BK397.out 1).trans rfl; have hfz32_0 := blk_frozen BK397.out 0; have hfz32_1 := blk_frozen BK397.out 1; have hcz33_0 : _ = some (Value.slice A1_0 l1_0.length c1_0) := (blk_cell BK398.out 0).trans rfl; have hcz33_1 : _ = some (Value.slice A1_1 l1_1.length c1_1) := (blk_cell BK398.out 1).trans rfl; have hfz33_0 := blk_frozen BK398.out 0; have hfz33_1 := blk_frozen BK398.out 1) | (go_at_call 12; (with_reducible refine (impl_alike.calls k _ _ l0_0 _ _ l0_1 _ _ l1_0 _ _ l1_1 false _ ?side1 ?side2 ?side3 ?side4 ?side5 ?side6 ?side7 ?side8 A3.out).mono ?_); (case side1 => exact Kd.C_below HR0_0.out (un HB.out)); (case side2 => exact HC0_0.out); (case side3 => exact Kd.C_below HR0_1.out (un HB.out)); (case side4 => exact HC0_1.out); (case side5 => exact Kd.C_below HR1_0.out (un HB.out)); (case side6 => exact HC1_0.out); (case side7 => exact Kd.C_below HR1_1.out (un HB.out)); (case side8 => exact HC1_1.out); rintro e w34 ⟨rfl, hb⟩; replace BK397 := a_ (blk_below (pk BK397.out) hb); replace BK398 := a_ (blk_below (pk BK398.out) hb); replace HB := a_ (below_step (by repeat (with_reducible first | exact HB.out | refine bz ?_ (by assumption) | apply bA | apply bN | apply bD)) hb); clear hb))
  repeat (go_quiet (first | ((with_reducible refine gate_dst (N := 2) rfl ?_); refine box_event ?hg (N := 2) ?hd (cs := #[.slice A0_0 l0_0.length c0_0, .slice A0_1 l0_1.length c0_1]) (t := 25) ?hr ?_; (case hd => rfl); (case hg => rfl); (case hr => first | (go_simp; done) | (go_simp; rfl)); intro gb397 hg w29 hbox hb; have BK397 := a_ (hbox); have GW397 := a_ (bsg hg HB.out); have GE397 := a_ (bsg hg HB.out); replace HB := a_ (below_step (un HB.out) hb); clear hb hbox hg) | ((with_reducible refine gate_dst (N := 3) rfl ?_); refine box_event ?hg (N := 3) ?hd (cs := #[.slice A1_0 l1_0.length c1_0, .slice A1_1 l1_1.length c1_1]) (t := 25) ?hr ?_; (case hd => rfl); (case hg => rfl); (case hr => first | (go_simp; done) | (go_simp; rfl)); intro gb398 hg w30 hbox hb; have BK398 := a_ (hbox); have GW398 := a_ (bsg hg HB.out); have GE398 := a_ (bsg hg HB.out); replace HB := a_ (below_step (by repeat (with_reducible first | exact HB.out | refine bz ?_ (by assumption) | apply bA | apply bN | apply bD)) hb); have NB397_398 := a_ (nel hg BK397.out); have NB398_397 := a_ (nle hg BK397.out); replace BK397 := a_ (blk_below (pk BK397.out) hb); clear hb hbox hg; have hnb31 := NB397_398.out; have hnc31 := NB398_397.out; have hcz32_0 : _ = some (Value.slice A0_0 l0_0.length c0_0) := (blk_cell BK397.out 0).trans rfl; have hcz32_1 : _ = some (Value.slice A0_1 l0_1.length c0_1) := (blk_cell BK397.out 1).trans rfl; have hfz32_0 := blk_frozen BK397.out 0; have hfz32_1 := blk_frozen BK397.out 1; have hcz33_0 : _ = some (Value.slice A1_0 l1_0.length c1_0) := (blk_cell BK398.out 0).trans rfl; have hcz33_1 : _ = some (Value.slice A1_1 l1_1.length c1_1) := (blk_cell BK398.out 1).trans rfl; have hfz33_0 := blk_frozen BK398.out 0; have hfz33_1 := blk_frozen BK398.out 1) | (go_at_call 12; (with_reducible refine (impl_alike.calls k _ _ l0_0 _ _ l0_1 _ _ l1_0 _ _ l1_1 false _ ?side1 ?side2 ?side3 ?side4 ?side5 ?side6 ?side7 ?side8 A3.out).mono ?_); (case side1 => exact Kd.C_below HR0_0.out (un HB.out)); (case side2 => exact HC0_0.out); (case side3 => exact Kd.C_below HR0_1.out (un HB.out)); (case side4 => exact HC0_1.out); (case side5 => exact Kd.C_below HR1_0.out (un HB.out)); (case side6 => exact HC1_0.out); (case side7 => exact Kd.C_below HR1_1.out (un HB.out)); (case side8 => exact HC1_1.out); rintro e w34 ⟨rfl, hb⟩; replace BK397 := a_ (blk_below (pk BK397.out) hb); replace BK398 := a_ (blk_below (pk BK398.out) hb); replace HB := a_ (below_step (by repeat (with_reducible first | exact HB.out | refine bz ?_ (by assumption) | apply bA | apply bN | apply bD)) hb); clear hb)); try go_wp2_with (first | ((with_reducible refine gate_dst (N := 2) rfl ?_); refine box_event ?hg (N := 2) ?hd (cs := #[.slice A0_0 l0_0.length c0_0, .slice A0_1 l0_1.length c0_1]) (t := 25) ?hr ?_; (case hd => rfl); (case hg => rfl); (case hr => first | (go_simp; done) | (go_simp; rfl)); intro gb397 hg w29 hbox hb; have BK397 := a_ (hbox); have GW397 := a_ (bsg hg HB.out); have GE397 := a_ (bsg hg HB.out); replace HB := a_ (below_step (un HB.out) hb); clear hb hbox hg) | ((with_reducible refine gate_dst (N := 3) rfl ?_); refine box_event ?hg (N := 3) ?hd (cs := #[.slice A1_0 l1_0.length c1_0, .slice A1_1 l1_1.length c1_1]) (t := 25) ?hr ?_; (case hd => rfl); (case hg => rfl); (case hr => first | (go_simp; done) | (go_simp; rfl)); intro gb398 hg w30 hbox hb; have BK398 := a_ (hbox); have GW398 := a_ (bsg hg HB.out); have GE398 := a_ (bsg hg HB.out); replace HB := a_ (below_step (by repeat (with_reducible first | exact HB.out | refine bz ?_ (by assumption) | apply bA | apply bN | apply bD)) hb); have NB397_398 := a_ (nel hg BK397.out); have NB398_397 := a_ (nle hg BK397.out); replace BK397 := a_ (blk_below (pk BK397.out) hb); clear hb hbox hg; have hnb31 := NB397_398.out; have hnc31 := NB398_397.out; have hcz32_0 : _ = some (Value.slice A0_0 l0_0.length c0_0) := (blk_cell BK397.out 0).trans rfl; have hcz32_1 : _ = some (Value.slice A0_1 l0_1.length c0_1) := (blk_cell BK397.out 1).trans rfl; have hfz32_0 := blk_frozen BK397.out 0; have hfz32_1 := blk_frozen BK397.out 1; have hcz33_0 : _ = some (Value.slice A1_0 l1_0.length c1_0) := (blk_cell BK398.out 0).trans rfl; have hcz33_1 : _ = some (Value.slice A1_1 l1_1.length c1_1) := (blk_cell BK398.out 1).trans rfl; have hfz33_0 := blk_frozen BK398.out 0; have hfz33_1 := blk_frozen BK398.out 1) | (go_at_call 12; (with_reducible refine (impl_alike.calls k _ _ l0_0 _ _ l0_1 _ _ l1_0 _ _ l1_1 false _ ?side1 ?side2 ?side3 ?side4 ?side5 ?side6 ?side7 ?side8 A3.out).mono ?_); (case side1 => exact Kd.C_below HR0_0.out (un HB.out)); (case side2 => exact HC0_0.out); (case side3 => exact Kd.C_below HR0_1.out (un HB.out)); (case side4 => exact HC0_1.out); (case side5 => exact Kd.C_below HR1_0.out (un HB.out)); (case side6 => exact HC1_0.out); (case side7 => exact Kd.C_below HR1_1.out (un HB.out)); (case side8 => exact HC1_1.out); rintro e w34 ⟨rfl, hb⟩; replace BK397 := a_ (blk_below (pk BK397.out) hb); replace BK398 := a_ (blk_below (pk BK398.out) hb); replace HB := a_ (below_step (by repeat (with_reducible first | exact HB.out | refine bz ?_ (by assumption) | apply bA | apply bN | apply bD)) hb); clear hb)))
  go_ret
  exact ⟨by first | rfl | (simp [errW_none, errW_some] <;> rfl) | (simp [*, errW_none, errW_some] <;> rfl), by repeat (with_reducible first | exact HB.out | refine bz ?_ (by assumption) | apply bA | apply bN | apply bD)⟩

end Go.Proofs.Ytbhnnobpjmnngaa.PFnJoins
