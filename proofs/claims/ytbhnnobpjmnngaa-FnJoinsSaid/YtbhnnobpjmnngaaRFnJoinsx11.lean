-- Written by a program of this session out of the loaded functions' print; helper lemmas as print.sh lays them.
import Derived.Test.YtbhnnobpjmnngaaUp2
import Derived.Test.YtbhnnobpjmnngaaUp
import Derived.Test.YtbhnnobpjmnngaaRFnJoinsx0
import Derived.Test.YtbhnnobpjmnngaaRFnJoinsx7
namespace Go.Proofs.Ytbhnnobpjmnngaa.PFnJoins
open Go.RowKit Go.Proofs.YtbhnnobpjmnngaaW.PrintWords Go.Proofs.YtbhnnobpjmnngaaW.PrintLast Go.Proofs.YtbhnnobpjmnngaaW.PrintMore
attribute [local go_sem] max2_int min2_int max_two min_two max_three min_three max_four min_four go_fstore go_fneg go_fadd go_fsub go_fmul go_fquo go_fmax go_fmin go_fconv go_bits go_frombits  -- for this text's walks alone
set_option linter.unusedVariables false
set_option linter.unusedSimpArgs false

/-! ### spec_BoxMeet: function 10 -/
mutual
def spec_BoxMeet.l0 : Nat → Int → Int → List Nat → List Nat → List Nat → List Nat → List Nat → List Nat → Option (List Nat × List Nat × Bool)
 | 0, _, _, _, _, _, _, _, _ => none
 | k + 1, x18, x19, x435000, x435001, x436000, x436001, x439000, x439001 => if x19 < x18 then (if 0 ≤ x19 then (if x19 < (x435000.length : Int) then (if x19 < (x436000.length : Int) then (if (FloatKind.f64.format.order (rdOf (0 : Nat) x436000 x19) (rdOf (0 : Nat) x435000 x19) == some Ordering.gt) = true then (spec_BoxMeet.j1 k x19 (rdOf (0 : Nat) x436000 x19) x18 x19 x435000 x435001 x436000 x436001 x439000 x439001) else (spec_BoxMeet.j1 k x19 (rdOf (0 : Nat) x435000 x19) x18 x19 x435000 x435001 x436000 x436001 x439000 x439001)) else (none)) else (none)) else (none)) else (some (x439000, x439001, true))
def spec_BoxMeet.j1 : Nat → Int → Nat → Int → Int → List Nat → List Nat → List Nat → List Nat → List Nat → List Nat → Option (List Nat × List Nat × Bool)
 | 0, _, _, _, _, _, _, _, _, _, _ => none
 | k + 1, x7, x8, x18, x19, x435000, x435001, x436000, x436001, x439000, x439001 => if 0 ≤ x7 then (if x7 < (x435001.length : Int) then (if x7 < (x436001.length : Int) then (if (FloatKind.f64.format.order (rdOf (0 : Nat) x436001 x7) (rdOf (0 : Nat) x435001 x7) == some Ordering.lt) = true then (if (FloatKind.f64.format.order x8 (rdOf (0 : Nat) x436001 x7) == some Ordering.gt) = true then (some (([] : List Nat), ([] : List Nat), false)) else (if x439000.length < 17592186044416 then (if x439001.length < 17592186044416 then (spec_BoxMeet.l0 k x18 (wrap64 (x19 + 1)) x435000 x435001 x436000 x436001 (x439000 ++ [x8]) (x439001 ++ [rdOf (0 : Nat) x436001 x7])) else (none)) else (none))) else (if (FloatKind.f64.format.order x8 (rdOf (0 : Nat) x435001 x7) == some Ordering.gt) = true then (some (([] : List Nat), ([] : List Nat), false)) else (if x439000.length < 17592186044416 then (if x439001.length < 17592186044416 then (spec_BoxMeet.l0 k x18 (wrap64 (x19 + 1)) x435000 x435001 x436000 x436001 (x439000 ++ [x8]) (x439001 ++ [rdOf (0 : Nat) x435001 x7])) else (none)) else (none)))) else (none)) else (none)) else (none)
end
def spec_BoxMeet.f (k : Nat) (l0_0 : List Nat) (l0_1 : List Nat) (l1_0 : List Nat) (l1_1 : List Nat) : Option (List Nat × List Nat × Bool) := (spec_l17Pair.f k l0_0 l0_1 l1_0 l1_1).bind fun t437 => (if t437 = true then (spec_BoxMeet.l0 k (l0_0.length : Int) 0 l0_0 l0_1 l1_0 l1_1 ([] : List Nat) ([] : List Nat)) else (some (([] : List Nat), ([] : List Nat), false)))
theorem spec_BoxMeet.mono_l : ∀ k, (∀ y0 y1 y2 y3 y4 y5 y6 y7, LeO (spec_BoxMeet.l0 k y0 y1 y2 y3 y4 y5 y6 y7) (spec_BoxMeet.l0 (k + 1) y0 y1 y2 y3 y4 y5 y6 y7)) ∧ (∀ y0 y1 y2 y3 y4 y5 y6 y7 y8 y9, LeO (spec_BoxMeet.j1 k y0 y1 y2 y3 y4 y5 y6 y7 y8 y9) (spec_BoxMeet.j1 (k + 1) y0 y1 y2 y3 y4 y5 y6 y7 y8 y9))
 | 0 => ⟨fun _ _ _ _ _ _ _ _ r h => by simp [spec_BoxMeet.l0] at h, fun _ _ _ _ _ _ _ _ _ _ r h => by simp [spec_BoxMeet.j1] at h⟩
 | k + 1 => by
  obtain ⟨ih0, ih1⟩ := spec_BoxMeet.mono_l k
  refine ⟨?_, ?_⟩
  ·intro y0 y1 y2 y3 y4 y5 y6 y7
   unfold spec_BoxMeet.l0
   repeat' first
   | (with_reducible exact ih0 _ _ _ _ _ _ _ _)
   | (with_reducible exact ih1 _ _ _ _ _ _ _ _ _ _)
   | (with_reducible exact spec_l17Pair.mono _ _ _ _ _)
   | (with_reducible exact LeO.refl _)
   | (with_reducible exact LeO.none _)
   | (with_reducible refine LeO.ite ?_ ?_)
   | (with_reducible refine LeO.bind ?_ (fun _ => ?_))
   | exact ih0 _ _ _ _ _ _ _ _
   | exact ih1 _ _ _ _ _ _ _ _ _ _
   | exact spec_l17Pair.mono _ _ _ _ _
   | exact LeO.none _
   | refine LeO.ite ?_ ?_
   | refine LeO.bind ?_ (fun _ => ?_)
  ·intro y0 y1 y2 y3 y4 y5 y6 y7 y8 y9
   unfold spec_BoxMeet.j1
   repeat' first
   | (with_reducible exact ih0 _ _ _ _ _ _ _ _)
   | (with_reducible exact ih1 _ _ _ _ _ _ _ _ _ _)
   | (with_reducible exact spec_l17Pair.mono _ _ _ _ _)
   | (with_reducible exact LeO.refl _)
   | (with_reducible exact LeO.none _)
   | (with_reducible refine LeO.ite ?_ ?_)
   | (with_reducible refine LeO.bind ?_ (fun _ => ?_))
   | exact ih0 _ _ _ _ _ _ _ _
   | exact ih1 _ _ _ _ _ _ _ _ _ _
   | exact spec_l17Pair.mono _ _ _ _ _
   | exact LeO.none _
   | refine LeO.ite ?_ ?_
   | refine LeO.bind ?_ (fun _ => ?_)
theorem spec_BoxMeet.mono : ∀ a0 a1 a2 a3 k, LeO (spec_BoxMeet.f k a0 a1 a2 a3) (spec_BoxMeet.f (k + 1) a0 a1 a2 a3) := by
 intro a0 a1 a2 a3 k
 obtain ⟨ih0, ih1⟩ := spec_BoxMeet.mono_l k
 unfold spec_BoxMeet.f
 repeat' first
   | (with_reducible exact ih0 _ _ _ _ _ _ _ _)
   | (with_reducible exact ih1 _ _ _ _ _ _ _ _ _ _)
   | (with_reducible exact spec_l17Pair.mono _ _ _ _ _)
   | (with_reducible exact LeO.refl _)
   | (with_reducible exact LeO.none _)
   | (with_reducible refine LeO.ite ?_ ?_)
   | (with_reducible refine LeO.bind ?_ (fun _ => ?_))
   | exact ih0 _ _ _ _ _ _ _ _
   | exact ih1 _ _ _ _ _ _ _ _ _ _
   | exact spec_l17Pair.mono _ _ _ _ _
   | exact LeO.none _
   | refine LeO.ite ?_ ?_
   | refine LeO.bind ?_ (fun _ => ?_)
set_option maxHeartbeats 8000000 in
set_option maxRecDepth 100000 in
theorem spec_BoxMeet.calls (k : Nat) (A0_0 : Option Addr) (c0_0 : Nat) (l0_0 : List Nat) (A0_1 : Option Addr) (c0_1 : Nat) (l0_1 : List Nat) (A1_0 : Option Addr) (c1_0 : Nat) (l1_0 : List Nat) (A1_1 : Option Addr) (c1_1 : Nat) (l1_1 : List Nat) (r1 : List Nat) (r2 : List Nat) (r3 : Bool) (w : World) (hr0_0 : Kd.C Kd.flt w A0_0 l0_0.length l0_0) (hc0_0 : l0_0.length ≤ c0_0) (hr0_1 : Kd.C Kd.flt w A0_1 l0_1.length l0_1) (hc0_1 : l0_1.length ≤ c0_1) (hr1_0 : Kd.C Kd.flt w A1_0 l1_0.length l1_0) (hc1_0 : l1_0.length ≤ c1_0) (hr1_1 : Kd.C Kd.flt w A1_1 l1_1.length l1_1) (hc1_1 : l1_1.length ≤ c1_1) (h : spec_BoxMeet.f k l0_0 l0_1 l1_0 l1_1 = some (r1, r2, r3)) :
  Calls Try.prog 10 #[.agg #[.slice A0_0 l0_0.length c0_0, .slice A0_1 l0_1.length c0_1], .agg #[.slice A1_0 l1_0.length c1_0, .slice A1_1 l1_1.length c1_1]] w fun e w' => ∃ v0_ v1_ : Value, e = .returned (.tuple #[.agg #[v0_, v1_], .bool r3]) ∧ Kd.R Kd.flt 33 w' w.heap.size (fun k_ => N_ v1_ k_) v0_ r1 ∧ Kd.R Kd.flt 33 w' w.heap.size (fun k_ => N_ v0_ k_) v1_ r2 ∧ Below w.heap.size w w' := by
 have hu25 := Try.underlying25
 have HR0_0 := Aside0.mk hr0_0
 have HC0_0 := Aside0.mk hc0_0
 clear hr0_0 hc0_0
 have HR0_1 := Aside0.mk hr0_1
 have HC0_1 := Aside0.mk hc0_1
 clear hr0_1 hc0_1
 have HR1_0 := Aside0.mk hr1_0
 have HC1_0 := Aside0.mk hc1_0
 clear hr1_0 hc1_0
 have HR1_1 := Aside0.mk hr1_1
 have HC1_1 := Aside0.mk hc1_1
 clear hr1_1 hc1_1
 have HB := a_ (Below.refl w.heap.size w)
 have H : ((spec_l17Pair.f k l0_0 l0_1 l1_0 l1_1).bind fun t437 => (if t437 = true then (spec_BoxMeet.l0 k (l0_0.length : Int) 0 l0_0 l0_1 l1_0 l1_1 ([] : List Nat) ([] : List Nat)) else (some (([] : List Nat), ([] : List Nat), false)))) = some (r1, r2, r3) := h
 clear h
 replace H := Option.bind_eq_some_iff.mp H
 obtain ⟨t437, A30, H⟩ := H
 replace H : (if t437 = true then (spec_BoxMeet.l0 k (l0_0.length : Int) 0 l0_0 l0_1 l1_0 l1_1 ([] : List Nat) ([] : List Nat)) else (some (([] : List Nat), ([] : List Nat), false))) = some (r1, r2, r3) := H
 have A3 := Aside0.mk A30
 clear A30
 by_cases c4 : t437 = true
 ·subst c4
  have H1 : (spec_BoxMeet.l0 k (l0_0.length : Int) 0 l0_0 l0_1 l1_0 l1_1 ([] : List Nat) ([] : List Nat)) = some (r1, r2, r3) := by rw [if_pos rfl] at H; exact H
  clear H
  have H := H1
  clear H1
  have H' := Aside0.mk H
  clear H
  go_enter Try.func10, Try.ntmps10
  go_wp2_with (first | ((with_reducible refine gate_dst (N := 2) rfl ?_); refine box_event ?hg (N := 2) ?hd (cs := #[.slice A0_0 l0_0.length c0_0, .slice A0_1 l0_1.length c0_1]) (t := 25) ?hr ?_; (case hd => rfl); (case hg => rfl); (case hr => first | (go_simp; done) | (go_simp; rfl)); intro gb434 hg w5 hbox hb; have BK434 := a_ (hbox); have GW434 := a_ (bsg hg HB.out); have GE434 := a_ (bsg hg HB.out); replace HB := a_ (below_step (un HB.out) hb); clear hb hbox hg) | ((with_reducible refine gate_dst (N := 3) rfl ?_); refine box_event ?hg (N := 3) ?hd (cs := #[.slice A1_0 l1_0.length c1_0, .slice A1_1 l1_1.length c1_1]) (t := 25) ?hr ?_; (case hd => rfl); (case hg => rfl); (case hr => first | (go_simp; done) | (go_simp; rfl)); intro gb435 hg w6 hbox hb; have BK435 := a_ (hbox); have GW435 := a_ (bsg hg HB.out); have GE435 := a_ (bsg hg HB.out); replace HB := a_ (below_step (by repeat (with_reducible first | exact HB.out | refine bz ?_ (by assumption) | apply bA | apply bN | apply bD)) hb); have NB434_435 := a_ (nel hg BK434.out); have NB435_434 := a_ (nle hg BK434.out); replace BK434 := a_ (blk_below (pk BK434.out) hb); clear hb hbox hg) | ((with_reducible refine gate_dst (N := 4) rfl ?_); refine box_event ?hg (N := 4) ?hd (cs := #[.slice none 0 0, .slice none 0 0]) (t := 25) ?hr ?_; (case hd => rfl); (case hg => rfl); (case hr => first | (go_simp; done) | (go_simp; rfl)); intro gb436 hg w7 hbox hb; have BK436 := a_ (hbox); have GW436 := a_ (bsg hg HB.out); have GE436 := a_ (bsg hg HB.out); replace HB := a_ (below_step (by repeat (with_reducible first | exact HB.out | refine bz ?_ (by assumption) | apply bA | apply bN | apply bD)) hb); have NB434_436 := a_ (nel hg BK434.out); have NB436_434 := a_ (nle hg BK434.out); replace BK434 := a_ (blk_below (pk BK434.out) hb); have NB435_436 := a_ (nel hg BK435.out); have NB436_435 := a_ (nle hg BK435.out); replace BK435 := a_ (blk_below (pk BK435.out) hb); clear hb hbox hg; have hnb8 := NB434_435.out; have hnc8 := NB435_434.out; have hnb9 := NB434_436.out; have hnc9 := NB436_434.out; have hcz10_0 : _ = some (Value.slice A0_0 l0_0.length c0_0) := (blk_cell BK434.out 0).trans rfl; have hcz10_1 : _ = some (Value.slice A0_1 l0_1.length c0_1) := (blk_cell BK434.out 1).trans rfl; have hfz10_0 := blk_frozen BK434.out 0; have hfz10_1 := blk_frozen BK434.out 1; have hnb11 := NB435_436.out; have hnc11 := NB436_435.out; have hcz12_0 : _ = some (Value.slice A1_0 l1_0.length c1_0) := (blk_cell BK435.out 0).trans rfl; have hcz12_1 : _ = some (Value.slice A1_1 l1_1.length c1_1) := (blk_cell BK435.out 1).trans rfl; have hfz12_0 := blk_frozen BK435.out 0; have hfz12_1 := blk_frozen BK435.out 1) | ((with_reducible refine gate_callee (f := 13) rfl ?_); refine goesL_ (some 12) rfl rfl Try.func13 (by kernel_rfl) rfl #[.agg #[.slice A0_0 l0_0.length c0_0, .slice A0_1 l0_1.length c0_1], .agg #[.slice A1_0 l1_0.length c1_0, .slice A1_1 l1_1.length c1_1]] rfl (by (try simp only [lA, lB, lC]); first | done | rfl | (simp only [lD, lE]; rfl)) ?_; (with_reducible refine (spec_l17Pair.calls k _ _ l0_0 _ _ l0_1 _ _ l1_0 _ _ l1_1 true _ ?side1 ?side2 ?side3 ?side4 ?side5 ?side6 ?side7 ?side8 A3.out).mono ?_); (case side1 => exact Kd.C_below HR0_0.out (un HB.out)); (case side2 => exact HC0_0.out); (case side3 => exact Kd.C_below HR0_1.out (un HB.out)); (case side4 => exact HC0_1.out); (case side5 => exact Kd.C_below HR1_0.out (un HB.out)); (case side6 => exact HC1_0.out); (case side7 => exact Kd.C_below HR1_1.out (un HB.out)); (case side8 => exact HC1_1.out); rintro e w13 ⟨rfl, hb⟩; refine ⟨_, rfl, ?_⟩; replace BK434 := a_ (blk_below (pk BK434.out) hb); replace BK435 := a_ (blk_below (pk BK435.out) hb); replace BK436 := a_ (blk_below (pk BK436.out) hb); replace HB := a_ (below_step (by repeat (with_reducible first | exact HB.out | refine bz ?_ (by assumption) | apply bA | apply bN | apply bD)) hb); clear hb) | ((with_reducible refine gate_dst (N := 6) rfl ?_); refine box_event ?hg (N := 6) ?hd (cs := #[.slice none 0 0, .slice none 0 0]) (t := 25) ?hr ?_; (case hd => rfl); (case hg => rfl); (case hr => first | (go_simp; done) | (go_simp; rfl)); intro gb438 hg w14 hbox hb; have BK438 := a_ (hbox); have GW438 := a_ (bsg hg HB.out); have GE438 := a_ (bsg hg HB.out); replace HB := a_ (below_step (by repeat (with_reducible first | exact HB.out | refine bz ?_ (by assumption) | apply bA | apply bN | apply bD)) hb); have NB434_438 := a_ (nel hg BK434.out); have NB438_434 := a_ (nle hg BK434.out); replace BK434 := a_ (blk_below (pk BK434.out) hb); have NB435_438 := a_ (nel hg BK435.out); have NB438_435 := a_ (nle hg BK435.out); replace BK435 := a_ (blk_below (pk BK435.out) hb); have NB436_438 := a_ (nel hg BK436.out); have NB438_436 := a_ (nle hg BK436.out); replace BK436 := a_ (blk_below (pk BK436.out) hb); clear hb hbox hg; have hnb15 := NB438_434.out; have hnc15 := NB434_438.out; have hnb16 := NB438_435.out; have hnc16 := NB435_438.out; have hnb17 := NB438_436.out; have hnc17 := NB436_438.out; have hcz18_0 : _ = some (Value.slice none 0 0) := (blk_cell BK438.out 0).trans rfl; have hcz18_1 : _ = some (Value.slice none 0 0) := (blk_cell BK438.out 1).trans rfl; have hfz18_0 := blk_frozen BK438.out 0; have hfz18_1 := blk_frozen BK438.out 1; have hcz19_0 : _ = some (Value.slice A0_0 l0_0.length c0_0) := (blk_cell BK434.out 0).trans rfl; have hcz19_1 : _ = some (Value.slice A0_1 l0_1.length c0_1) := (blk_cell BK434.out 1).trans rfl; have hfz19_0 := blk_frozen BK434.out 0; have hfz19_1 := blk_frozen BK434.out 1))
  go_loopg [19] k (fun kq v19 w' => ∃ (x19_1 : Int) (x439000_1 : List Nat) (x439001_1 : List Nat) (u439000 : Value) (u439001 : Value), v19 = .int .i64 x19_1 ∧ Aside0 (spec_BoxMeet.l0 kq (l0_0.length : Int) x19_1 l0_0 l0_1 l1_0 l1_1 x439000_1 x439001_1 = some (r1, r2, r3)) ∧ Aside0 (kq ≤ k) ∧ Aside0 (Kd.R Kd.flt 33 w' w.heap.size (fun k_ => some k_ ≠ (u439001 : Value).ownBlock) u439000 x439000_1) ∧ Aside0 (Kd.R Kd.flt 33 w' w.heap.size (fun k_ => some k_ ≠ (u439000 : Value).ownBlock) u439001 x439001_1) ∧ Aside0 (w'.heap[gb434]? = some (.cells #[(.slice A0_0 l0_0.length c0_0), (.slice A0_1 l0_1.length c0_1)] 25 (0, 0))) ∧ Aside0 (w'.heap[gb435]? = some (.cells #[(.slice A1_0 l1_0.length c1_0), (.slice A1_1 l1_1.length c1_1)] 25 (0, 0))) ∧ Aside0 (w'.heap[gb436]? = some (.cells #[(.slice none 0 0), (.slice none 0 0)] 25 (0, 0))) ∧ Aside0 (w'.heap[gb438]? = some (.cells #[u439000, u439001] 25 (0, 0))) ∧ Aside0 (Below w.heap.size w w'))
  case atStart => exact ⟨(0), (([] : List Nat)), (([] : List Nat)), (.slice none 0 0), (.slice none 0 0), (by first | rfl | (simp; done) | (simp [*]; done)), H', ⟨Nat.le_refl _⟩, ⟨by first | exact Kd.R_nil _ _ _ _ _ | exact Kd.N_nil _ _ _ _ _ | exact Kd.V_nil _ _ _ _ _ | exact Kd.Q_nil _ _ _ _ _ | exact Kd.S_nil _ _ _ _ _⟩, ⟨by first | exact Kd.R_nil _ _ _ _ _ | exact Kd.N_nil _ _ _ _ _ | exact Kd.V_nil _ _ _ _ _ | exact Kd.Q_nil _ _ _ _ _ | exact Kd.S_nil _ _ _ _ _⟩, ⟨by refine pk ?_; refine blk_far ?_ NB434_438.out _; refine pk ?_; refine blk_far ?_ NB434_438.out _; refine pk ?_; exact BK434.out⟩, ⟨by refine pk ?_; refine blk_far ?_ NB435_438.out _; refine pk ?_; refine blk_far ?_ NB435_438.out _; refine pk ?_; exact BK435.out⟩, ⟨by refine pk ?_; refine blk_far ?_ NB436_438.out _; refine pk ?_; refine blk_far ?_ NB436_438.out _; refine pk ?_; exact BK436.out⟩, ⟨by refine pk ?_; refine blk_put (cs := #[.slice none 0 0, .slice none 0 0]) ?_ 1 _ rfl; refine pk ?_; refine blk_put (cs := #[.slice none 0 0, .slice none 0 0]) ?_ 0 _ rfl; refine pk ?_; exact BK438.out⟩, ⟨by repeat (with_reducible first | exact HB.out | refine bz ?_ (by assumption) | apply bA | apply bN | apply bD)⟩⟩
  case round =>
   clear H'
   try clear c1; try clear p2; try clear c4; try clear c8; try clear c9; try clear c10; try clear c11; try clear c13; try clear c15; try clear c16; try clear c17; try clear hcz10_0; try clear hcz10_1; try clear hcz12_0; try clear hcz12_1; try clear hcz18_0; try clear hcz18_1; try clear hcz19_0; try clear hcz19_1; try clear hfz10_0; try clear hfz10_1; try clear hfz12_0; try clear hfz12_1; try clear hfz18_0; try clear hfz18_1; try clear hfz19_0; try clear hfz19_1
   obtain ⟨x19_1, x439000_1, x439001_1, u439000, u439001, rfl, HA, HK1, HO_439000, HO_439001, BK434, BK435, BK436, BK438, HB⟩ := hrel
   cases gk with
   | zero => exact absurd HA.out (by simp [spec_BoxMeet.l0])
   | succ k1 =>
    have H := HA.out
    clear HA
    simp only [spec_BoxMeet.l0] at H
    by_cases c20 : x19_1 < (l0_0.length : Int)
    ·rw [if_pos c20] at H
     have c20b0 : decide (x19_1 < (l0_0.length : Int)) = true := decide_eq_true c20
     clear c20
     by_cases c21 : 0 ≤ x19_1
     ·rw [if_pos c21] at H
      have c21b0 : decide (0 ≤ x19_1) = true := decide_eq_true c21
      clear c21
      by_cases c22 : x19_1 < (l0_0.length : Int)
      ·rw [if_pos c22] at H
       have c22b0 : decide (x19_1 < (l0_0.length : Int)) = true := decide_eq_true c22
       clear c22
       by_cases c23 : x19_1 < (l1_0.length : Int)
       ·rw [if_pos c23] at H
        have c23b0 : decide (x19_1 < (l1_0.length : Int)) = true := decide_eq_true c23
        clear c23
        have HC24 := Aside0.mk H
        clear H
        have hnb25 := NB434_435.out
        have hnc25 := NB435_434.out
        have hnb26 := NB434_436.out
        have hnc26 := NB436_434.out
        have hnb27 := NB434_438.out
        have hnc27 := NB438_434.out
        have hcz28_0 : wr.cell? ⟨gb434, 0, none⟩ = some (.slice A0_0 l0_0.length c0_0) := (blk_cell BK434.out 0).trans rfl
        have hcz28_1 : wr.cell? ⟨gb434, 1, none⟩ = some (.slice A0_1 l0_1.length c0_1) := (blk_cell BK434.out 1).trans rfl
        have hfz28_0 := blk_frozen BK434.out 0
        have hfz28_1 := blk_frozen BK434.out 1
        have p439 : 0 ≤ (x19_1 : Int) := of_decide_eq_true (by first | (with_reducible assumption) | assumption)
        have q439 : x19_1 < (l0_0.length : Int) := of_decide_eq_true (by first | (with_reducible assumption) | assumption)
        obtain ⟨ad439, e439, hx439_0⟩ := Kd.at_flt HR0_0.out x19_1 p439 q439
        cases e439
        replace hx439_0 := (HB.out.cell (World.block_lt_of_cell? w _ hx439_0)).trans hx439_0
        replace p439 := eq_true p439
        replace q439 := eq_true q439
        have hnb29 := NB435_436.out
        have hnc29 := NB436_435.out
        have hnb30 := NB435_438.out
        have hnc30 := NB438_435.out
        have hcz31_0 : wr.cell? ⟨gb435, 0, none⟩ = some (.slice A1_0 l1_0.length c1_0) := (blk_cell BK435.out 0).trans rfl
        have hcz31_1 : wr.cell? ⟨gb435, 1, none⟩ = some (.slice A1_1 l1_1.length c1_1) := (blk_cell BK435.out 1).trans rfl
        have hfz31_0 := blk_frozen BK435.out 0
        have hfz31_1 := blk_frozen BK435.out 1
        have p440 : 0 ≤ (x19_1 : Int) := of_decide_eq_true (by first | (with_reducible assumption) | assumption)
        have q440 : x19_1 < (l1_0.length : Int) := of_decide_eq_true (by first | (with_reducible assumption) | assumption)
        obtain ⟨ad440, e440, hx440_0⟩ := Kd.at_flt HR1_0.out x19_1 p440 q440
        cases e440
        replace hx440_0 := (HB.out.cell (World.block_lt_of_cell? w _ hx440_0)).trans hx440_0
        replace p440 := eq_true p440
        replace q440 := eq_true q440
        go_upto_if 33 with (fail)
        go_cut [8] (fun v8 wc => ∃ (kq : Nat) (x8_23 : Nat), v8 = .float .f64 x8_23 ∧ Aside0 (spec_BoxMeet.j1 kq x19_1 x8_23 (l0_0.length : Int) x19_1 l0_0 l0_1 l1_0 l1_1 x439000_1 x439001_1 = some (r1, r2, r3)) ∧ Aside0 (kq ≤ k1) ∧ Aside0 (Kd.R Kd.flt 33 wc w.heap.size (fun k_ => some k_ ≠ (u439001 : Value).ownBlock) u439000 x439000_1) ∧ Aside0 (Kd.R Kd.flt 33 wc w.heap.size (fun k_ => some k_ ≠ (u439000 : Value).ownBlock) u439001 x439001_1) ∧ Aside0 (wc.heap[gb434]? = some (.cells #[(.slice (some ad439) l0_0.length c0_0), (.slice A0_1 l0_1.length c0_1)] 25 (0, 0))) ∧ Aside0 (wc.heap[gb435]? = some (.cells #[(.slice (some ad440) l1_0.length c1_0), (.slice A1_1 l1_1.length c1_1)] 25 (0, 0))) ∧ Aside0 (wc.heap[gb436]? = some (.cells #[(.slice none 0 0), (.slice none 0 0)] 25 (0, 0))) ∧ Aside0 (wc.heap[gb438]? = some (.cells #[u439000, u439001] 25 (0, 0))) ∧ Aside0 (Below w.heap.size w wc))
        case first =>
         have H := HC24.out
         clear HC24
         by_cases c32 : (FloatKind.f64.format.order (rdOf (0 : Nat) l1_0 x19_1) (rdOf (0 : Nat) l0_0 x19_1) == some Ordering.gt) = true
         ·rw [if_pos c32] at H
          have c32b0 : (FloatKind.f64.format.order (rdOf (0 : Nat) l1_0 x19_1) (rdOf (0 : Nat) l0_0 x19_1) == some Ordering.gt) = true := c32
          (try (have c32b1 : decide (FloatKind.f64.format.order (rdOf (0 : Nat) l1_0 x19_1) (rdOf (0 : Nat) l0_0 x19_1) = some Ordering.gt) = true := by simpa using c32))
          (try (have c32b2 : (FloatKind.f64.format.order (rdOf (0 : Nat) l1_0 x19_1) (rdOf (0 : Nat) l0_0 x19_1) == some Ordering.gt) = true := by simpa using c32))
          clear c32
          (first | rw [c32b0] | (simp only [i64_w, i32_w]; rw [c32b0]) | skip)
          have H' := Aside0.mk H
          clear H
          have hnb33 := NB435_434.out
          have hnc33 := NB434_435.out
          have hnb34 := NB435_436.out
          have hnc34 := NB436_435.out
          have hnb35 := NB435_438.out
          have hnc35 := NB438_435.out
          have hcz36_0 : wr.cell? ⟨gb435, 0, none⟩ = some (.slice (some ad440) l1_0.length c1_0) := (blk_cell BK435.out 0).trans rfl
          have hcz36_1 : wr.cell? ⟨gb435, 1, none⟩ = some (.slice A1_1 l1_1.length c1_1) := (blk_cell BK435.out 1).trans rfl
          have hfz36_0 := blk_frozen BK435.out 0
          have hfz36_1 := blk_frozen BK435.out 1
          have p441 : 0 ≤ (x19_1 : Int) := of_decide_eq_true (by first | (with_reducible assumption) | assumption)
          have q441 : x19_1 < (l1_0.length : Int) := of_decide_eq_true (by first | (with_reducible assumption) | assumption)
          obtain ⟨ad441, e441, hx441_0⟩ := Kd.at_flt HR1_0.out x19_1 p441 q441
          obtain rfl : ad440 = ad441 := (by injection e441)
          replace hx441_0 := (HB.out.cell (World.block_lt_of_cell? w _ hx441_0)).trans hx441_0
          replace p441 := eq_true p441
          replace q441 := eq_true q441
          go_wp2
          go_meet
          case rel => exact ⟨_, (rdOf (0 : Nat) l1_0 x19_1), (by first | rfl | (simp; done) | (simp [*]; done)), H', ⟨by have := HK1.out; first | omega | exact Nat.le_refl _⟩, ⟨rk (HO_439000.out)⟩, ⟨rk (HO_439001.out)⟩, ⟨pk BK434.out⟩, ⟨pk BK435.out⟩, ⟨pk BK436.out⟩, ⟨pk BK438.out⟩, ⟨by repeat (with_reducible first | exact HB.out | refine bz ?_ (by assumption) | apply bA | apply bN | apply bD)⟩⟩
         ·rw [if_neg c32] at H
          have c32b0 : (FloatKind.f64.format.order (rdOf (0 : Nat) l1_0 x19_1) (rdOf (0 : Nat) l0_0 x19_1) == some Ordering.gt) = false := by simpa using c32
          (try (have c32b1 : decide (FloatKind.f64.format.order (rdOf (0 : Nat) l1_0 x19_1) (rdOf (0 : Nat) l0_0 x19_1) = some Ordering.gt) = false := by simpa using c32))
          (try (have c32b2 : (FloatKind.f64.format.order (rdOf (0 : Nat) l1_0 x19_1) (rdOf (0 : Nat) l0_0 x19_1) == some Ordering.gt) = false := by simpa using c32))
          (try (have c32b3 : ¬ (FloatKind.f64.format.order (rdOf (0 : Nat) l1_0 x19_1) (rdOf (0 : Nat) l0_0 x19_1) = some Ordering.gt) := by simpa using c32))
          clear c32
          (first | rw [c32b0] | (simp only [i64_w, i32_w]; rw [c32b0]) | skip)
          have H' := Aside0.mk H
          clear H
          go_wp2
          go_meet
          case rel => exact ⟨_, (rdOf (0 : Nat) l0_0 x19_1), (by first | rfl | (simp; done) | (simp [*]; done)), H', ⟨by have := HK1.out; first | omega | exact Nat.le_refl _⟩, ⟨rk (HO_439000.out)⟩, ⟨rk (HO_439001.out)⟩, ⟨pk BK434.out⟩, ⟨pk BK435.out⟩, ⟨pk BK436.out⟩, ⟨pk BK438.out⟩, ⟨by repeat (with_reducible first | exact HB.out | refine bz ?_ (by assumption) | apply bA | apply bN | apply bD)⟩⟩
        case rest =>
         clear HC24
         try clear c1; try clear c2; try clear p2; try clear c3; try clear c4; try clear p4; try clear q4; try clear hx4; try clear c8; try clear c9; try clear c10; try clear c11; try clear c13; try clear c15; try clear c16; try clear c17; try clear c20; try clear c20b0; try clear c21; try clear c21b0; try clear c22; try clear c22b0; try clear c23; try clear c23b0; try clear c25; try clear c26; try clear c27; try clear c29; try clear c30; try clear c32; try clear c32b0; try clear c32b1; try clear c32b2; try clear c33; try clear c34; try clear c35; try clear hcz10_0; try clear hcz10_1; try clear hcz12_0; try clear hcz12_1; try clear hcz18_0; try clear hcz18_1; try clear hcz19_0; try clear hcz19_1; try clear hcz28_0; try clear hcz28_1; try clear hcz31_0; try clear hcz31_1; try clear hcz36_0; try clear hcz36_1; try clear hfz10_0; try clear hfz10_1; try clear hfz12_0; try clear hfz12_1; try clear hfz18_0; try clear hfz18_1; try clear hfz19_0; try clear hfz19_1; try clear hfz28_0; try clear hfz28_1; try clear hfz31_0; try clear hfz31_1; try clear hfz36_0; try clear hfz36_1; try clear hx439_0; try clear hx440_0; try clear hx441_0; try clear p2; try clear p439; try clear p440; try clear p441; try clear q439; try clear q440; try clear q441
         obtain ⟨kq, x8_23, rfl, HA, HJ23, HO_439000, HO_439001, BK434, BK435, BK436, BK438, HB⟩ := hcut
         cases kq with
         | zero => exact absurd HA.out (by simp [spec_BoxMeet.j1])
         | succ kj23 =>
          have H := HA.out
          clear HA
          simp only [spec_BoxMeet.j1] at H
          by_cases c37 : 0 ≤ x19_1
          ·rw [if_pos c37] at H
           have c37b0 : decide (0 ≤ x19_1) = true := decide_eq_true c37
           clear c37
           by_cases c38 : x19_1 < (l0_1.length : Int)
           ·rw [if_pos c38] at H
            have c38b0 : decide (x19_1 < (l0_1.length : Int)) = true := decide_eq_true c38
            clear c38
            by_cases c39 : x19_1 < (l1_1.length : Int)
            ·rw [if_pos c39] at H
             have c39b0 : decide (x19_1 < (l1_1.length : Int)) = true := decide_eq_true c39
             clear c39
             by_cases c40 : (FloatKind.f64.format.order (rdOf (0 : Nat) l1_1 x19_1) (rdOf (0 : Nat) l0_1 x19_1) == some Ordering.lt) = true
             ·rw [if_pos c40] at H
              have c40b0 : (FloatKind.f64.format.order (rdOf (0 : Nat) l1_1 x19_1) (rdOf (0 : Nat) l0_1 x19_1) == some Ordering.lt) = true := c40
              (try (have c40b1 : decide (FloatKind.f64.format.order (rdOf (0 : Nat) l1_1 x19_1) (rdOf (0 : Nat) l0_1 x19_1) = some Ordering.lt) = true := by simpa using c40))
              (try (have c40b2 : (FloatKind.f64.format.order (rdOf (0 : Nat) l1_1 x19_1) (rdOf (0 : Nat) l0_1 x19_1) == some Ordering.lt) = true := by simpa using c40))
              clear c40
              by_cases c41 : (FloatKind.f64.format.order x8_23 (rdOf (0 : Nat) l1_1 x19_1) == some Ordering.gt) = true
              ·rw [if_pos c41] at H
               have c41b0 : (FloatKind.f64.format.order x8_23 (rdOf (0 : Nat) l1_1 x19_1) == some Ordering.gt) = true := c41
               (try (have c41b1 : decide (FloatKind.f64.format.order x8_23 (rdOf (0 : Nat) l1_1 x19_1) = some Ordering.gt) = true := by simpa using c41))
               (try (have c41b2 : (FloatKind.f64.format.order x8_23 (rdOf (0 : Nat) l1_1 x19_1) == some Ordering.gt) = true := by simpa using c41))
               clear c41
               simp only [Option.some.injEq, Prod.mk.injEq] at H
               obtain ⟨rfl, rfl, rfl⟩ := H
               have hnb42 := NB434_435.out
               have hnc42 := NB435_434.out
               have hnb43 := NB434_436.out
               have hnc43 := NB436_434.out
               have hnb44 := NB434_438.out
               have hnc44 := NB438_434.out
               have hcz45_0 : wc.cell? ⟨gb434, 0, none⟩ = some (.slice (some ad439) l0_0.length c0_0) := (blk_cell BK434.out 0).trans rfl
               have hcz45_1 : wc.cell? ⟨gb434, 1, none⟩ = some (.slice A0_1 l0_1.length c0_1) := (blk_cell BK434.out 1).trans rfl
               have hfz45_0 := blk_frozen BK434.out 0
               have hfz45_1 := blk_frozen BK434.out 1
               have p442 : 0 ≤ (x19_1 : Int) := of_decide_eq_true (by first | (with_reducible assumption) | assumption)
               have q442 : x19_1 < (l0_1.length : Int) := of_decide_eq_true (by first | (with_reducible assumption) | assumption)
               obtain ⟨ad442, e442, hx442_0⟩ := Kd.at_flt HR0_1.out x19_1 p442 q442
               cases e442
               replace hx442_0 := (HB.out.cell (World.block_lt_of_cell? w _ hx442_0)).trans hx442_0
               replace p442 := eq_true p442
               replace q442 := eq_true q442
               have hnb46 := NB435_436.out
               have hnc46 := NB436_435.out
               have hnb47 := NB435_438.out
               have hnc47 := NB438_435.out
               have hcz48_0 : wc.cell? ⟨gb435, 0, none⟩ = some (.slice (some ad440) l1_0.length c1_0) := (blk_cell BK435.out 0).trans rfl
               have hcz48_1 : wc.cell? ⟨gb435, 1, none⟩ = some (.slice A1_1 l1_1.length c1_1) := (blk_cell BK435.out 1).trans rfl
               have hfz48_0 := blk_frozen BK435.out 0
               have hfz48_1 := blk_frozen BK435.out 1
               have p443 : 0 ≤ (x19_1 : Int) := of_decide_eq_true (by first | (with_reducible assumption) | assumption)
               have q443 : x19_1 < (l1_1.length : Int) := of_decide_eq_true (by first | (with_reducible assumption) | assumption)
               obtain ⟨ad443, e443, hx443_0⟩ := Kd.at_flt HR1_1.out x19_1 p443 q443
               cases e443
               replace hx443_0 := (HB.out.cell (World.block_lt_of_cell? w _ hx443_0)).trans hx443_0
               replace p443 := eq_true p443
               replace q443 := eq_true q443
               have p444 : 0 ≤ (x19_1 : Int) := of_decide_eq_true (by first | (with_reducible assumption) | assumption)
               have q444 : x19_1 < (l1_1.length : Int) := of_decide_eq_true (by first | (with_reducible assumption) | assumption)
               obtain ⟨ad444, e444, hx444_0⟩ := Kd.at_flt HR1_1.out x19_1 p444 q444
               obtain rfl : ad443 = ad444 := (by injection e444)
               replace hx444_0 := (HB.out.cell (World.block_lt_of_cell? w _ hx444_0)).trans hx444_0
               replace p444 := eq_true p444
               replace q444 := eq_true q444
               have hnb49 := NB436_438.out
               have hnc49 := NB438_436.out
               have hcz50_0 : wc.cell? ⟨gb436, 0, none⟩ = some (.slice none 0 0) := (blk_cell BK436.out 0).trans rfl
               have hcz50_1 : wc.cell? ⟨gb436, 1, none⟩ = some (.slice none 0 0) := (blk_cell BK436.out 1).trans rfl
               have hfz50_0 := blk_frozen BK436.out 0
               have hfz50_1 := blk_frozen BK436.out 1
               go_wp2
               refine bodyPost_ret (results_ct rfl _ _ gb436 25 #[.slice none 0 0, .slice none 0 0] (0, 0) _ rfl (by refine pk ?_; refine blk_put (cs := #[.slice none 0 0, .slice none 0 0]) ?_ 1 _ rfl; refine pk ?_; refine blk_put (cs := #[.slice none 0 0, .slice none 0 0]) ?_ 0 _ rfl; refine pk ?_; exact BK436.out) Try.underlying25 rfl (by kernel_rfl)) rfl ?_
               exact ⟨_, _, by first | rfl | (simp [errW_none, errW_some] <;> rfl) | (simp [*, errW_none, errW_some] <;> rfl), by first | exact Kd.R_nil _ _ _ _ _ | exact Kd.N_nil _ _ _ _ _ | exact Kd.V_nil _ _ _ _ _ | exact Kd.Q_nil _ _ _ _ _ | exact Kd.S_nil _ _ _ _ _, by first | exact Kd.R_nil _ _ _ _ _ | exact Kd.N_nil _ _ _ _ _ | exact Kd.V_nil _ _ _ _ _ | exact Kd.Q_nil _ _ _ _ _ | exact Kd.S_nil _ _ _ _ _, by repeat (with_reducible first | exact HB.out | refine bz ?_ (by assumption) | apply bA | apply bN | apply bD)⟩
              ·rw [if_neg c41] at H
               have c41b0 : (FloatKind.f64.format.order x8_23 (rdOf (0 : Nat) l1_1 x19_1) == some Ordering.gt) = false := by simpa using c41
               (try (have c41b1 : decide (FloatKind.f64.format.order x8_23 (rdOf (0 : Nat) l1_1 x19_1) = some Ordering.gt) = false := by simpa using c41))
               (try (have c41b2 : (FloatKind.f64.format.order x8_23 (rdOf (0 : Nat) l1_1 x19_1) == some Ordering.gt) = false := by simpa using c41))
               (try (have c41b3 : ¬ (FloatKind.f64.format.order x8_23 (rdOf (0 : Nat) l1_1 x19_1) = some Ordering.gt) := by simpa using c41))
               clear c41
               by_cases c51 : x439000_1.length < 17592186044416
               ·rw [if_pos c51] at H
                have LMc51 := Aside0.mk c51
                clear c51
                obtain ⟨y445, hy445⟩ : ∃ y_ : List Nat, y_ = (x439000_1 ++ [x8_23]) := ⟨_, rfl⟩
                replace H : (if x439001_1.length < 17592186044416 then (spec_BoxMeet.l0 kj23 (l0_0.length : Int) (wrap64 (x19_1 + 1)) l0_0 l0_1 l1_0 l1_1 y445 (x439001_1 ++ [rdOf (0 : Nat) l1_1 x19_1])) else (none)) = some (r1, r2, r3) := by first | (rw [hy445]; with_reducible exact H) | (have H2_ := (Option.bind_some _ _).symm.trans H; rw [hy445]; with_reducible exact H2_) | (have H2_ := (Option.bind_some _ _).symm.trans H; with_reducible exact H2_) | with_reducible exact H | (rw [hy445]; exact H) | exact H
                have Ny445 := Aside0.mk hy445
                clear hy445
                by_cases c52 : x439001_1.length < 17592186044416
                ·rw [if_pos c52] at H
                 have LMc52 := Aside0.mk c52
                 clear c52
                 obtain ⟨y448, hy448⟩ : ∃ y_ : List Nat, y_ = (x439001_1 ++ [rdOf (0 : Nat) l1_1 x19_1]) := ⟨_, rfl⟩
                 replace H : (spec_BoxMeet.l0 kj23 (l0_0.length : Int) (wrap64 (x19_1 + 1)) l0_0 l0_1 l1_0 l1_1 y445 y448) = some (r1, r2, r3) := by first | (rw [hy448]; with_reducible exact H) | (have H2_ := (Option.bind_some _ _).symm.trans H; rw [hy448]; with_reducible exact H2_) | (have H2_ := (Option.bind_some _ _).symm.trans H; with_reducible exact H2_) | with_reducible exact H | (rw [hy448]; exact H) | exact H
                 have Ny448 := Aside0.mk hy448
                 clear hy448
                 have H' := Aside0.mk H
                 clear H
                 have hnb53 := NB434_435.out
                 have hnc53 := NB435_434.out
                 have hnb54 := NB434_436.out
                 have hnc54 := NB436_434.out
                 have hnb55 := NB434_438.out
                 have hnc55 := NB438_434.out
                 have hcz56_0 : wc.cell? ⟨gb434, 0, none⟩ = some (.slice (some ad439) l0_0.length c0_0) := (blk_cell BK434.out 0).trans rfl
                 have hcz56_1 : wc.cell? ⟨gb434, 1, none⟩ = some (.slice A0_1 l0_1.length c0_1) := (blk_cell BK434.out 1).trans rfl
                 have hfz56_0 := blk_frozen BK434.out 0
                 have hfz56_1 := blk_frozen BK434.out 1
                 have p442 : 0 ≤ (x19_1 : Int) := of_decide_eq_true (by first | (with_reducible assumption) | assumption)
                 have q442 : x19_1 < (l0_1.length : Int) := of_decide_eq_true (by first | (with_reducible assumption) | assumption)
                 obtain ⟨ad442, e442, hx442_0⟩ := Kd.at_flt HR0_1.out x19_1 p442 q442
                 cases e442
                 replace hx442_0 := (HB.out.cell (World.block_lt_of_cell? w _ hx442_0)).trans hx442_0
                 replace p442 := eq_true p442
                 replace q442 := eq_true q442
                 have hnb57 := NB435_436.out
                 have hnc57 := NB436_435.out
                 have hnb58 := NB435_438.out
                 have hnc58 := NB438_435.out
                 have hcz59_0 : wc.cell? ⟨gb435, 0, none⟩ = some (.slice (some ad440) l1_0.length c1_0) := (blk_cell BK435.out 0).trans rfl
                 have hcz59_1 : wc.cell? ⟨gb435, 1, none⟩ = some (.slice A1_1 l1_1.length c1_1) := (blk_cell BK435.out 1).trans rfl
                 have hfz59_0 := blk_frozen BK435.out 0
                 have hfz59_1 := blk_frozen BK435.out 1
                 have p443 : 0 ≤ (x19_1 : Int) := of_decide_eq_true (by first | (with_reducible assumption) | assumption)
                 have q443 : x19_1 < (l1_1.length : Int) := of_decide_eq_true (by first | (with_reducible assumption) | assumption)
                 obtain ⟨ad443, e443, hx443_0⟩ := Kd.at_flt HR1_1.out x19_1 p443 q443
                 cases e443
                 replace hx443_0 := (HB.out.cell (World.block_lt_of_cell? w _ hx443_0)).trans hx443_0
                 replace p443 := eq_true p443
                 replace q443 := eq_true q443
                 have p444 : 0 ≤ (x19_1 : Int) := of_decide_eq_true (by first | (with_reducible assumption) | assumption)
                 have q444 : x19_1 < (l1_1.length : Int) := of_decide_eq_true (by first | (with_reducible assumption) | assumption)
                 obtain ⟨ad444, e444, hx444_0⟩ := Kd.at_flt HR1_1.out x19_1 p444 q444
                 obtain rfl : ad443 = ad444 := (by injection e444)
                 replace hx444_0 := (HB.out.cell (World.block_lt_of_cell? w _ hx444_0)).trans hx444_0
                 replace p444 := eq_true p444
                 replace q444 := eq_true q444
                 have hnb60 := NB438_436.out
                 have hnc60 := NB436_438.out
                 have hcz61_0 : wc.cell? ⟨gb438, 0, none⟩ = some (u439000) := (blk_cell BK438.out 0).trans rfl
                 have hcz61_1 : wc.cell? ⟨gb438, 1, none⟩ = some (u439001) := (blk_cell BK438.out 1).trans rfl
                 have hfz61_0 := blk_frozen BK438.out 0
                 have hfz61_1 := blk_frozen BK438.out 1
                 go_wp2_with (first | ((with_reducible refine gate_builtin (b := .append) (xs := #[.tmp 61, .tmp 63]) rfl ?_); at_builtin; refine Kd.R_append Kd.flt (w0 := w) w.heap.size rfl (.tmp 61) (.tmp 63) 23 33 (.float .f64 0) 8 rfl Try.underlying23 info33 rfl (by decide) (by omega) u439000 x439000_1 x8_23 [.float .f64 x8_23] (fun k_ => some k_ ≠ (u439001 : Value).ownBlock) (fun _ => False) rfl rfl ?aP (fun _ hk => hk.elim) ?aF ?aO ?aB ?aS ?aL ?_; (case aP => exact rfl); (case aB => exact (by repeat (with_reducible first | exact HB.out | refine bz ?_ (by assumption) | apply bA | apply bN | apply bD))); (case aF => exact (fun k_ hk => Kd.fresh' (Kd.R_lt (rk HO_439001.out)) k_ hk)); (case aO => exact (rk HO_439000.out)); (case aS => exact (bs HB.out)); (case aL => have := LMc51.out; omega); intro v446 w62 ho hb hg hat; rw [← Ny445.out] at ho; replace HO_439001 := a_ (Kd.R_after (ok := (fun _ => True)) (rk (Kd.R_mono HO_439001.out (fun _ hk => ⟨trivial, hk⟩))) hg hat); replace BK434 := a_ (blk_grown (pk BK434.out) hg (Kd.R_ne HO_439000.out BK434.out (by decide))); replace BK435 := a_ (blk_grown (pk BK435.out) hg (Kd.R_ne HO_439000.out BK435.out (by decide))); replace BK436 := a_ (blk_grown (pk BK436.out) hg (Kd.R_ne HO_439000.out BK436.out (by decide))); replace BK438 := a_ (blk_grown (pk BK438.out) hg (Kd.R_ne HO_439000.out BK438.out (by decide))); replace HB := a_ (hb); have HO447 := a_ (ho); clear HO_439000 ho hb hg hat; obtain ⟨Ao63, co63, eo63⟩ := Kd.R_slice HO447.out; subst eo63; have hcz64_0 : w62.cell? ⟨gb438, 0, none⟩ = some (u439000) := (blk_cell BK438.out 0).trans rfl; have hcz64_1 : w62.cell? ⟨gb438, 1, none⟩ = some (u439001) := (blk_cell BK438.out 1).trans rfl; have hfz64_0 := blk_frozen BK438.out 0; have hfz64_1 := blk_frozen BK438.out 1) | ((with_reducible refine gate_builtin (b := .append) (xs := #[.tmp 67, .tmp 69]) rfl ?_); at_builtin; refine Kd.R_append Kd.flt (w0 := w) w.heap.size rfl (.tmp 67) (.tmp 69) 23 33 (.float .f64 0) 8 rfl Try.underlying23 info33 rfl (by decide) (by omega) u439001 x439001_1 (rdOf (0 : Nat) l1_1 x19_1) [.float .f64 (rdOf (0 : Nat) l1_1 x19_1)] (fun k_ => N_ (.slice Ao63 y445.length co63) k_) (fun _ => False) rfl (by first | (go_simp; done) | (go_simp; rfl)) ?aP (fun _ hk => hk.elim) ?aF ?aO ?aB ?aS ?aL ?_; (case aP => exact rfl); (case aB => exact (by repeat (with_reducible first | exact HB.out | refine bz ?_ (by assumption) | apply bA | apply bN | apply bD))); (case aF => exact (fun k_ hk => Kd.fresh' (Kd.R_lt (rk (Kd.R_mono (fr1 HO447.out BK438.out (by decide) 0 (.slice Ao63 y445.length co63)) (fun _ h_ => h_.1)))) k_ hk)); (case aO => exact (rk (Kd.R_mono (fr1 HO_439001.out BK438.out (by decide) 0 (.slice Ao63 y445.length co63)) (fun _ hk => hk.1.2)))); (case aS => exact (bs HB.out)); (case aL => have := LMc52.out; omega); intro v449 w65 ho hb hg hat; rw [← Ny448.out] at ho; replace BK434 := a_ (blk_grown (g := gb434) (o := .cells #[.slice (some ad439) l0_0.length c0_0, .slice (some ad442) l0_1.length c0_1] 25 (0, 0)) (by refine pk ?_; refine blk_far ?_ NB434_438.out _; refine pk ?_; exact BK434.out) hg (Kd.R_ne HO_439001.out BK434.out (by decide))); replace BK435 := a_ (blk_grown (g := gb435) (o := .cells #[.slice (some ad440) l1_0.length c1_0, .slice (some ad443) l1_1.length c1_1] 25 (0, 0)) (by refine pk ?_; refine blk_far ?_ NB435_438.out _; refine pk ?_; exact BK435.out) hg (Kd.R_ne HO_439001.out BK435.out (by decide))); replace BK436 := a_ (blk_grown (g := gb436) (o := .cells #[.slice none 0 0, .slice none 0 0] 25 (0, 0)) (by refine pk ?_; refine blk_far ?_ NB436_438.out _; refine pk ?_; exact BK436.out) hg (Kd.R_ne HO_439001.out BK436.out (by decide))); replace HO447 := a_ (Kd.R_after (ok := (fun _ => True)) (rk (Kd.R_mono (fr1 HO447.out BK438.out (by decide) 0 (.slice Ao63 y445.length co63)) (fun _ hk => ⟨trivial, hk.1⟩))) hg hat); replace BK438 := a_ (blk_grown (g := gb438) (o := .cells #[.slice Ao63 y445.length co63, u439001] 25 (0, 0)) (by refine pk ?_; refine blk_put (cs := #[u439000, u439001]) ?_ 0 _ rfl; refine pk ?_; exact BK438.out) hg (Kd.R_ne HO_439001.out BK438.out (by decide))); replace HB := a_ (hb); have HO450 := a_ (ho); clear HO_439001 ho hb hg hat; obtain ⟨Ao66, co66, eo66⟩ := Kd.R_slice HO450.out; subst eo66; have hcz67_0 : _ = some (Value.slice Ao63 y445.length co63) := (blk_cell BK438.out 0).trans rfl; have hcz67_1 : w65.cell? ⟨gb438, 1, none⟩ = some (u439001) := (blk_cell BK438.out 1).trans rfl; have hfz67_0 := blk_frozen BK438.out 0; have hfz67_1 := blk_frozen BK438.out 1))
                 go_roundg kj23
                 case measure => have := HK1.out; have := HJ23.out; omega
                 case rel => exact ⟨(wrap64 (x19_1 + 1)), (y445), (y448), (.slice Ao63 y445.length co63), (.slice Ao66 y448.length co66), (by first | rfl | (simp; done) | (simp [*]; done)), H', ⟨by have := HK1.out; have := HJ23.out; omega⟩, ⟨rk (Kd.R_mono (fr1 HO447.out BK438.out (by decide) 1 (.slice Ao66 y448.length co66)) (fun _ hk => hk.1.2))⟩, ⟨rk (Kd.R_mono (fr1 HO450.out BK438.out (by decide) 1 (.slice Ao66 y448.length co66)) (fun _ hk => hk.1))⟩, ⟨by refine pk ?_; refine blk_far ?_ NB434_438.out _; refine pk ?_; exact BK434.out⟩, ⟨by refine pk ?_; refine blk_far ?_ NB435_438.out _; refine pk ?_; exact BK435.out⟩, ⟨by refine pk ?_; refine blk_far ?_ NB436_438.out _; refine pk ?_; exact BK436.out⟩, ⟨by refine pk ?_; refine blk_put (cs := #[.slice Ao63 y445.length co63, u439001]) ?_ 1 _ rfl; refine pk ?_; exact BK438.out⟩, ⟨by repeat (with_reducible first | exact HB.out | refine bz ?_ (by assumption) | apply bA | apply bN | apply bD)⟩⟩
                ·rw [if_neg c52] at H
                 exact absurd H (by simp)
               ·rw [if_neg c51] at H
                exact absurd H (by simp)
             ·rw [if_neg c40] at H
              have c40b0 : (FloatKind.f64.format.order (rdOf (0 : Nat) l1_1 x19_1) (rdOf (0 : Nat) l0_1 x19_1) == some Ordering.lt) = false := by simpa using c40
              (try (have c40b1 : decide (FloatKind.f64.format.order (rdOf (0 : Nat) l1_1 x19_1) (rdOf (0 : Nat) l0_1 x19_1) = some Ordering.lt) = false := by simpa using c40))
              (try (have c40b2 : (FloatKind.f64.format.order (rdOf (0 : Nat) l1_1 x19_1) (rdOf (0 : Nat) l0_1 x19_1) == some Ordering.lt) = false := by simpa using c40))
              (try (have c40b3 : ¬ (FloatKind.f64.format.order (rdOf (0 : Nat) l1_1 x19_1) (rdOf (0 : Nat) l0_1 x19_1) = some Ordering.lt) := by simpa using c40))
              clear c40
              by_cases c68 : (FloatKind.f64.format.order x8_23 (rdOf (0 : Nat) l0_1 x19_1) == some Ordering.gt) = true
              ·rw [if_pos c68] at H
               have c68b0 : (FloatKind.f64.format.order x8_23 (rdOf (0 : Nat) l0_1 x19_1) == some Ordering.gt) = true := c68
               (try (have c68b1 : decide (FloatKind.f64.format.order x8_23 (rdOf (0 : Nat) l0_1 x19_1) = some Ordering.gt) = true := by simpa using c68))
               (try (have c68b2 : (FloatKind.f64.format.order x8_23 (rdOf (0 : Nat) l0_1 x19_1) == some Ordering.gt) = true := by simpa using c68))
               clear c68
               simp only [Option.some.injEq, Prod.mk.injEq] at H
               obtain ⟨rfl, rfl, rfl⟩ := H
               have hnb69 := NB434_435.out
               have hnc69 := NB435_434.out
               have hnb70 := NB434_436.out
               have hnc70 := NB436_434.out
               have hnb71 := NB434_438.out
               have hnc71 := NB438_434.out
               have hcz72_0 : wc.cell? ⟨gb434, 0, none⟩ = some (.slice (some ad439) l0_0.length c0_0) := (blk_cell BK434.out 0).trans rfl
               have hcz72_1 : wc.cell? ⟨gb434, 1, none⟩ = some (.slice A0_1 l0_1.length c0_1) := (blk_cell BK434.out 1).trans rfl
               have hfz72_0 := blk_frozen BK434.out 0
               have hfz72_1 := blk_frozen BK434.out 1
               have p442 : 0 ≤ (x19_1 : Int) := of_decide_eq_true (by first | (with_reducible assumption) | assumption)
               have q442 : x19_1 < (l0_1.length : Int) := of_decide_eq_true (by first | (with_reducible assumption) | assumption)
               obtain ⟨ad442, e442, hx442_0⟩ := Kd.at_flt HR0_1.out x19_1 p442 q442
               cases e442
               replace hx442_0 := (HB.out.cell (World.block_lt_of_cell? w _ hx442_0)).trans hx442_0
               replace p442 := eq_true p442
               replace q442 := eq_true q442
               have hnb73 := NB435_436.out
               have hnc73 := NB436_435.out
               have hnb74 := NB435_438.out
               have hnc74 := NB438_435.out
               have hcz75_0 : wc.cell? ⟨gb435, 0, none⟩ = some (.slice (some ad440) l1_0.length c1_0) := (blk_cell BK435.out 0).trans rfl
               have hcz75_1 : wc.cell? ⟨gb435, 1, none⟩ = some (.slice A1_1 l1_1.length c1_1) := (blk_cell BK435.out 1).trans rfl
               have hfz75_0 := blk_frozen BK435.out 0
               have hfz75_1 := blk_frozen BK435.out 1
               have p443 : 0 ≤ (x19_1 : Int) := of_decide_eq_true (by first | (with_reducible assumption) | assumption)
               have q443 : x19_1 < (l1_1.length : Int) := of_decide_eq_true (by first | (with_reducible assumption) | assumption)
               obtain ⟨ad443, e443, hx443_0⟩ := Kd.at_flt HR1_1.out x19_1 p443 q443
               cases e443
               replace hx443_0 := (HB.out.cell (World.block_lt_of_cell? w _ hx443_0)).trans hx443_0
               replace p443 := eq_true p443
               replace q443 := eq_true q443
               have hnb76 := NB436_438.out
               have hnc76 := NB438_436.out
               have hcz77_0 : wc.cell? ⟨gb436, 0, none⟩ = some (.slice none 0 0) := (blk_cell BK436.out 0).trans rfl
               have hcz77_1 : wc.cell? ⟨gb436, 1, none⟩ = some (.slice none 0 0) := (blk_cell BK436.out 1).trans rfl
               have hfz77_0 := blk_frozen BK436.out 0
               have hfz77_1 := blk_frozen BK436.out 1
               go_wp2
               refine bodyPost_ret (results_ct rfl _ _ gb436 25 #[.slice none 0 0, .slice none 0 0] (0, 0) _ rfl (by refine pk ?_; refine blk_put (cs := #[.slice none 0 0, .slice none 0 0]) ?_ 1 _ rfl; refine pk ?_; refine blk_put (cs := #[.slice none 0 0, .slice none 0 0]) ?_ 0 _ rfl; refine pk ?_; exact BK436.out) Try.underlying25 rfl (by kernel_rfl)) rfl ?_
               exact ⟨_, _, by first | rfl | (simp [errW_none, errW_some] <;> rfl) | (simp [*, errW_none, errW_some] <;> rfl), by first | exact Kd.R_nil _ _ _ _ _ | exact Kd.N_nil _ _ _ _ _ | exact Kd.V_nil _ _ _ _ _ | exact Kd.Q_nil _ _ _ _ _ | exact Kd.S_nil _ _ _ _ _, by first | exact Kd.R_nil _ _ _ _ _ | exact Kd.N_nil _ _ _ _ _ | exact Kd.V_nil _ _ _ _ _ | exact Kd.Q_nil _ _ _ _ _ | exact Kd.S_nil _ _ _ _ _, by repeat (with_reducible first | exact HB.out | refine bz ?_ (by assumption) | apply bA | apply bN | apply bD)⟩
              ·rw [if_neg c68] at H
               have c68b0 : (FloatKind.f64.format.order x8_23 (rdOf (0 : Nat) l0_1 x19_1) == some Ordering.gt) = false := by simpa using c68
               (try (have c68b1 : decide (FloatKind.f64.format.order x8_23 (rdOf (0 : Nat) l0_1 x19_1) = some Ordering.gt) = false := by simpa using c68))
               (try (have c68b2 : (FloatKind.f64.format.order x8_23 (rdOf (0 : Nat) l0_1 x19_1) == some Ordering.gt) = false := by simpa using c68))
               (try (have c68b3 : ¬ (FloatKind.f64.format.order x8_23 (rdOf (0 : Nat) l0_1 x19_1) = some Ordering.gt) := by simpa using c68))
               clear c68
               by_cases c78 : x439000_1.length < 17592186044416
               ·rw [if_pos c78] at H
                have LMc78 := Aside0.mk c78
                clear c78
                obtain ⟨y451, hy451⟩ : ∃ y_ : List Nat, y_ = (x439000_1 ++ [x8_23]) := ⟨_, rfl⟩
                replace H : (if x439001_1.length < 17592186044416 then (spec_BoxMeet.l0 kj23 (l0_0.length : Int) (wrap64 (x19_1 + 1)) l0_0 l0_1 l1_0 l1_1 y451 (x439001_1 ++ [rdOf (0 : Nat) l0_1 x19_1])) else (none)) = some (r1, r2, r3) := by first | (rw [hy451]; with_reducible exact H) | (have H2_ := (Option.bind_some _ _).symm.trans H; rw [hy451]; with_reducible exact H2_) | (have H2_ := (Option.bind_some _ _).symm.trans H; with_reducible exact H2_) | with_reducible exact H | (rw [hy451]; exact H) | exact H
                have Ny451 := Aside0.mk hy451
                clear hy451
                by_cases c79 : x439001_1.length < 17592186044416
                ·rw [if_pos c79] at H
                 have LMc79 := Aside0.mk c79
                 clear c79
                 obtain ⟨y454, hy454⟩ : ∃ y_ : List Nat, y_ = (x439001_1 ++ [rdOf (0 : Nat) l0_1 x19_1]) := ⟨_, rfl⟩
                 replace H : (spec_BoxMeet.l0 kj23 (l0_0.length : Int) (wrap64 (x19_1 + 1)) l0_0 l0_1 l1_0 l1_1 y451 y454) = some (r1, r2, r3) := by first | (rw [hy454]; with_reducible exact H) | (have H2_ := (Option.bind_some _ _).symm.trans H; rw [hy454]; with_reducible exact H2_) | (have H2_ := (Option.bind_some _ _).symm.trans H; with_reducible exact H2_) | with_reducible exact H | (rw [hy454]; exact H) | exact H
                 have Ny454 := Aside0.mk hy454
                 clear hy454
                 have H' := Aside0.mk H
                 clear H
                 have hnb80 := NB434_435.out
                 have hnc80 := NB435_434.out
                 have hnb81 := NB434_436.out
                 have hnc81 := NB436_434.out
                 have hnb82 := NB434_438.out
                 have hnc82 := NB438_434.out
                 have hcz83_0 : wc.cell? ⟨gb434, 0, none⟩ = some (.slice (some ad439) l0_0.length c0_0) := (blk_cell BK434.out 0).trans rfl
                 have hcz83_1 : wc.cell? ⟨gb434, 1, none⟩ = some (.slice A0_1 l0_1.length c0_1) := (blk_cell BK434.out 1).trans rfl
                 have hfz83_0 := blk_frozen BK434.out 0
                 have hfz83_1 := blk_frozen BK434.out 1
                 have p442 : 0 ≤ (x19_1 : Int) := of_decide_eq_true (by first | (with_reducible assumption) | assumption)
                 have q442 : x19_1 < (l0_1.length : Int) := of_decide_eq_true (by first | (with_reducible assumption) | assumption)
                 obtain ⟨ad442, e442, hx442_0⟩ := Kd.at_flt HR0_1.out x19_1 p442 q442
                 cases e442
                 replace hx442_0 := (HB.out.cell (World.block_lt_of_cell? w _ hx442_0)).trans hx442_0
                 replace p442 := eq_true p442
                 replace q442 := eq_true q442
                 have hnb84 := NB435_436.out
                 have hnc84 := NB436_435.out
                 have hnb85 := NB435_438.out
                 have hnc85 := NB438_435.out
                 have hcz86_0 : wc.cell? ⟨gb435, 0, none⟩ = some (.slice (some ad440) l1_0.length c1_0) := (blk_cell BK435.out 0).trans rfl
                 have hcz86_1 : wc.cell? ⟨gb435, 1, none⟩ = some (.slice A1_1 l1_1.length c1_1) := (blk_cell BK435.out 1).trans rfl
                 have hfz86_0 := blk_frozen BK435.out 0
                 have hfz86_1 := blk_frozen BK435.out 1
                 have p443 : 0 ≤ (x19_1 : Int) := of_decide_eq_true (by first | (with_reducible assumption) | assumption)
                 have q443 : x19_1 < (l1_1.length : Int) := of_decide_eq_true (by first | (with_reducible assumption) | assumption)
                 obtain ⟨ad443, e443, hx443_0⟩ := Kd.at_flt HR1_1.out x19_1 p443 q443
                 cases e443
                 replace hx443_0 := (HB.out.cell (World.block_lt_of_cell? w _ hx443_0)).trans hx443_0
                 replace p443 := eq_true p443
                 replace q443 := eq_true q443
                 have hnb87 := NB438_436.out
                 have hnc87 := NB436_438.out
                 have hcz88_0 : wc.cell? ⟨gb438, 0, none⟩ = some (u439000) := (blk_cell BK438.out 0).trans rfl
                 have hcz88_1 : wc.cell? ⟨gb438, 1, none⟩ = some (u439001) := (blk_cell BK438.out 1).trans rfl
                 have hfz88_0 := blk_frozen BK438.out 0
                 have hfz88_1 := blk_frozen BK438.out 1
                 go_wp2_with (first | ((with_reducible refine gate_builtin (b := .append) (xs := #[.tmp 61, .tmp 63]) rfl ?_); at_builtin; refine Kd.R_append Kd.flt (w0 := w) w.heap.size rfl (.tmp 61) (.tmp 63) 23 33 (.float .f64 0) 8 rfl Try.underlying23 info33 rfl (by decide) (by omega) u439000 x439000_1 x8_23 [.float .f64 x8_23] (fun k_ => some k_ ≠ (u439001 : Value).ownBlock) (fun _ => False) rfl rfl ?aP (fun _ hk => hk.elim) ?aF ?aO ?aB ?aS ?aL ?_; (case aP => exact rfl); (case aB => exact (by repeat (with_reducible first | exact HB.out | refine bz ?_ (by assumption) | apply bA | apply bN | apply bD))); (case aF => exact (fun k_ hk => Kd.fresh' (Kd.R_lt (rk HO_439001.out)) k_ hk)); (case aO => exact (rk HO_439000.out)); (case aS => exact (bs HB.out)); (case aL => have := LMc78.out; omega); intro v452 w89 ho hb hg hat; rw [← Ny451.out] at ho; replace HO_439001 := a_ (Kd.R_after (ok := (fun _ => True)) (rk (Kd.R_mono HO_439001.out (fun _ hk => ⟨trivial, hk⟩))) hg hat); replace BK434 := a_ (blk_grown (pk BK434.out) hg (Kd.R_ne HO_439000.out BK434.out (by decide))); replace BK435 := a_ (blk_grown (pk BK435.out) hg (Kd.R_ne HO_439000.out BK435.out (by decide))); replace BK436 := a_ (blk_grown (pk BK436.out) hg (Kd.R_ne HO_439000.out BK436.out (by decide))); replace BK438 := a_ (blk_grown (pk BK438.out) hg (Kd.R_ne HO_439000.out BK438.out (by decide))); replace HB := a_ (hb); have HO453 := a_ (ho); clear HO_439000 ho hb hg hat; obtain ⟨Ao90, co90, eo90⟩ := Kd.R_slice HO453.out; subst eo90; have hcz91_0 : w89.cell? ⟨gb438, 0, none⟩ = some (u439000) := (blk_cell BK438.out 0).trans rfl; have hcz91_1 : w89.cell? ⟨gb438, 1, none⟩ = some (u439001) := (blk_cell BK438.out 1).trans rfl; have hfz91_0 := blk_frozen BK438.out 0; have hfz91_1 := blk_frozen BK438.out 1) | ((with_reducible refine gate_builtin (b := .append) (xs := #[.tmp 67, .tmp 69]) rfl ?_); at_builtin; refine Kd.R_append Kd.flt (w0 := w) w.heap.size rfl (.tmp 67) (.tmp 69) 23 33 (.float .f64 0) 8 rfl Try.underlying23 info33 rfl (by decide) (by omega) u439001 x439001_1 (rdOf (0 : Nat) l0_1 x19_1) [.float .f64 (rdOf (0 : Nat) l0_1 x19_1)] (fun k_ => N_ (.slice Ao90 y451.length co90) k_) (fun _ => False) rfl (by first | (go_simp; done) | (go_simp; rfl)) ?aP (fun _ hk => hk.elim) ?aF ?aO ?aB ?aS ?aL ?_; (case aP => exact rfl); (case aB => exact (by repeat (with_reducible first | exact HB.out | refine bz ?_ (by assumption) | apply bA | apply bN | apply bD))); (case aF => exact (fun k_ hk => Kd.fresh' (Kd.R_lt (rk (Kd.R_mono (fr1 HO453.out BK438.out (by decide) 0 (.slice Ao90 y451.length co90)) (fun _ h_ => h_.1)))) k_ hk)); (case aO => exact (rk (Kd.R_mono (fr1 HO_439001.out BK438.out (by decide) 0 (.slice Ao90 y451.length co90)) (fun _ hk => hk.1.2)))); (case aS => exact (bs HB.out)); (case aL => have := LMc79.out; omega); intro v455 w92 ho hb hg hat; rw [← Ny454.out] at ho; replace BK434 := a_ (blk_grown (g := gb434) (o := .cells #[.slice (some ad439) l0_0.length c0_0, .slice (some ad442) l0_1.length c0_1] 25 (0, 0)) (by refine pk ?_; refine blk_far ?_ NB434_438.out _; refine pk ?_; exact BK434.out) hg (Kd.R_ne HO_439001.out BK434.out (by decide))); replace BK435 := a_ (blk_grown (g := gb435) (o := .cells #[.slice (some ad440) l1_0.length c1_0, .slice (some ad443) l1_1.length c1_1] 25 (0, 0)) (by refine pk ?_; refine blk_far ?_ NB435_438.out _; refine pk ?_; exact BK435.out) hg (Kd.R_ne HO_439001.out BK435.out (by decide))); replace BK436 := a_ (blk_grown (g := gb436) (o := .cells #[.slice none 0 0, .slice none 0 0] 25 (0, 0)) (by refine pk ?_; refine blk_far ?_ NB436_438.out _; refine pk ?_; exact BK436.out) hg (Kd.R_ne HO_439001.out BK436.out (by decide))); replace HO453 := a_ (Kd.R_after (ok := (fun _ => True)) (rk (Kd.R_mono (fr1 HO453.out BK438.out (by decide) 0 (.slice Ao90 y451.length co90)) (fun _ hk => ⟨trivial, hk.1⟩))) hg hat); replace BK438 := a_ (blk_grown (g := gb438) (o := .cells #[.slice Ao90 y451.length co90, u439001] 25 (0, 0)) (by refine pk ?_; refine blk_put (cs := #[u439000, u439001]) ?_ 0 _ rfl; refine pk ?_; exact BK438.out) hg (Kd.R_ne HO_439001.out BK438.out (by decide))); replace HB := a_ (hb); have HO456 := a_ (ho); clear HO_439001 ho hb hg hat; obtain ⟨Ao93, co93, eo93⟩ := Kd.R_slice HO456.out; subst eo93; have hcz94_0 : _ = some (Value.slice Ao90 y451.length co90) := (blk_cell BK438.out 0).trans rfl; have hcz94_1 : w92.cell? ⟨gb438, 1, none⟩ = some (u439001) := (blk_cell BK438.out 1).trans rfl; have hfz94_0 := blk_frozen BK438.out 0; have hfz94_1 := blk_frozen BK438.out 1))
                 go_roundg kj23
                 case measure => have := HK1.out; have := HJ23.out; omega
                 case rel => exact ⟨(wrap64 (x19_1 + 1)), (y451), (y454), (.slice Ao90 y451.length co90), (.slice Ao93 y454.length co93), (by first | rfl | (simp; done) | (simp [*]; done)), H', ⟨by have := HK1.out; have := HJ23.out; omega⟩, ⟨rk (Kd.R_mono (fr1 HO453.out BK438.out (by decide) 1 (.slice Ao93 y454.length co93)) (fun _ hk => hk.1.2))⟩, ⟨rk (Kd.R_mono (fr1 HO456.out BK438.out (by decide) 1 (.slice Ao93 y454.length co93)) (fun _ hk => hk.1))⟩, ⟨by refine pk ?_; refine blk_far ?_ NB434_438.out _; refine pk ?_; exact BK434.out⟩, ⟨by refine pk ?_; refine blk_far ?_ NB435_438.out _; refine pk ?_; exact BK435.out⟩, ⟨by refine pk ?_; refine blk_far ?_ NB436_438.out _; refine pk ?_; exact BK436.out⟩, ⟨by refine pk ?_; refine blk_put (cs := #[.slice Ao90 y451.length co90, u439001]) ?_ 1 _ rfl; refine pk ?_; exact BK438.out⟩, ⟨by repeat (with_reducible first | exact HB.out | refine bz ?_ (by assumption) | apply bA | apply bN | apply bD)⟩⟩
                ·rw [if_neg c79] at H
                 exact absurd H (by simp)
               ·rw [if_neg c78] at H
                exact absurd H (by simp)
            ·rw [if_neg c39] at H
             exact absurd H (by simp)
           ·rw [if_neg c38] at H
            exact absurd H (by simp)
          ·rw [if_neg c37] at H
           exact absurd H (by simp)
       ·rw [if_neg c23] at H
        exact absurd H (by simp)
      ·rw [if_neg c22] at H
       exact absurd H (by simp)
     ·rw [if_neg c21] at H
      exact absurd H (by simp)
    ·rw [if_neg c20] at H
     have c20b0 : decide (x19_1 < (l0_0.length : Int)) = false := decide_eq_false c20
     clear c20
     simp only [Option.some.injEq, Prod.mk.injEq] at H
     obtain ⟨rfl, rfl, rfl⟩ := H
     have hnb95 := NB438_434.out
     have hnc95 := NB434_438.out
     have hnb96 := NB438_435.out
     have hnc96 := NB435_438.out
     have hnb97 := NB438_436.out
     have hnc97 := NB436_438.out
     have hcz98_0 : wr.cell? ⟨gb438, 0, none⟩ = some (u439000) := (blk_cell BK438.out 0).trans rfl
     have hcz98_1 : wr.cell? ⟨gb438, 1, none⟩ = some (u439001) := (blk_cell BK438.out 1).trans rfl
     have hfz98_0 := blk_frozen BK438.out 0
     have hfz98_1 := blk_frozen BK438.out 1
     obtain ⟨Ao99, co99, eo99⟩ := Kd.R_slice HO_439000.out
     subst eo99
     have hnb100 := NB436_434.out
     have hnc100 := NB434_436.out
     have hnb101 := NB436_435.out
     have hnc101 := NB435_436.out
     have hcz102_0 : wr.cell? ⟨gb436, 0, none⟩ = some (.slice none 0 0) := (blk_cell BK436.out 0).trans rfl
     have hcz102_1 : wr.cell? ⟨gb436, 1, none⟩ = some (.slice none 0 0) := (blk_cell BK436.out 1).trans rfl
     have hfz102_0 := blk_frozen BK436.out 0
     have hfz102_1 := blk_frozen BK436.out 1
     obtain ⟨Ao103, co103, eo103⟩ := Kd.R_slice HO_439001.out
     subst eo103
     go_wp2
     refine bodyPost_ret (results_ct rfl _ _ gb436 25 #[.slice Ao99 x439000_1.length co99, .slice Ao103 x439001_1.length co103] (0, 0) _ rfl (by refine pk ?_; refine blk_put (cs := #[.slice Ao99 x439000_1.length co99, .slice none 0 0]) ?_ 1 _ rfl; refine pk ?_; refine blk_put (cs := #[.slice none 0 0, .slice none 0 0]) ?_ 0 _ rfl; refine pk ?_; exact BK436.out) Try.underlying25 rfl (by kernel_rfl)) rfl ?_
     exact ⟨_, _, by first | rfl | (simp [errW_none, errW_some] <;> rfl) | (simp [*, errW_none, errW_some] <;> rfl), by refine rk ?_; exact Kd.R_mono (fr2 HO_439000.out BK436.out (by decide) 0 (.slice Ao99 x439000_1.length co99) 1 (.slice Ao103 x439001_1.length co103)) (fun _ hk => hk.1), by refine rk ?_; exact Kd.R_mono (fr2 HO_439001.out BK436.out (by decide) 0 (.slice Ao99 x439000_1.length co99) 1 (.slice Ao103 x439001_1.length co103)) (fun _ hk => hk.1), by repeat (with_reducible first | exact HB.out | refine bz ?_ (by assumption) | apply bA | apply bN | apply bD)⟩
 ·replace c4 := Bool.eq_false_iff.mpr c4
  subst c4
  have H1 : (some (([] : List Nat), ([] : List Nat), false)) = some (r1, r2, r3) := by rw [if_neg (show ¬ (false = true) by decide)] at H; exact H
  clear H
  have H := H1
  clear H1
  simp only [Option.some.injEq, Prod.mk.injEq] at H
  obtain ⟨rfl, rfl, rfl⟩ := H
  go_enter Try.func10, Try.ntmps10
  go_wp2_with (first | ((with_reducible refine gate_dst (N := 2) rfl ?_); refine box_event ?hg (N := 2) ?hd (cs := #[.slice A0_0 l0_0.length c0_0, .slice A0_1 l0_1.length c0_1]) (t := 25) ?hr ?_; (case hd => rfl); (case hg => rfl); (case hr => first | (go_simp; done) | (go_simp; rfl)); intro gb434 hg w104 hbox hb; have BK434 := a_ (hbox); have GW434 := a_ (bsg hg HB.out); have GE434 := a_ (bsg hg HB.out); replace HB := a_ (below_step (un HB.out) hb); clear hb hbox hg) | ((with_reducible refine gate_dst (N := 3) rfl ?_); refine box_event ?hg (N := 3) ?hd (cs := #[.slice A1_0 l1_0.length c1_0, .slice A1_1 l1_1.length c1_1]) (t := 25) ?hr ?_; (case hd => rfl); (case hg => rfl); (case hr => first | (go_simp; done) | (go_simp; rfl)); intro gb435 hg w105 hbox hb; have BK435 := a_ (hbox); have GW435 := a_ (bsg hg HB.out); have GE435 := a_ (bsg hg HB.out); replace HB := a_ (below_step (by repeat (with_reducible first | exact HB.out | refine bz ?_ (by assumption) | apply bA | apply bN | apply bD)) hb); have NB434_435 := a_ (nel hg BK434.out); have NB435_434 := a_ (nle hg BK434.out); replace BK434 := a_ (blk_below (pk BK434.out) hb); clear hb hbox hg) | ((with_reducible refine gate_dst (N := 4) rfl ?_); refine box_event ?hg (N := 4) ?hd (cs := #[.slice none 0 0, .slice none 0 0]) (t := 25) ?hr ?_; (case hd => rfl); (case hg => rfl); (case hr => first | (go_simp; done) | (go_simp; rfl)); intro gb436 hg w106 hbox hb; have BK436 := a_ (hbox); have GW436 := a_ (bsg hg HB.out); have GE436 := a_ (bsg hg HB.out); replace HB := a_ (below_step (by repeat (with_reducible first | exact HB.out | refine bz ?_ (by assumption) | apply bA | apply bN | apply bD)) hb); have NB434_436 := a_ (nel hg BK434.out); have NB436_434 := a_ (nle hg BK434.out); replace BK434 := a_ (blk_below (pk BK434.out) hb); have NB435_436 := a_ (nel hg BK435.out); have NB436_435 := a_ (nle hg BK435.out); replace BK435 := a_ (blk_below (pk BK435.out) hb); clear hb hbox hg; have hnb107 := NB434_435.out; have hnc107 := NB435_434.out; have hnb108 := NB434_436.out; have hnc108 := NB436_434.out; have hcz109_0 : _ = some (Value.slice A0_0 l0_0.length c0_0) := (blk_cell BK434.out 0).trans rfl; have hcz109_1 : _ = some (Value.slice A0_1 l0_1.length c0_1) := (blk_cell BK434.out 1).trans rfl; have hfz109_0 := blk_frozen BK434.out 0; have hfz109_1 := blk_frozen BK434.out 1; have hnb110 := NB435_436.out; have hnc110 := NB436_435.out; have hcz111_0 : _ = some (Value.slice A1_0 l1_0.length c1_0) := (blk_cell BK435.out 0).trans rfl; have hcz111_1 : _ = some (Value.slice A1_1 l1_1.length c1_1) := (blk_cell BK435.out 1).trans rfl; have hfz111_0 := blk_frozen BK435.out 0; have hfz111_1 := blk_frozen BK435.out 1) | ((with_reducible refine gate_callee (f := 13) rfl ?_); refine goesL_ (some 12) rfl rfl Try.func13 (by kernel_rfl) rfl #[.agg #[.slice A0_0 l0_0.length c0_0, .slice A0_1 l0_1.length c0_1], .agg #[.slice A1_0 l1_0.length c1_0, .slice A1_1 l1_1.length c1_1]] rfl (by (try simp only [lA, lB, lC]); first | done | rfl | (simp only [lD, lE]; rfl)) ?_; (with_reducible refine (spec_l17Pair.calls k _ _ l0_0 _ _ l0_1 _ _ l1_0 _ _ l1_1 false _ ?side1 ?side2 ?side3 ?side4 ?side5 ?side6 ?side7 ?side8 A3.out).mono ?_); (case side1 => exact Kd.C_below HR0_0.out (un HB.out)); (case side2 => exact HC0_0.out); (case side3 => exact Kd.C_below HR0_1.out (un HB.out)); (case side4 => exact HC0_1.out); (case side5 => exact Kd.C_below HR1_0.out (un HB.out)); (case side6 => exact HC1_0.out); (case side7 => exact Kd.C_below HR1_1.out (un HB.out)); (case side8 => exact HC1_1.out); rintro e w112 ⟨rfl, hb⟩; refine ⟨_, rfl, ?_⟩; replace BK434 := a_ (blk_below (pk BK434.out) hb); replace BK435 := a_ (blk_below (pk BK435.out) hb); replace BK436 := a_ (blk_below (pk BK436.out) hb); replace HB := a_ (below_step (by repeat (with_reducible first | exact HB.out | refine bz ?_ (by assumption) | apply bA | apply bN | apply bD)) hb); clear hb; have hcz113_0 : _ = some (Value.slice none 0 0) := (blk_cell BK436.out 0).trans rfl; have hcz113_1 : _ = some (Value.slice none 0 0) := (blk_cell BK436.out 1).trans rfl; have hfz113_0 := blk_frozen BK436.out 0; have hfz113_1 := blk_frozen BK436.out 1))
  refine bodyPost_ret (results_ct rfl _ _ gb436 25 #[.slice none 0 0, .slice none 0 0] (0, 0) _ rfl (by refine pk ?_; refine blk_put (cs := #[.slice none 0 0, .slice none 0 0]) ?_ 1 _ rfl; refine pk ?_; refine blk_put (cs := #[.slice none 0 0, .slice none 0 0]) ?_ 0 _ rfl; refine pk ?_; exact BK436.out) Try.underlying25 rfl (by kernel_rfl)) rfl ?_
  exact ⟨_, _, by first | rfl | (simp [errW_none, errW_some] <;> rfl) | (simp [*, errW_none, errW_some] <;> rfl), by first | exact Kd.R_nil _ _ _ _ _ | exact Kd.N_nil _ _ _ _ _ | exact Kd.V_nil _ _ _ _ _ | exact Kd.Q_nil _ _ _ _ _ | exact Kd.S_nil _ _ _ _ _, by first | exact Kd.R_nil _ _ _ _ _ | exact Kd.N_nil _ _ _ _ _ | exact Kd.V_nil _ _ _ _ _ | exact Kd.Q_nil _ _ _ _ _ | exact Kd.S_nil _ _ _ _ _, by repeat (with_reducible first | exact HB.out | refine bz ?_ (by assumption) | apply bA | apply bN | apply bD)⟩

end Go.Proofs.Ytbhnnobpjmnngaa.PFnJoins
