-- Written by a program of this session out of the loaded functions' print; helper lemmas as print.sh lays them.
import Derived.Test.YtacdmlnhpjnonaaUp2
import Derived.Test.YtacdmlnhpjnonaaUp
import Derived.Test.YtacdmlnhpjnonaaRFnExactBoxMeetx0
import Derived.Test.YtacdmlnhpjnonaaRFnExactBoxMeetx2
namespace Go.Proofs.Ytacdmlnhpjnonaa.PFnExactBoxMeet
open Go.RowKit Go.Proofs.YtacdmlnhpjnonaaW.PrintWords Go.Proofs.YtacdmlnhpjnonaaW.PrintLast Go.Proofs.YtacdmlnhpjnonaaW.PrintMore
attribute [local go_sem] max2_int min2_int max_two min_two max_three min_three max_four min_four go_fstore go_fneg go_fadd go_fsub go_fmul go_fquo go_fmax go_fmin go_fconv go_bits go_frombits  -- for this text's walks alone
set_option linter.unusedVariables false
set_option linter.unusedSimpArgs false

/-! ### spec_BoxMeet: function 13 -/
mutual
def spec_BoxMeet.l0 : Nat → Int → Int → List Nat → List Nat → List Nat → List Nat → List Nat → List Nat → Option (List Nat × List Nat × Bool)
 | 0, _, _, _, _, _, _, _, _ => none
 | k + 1, x18, x19, x151000, x151001, x152000, x152001, x155000, x155001 => if x19 < x18 then (if 0 ≤ x19 then (if x19 < (x151000.length : Int) then (if x19 < (x152000.length : Int) then (if (FloatKind.f64.format.order (rdOf (0 : Nat) x152000 x19) (rdOf (0 : Nat) x151000 x19) == some Ordering.gt) = true then (spec_BoxMeet.j1 k x19 (rdOf (0 : Nat) x152000 x19) x18 x19 x151000 x151001 x152000 x152001 x155000 x155001) else (spec_BoxMeet.j1 k x19 (rdOf (0 : Nat) x151000 x19) x18 x19 x151000 x151001 x152000 x152001 x155000 x155001)) else (none)) else (none)) else (none)) else (some (x155000, x155001, true))
def spec_BoxMeet.j1 : Nat → Int → Nat → Int → Int → List Nat → List Nat → List Nat → List Nat → List Nat → List Nat → Option (List Nat × List Nat × Bool)
 | 0, _, _, _, _, _, _, _, _, _, _ => none
 | k + 1, x7, x8, x18, x19, x151000, x151001, x152000, x152001, x155000, x155001 => if 0 ≤ x7 then (if x7 < (x151001.length : Int) then (if x7 < (x152001.length : Int) then (if (FloatKind.f64.format.order (rdOf (0 : Nat) x152001 x7) (rdOf (0 : Nat) x151001 x7) == some Ordering.lt) = true then (if (FloatKind.f64.format.order x8 (rdOf (0 : Nat) x152001 x7) == some Ordering.gt) = true then (some (([] : List Nat), ([] : List Nat), false)) else (if x155000.length < 17592186044416 then (if x155001.length < 17592186044416 then (spec_BoxMeet.l0 k x18 (wrap64 (x19 + 1)) x151000 x151001 x152000 x152001 (x155000 ++ [x8]) (x155001 ++ [rdOf (0 : Nat) x152001 x7])) else (none)) else (none))) else (if (FloatKind.f64.format.order x8 (rdOf (0 : Nat) x151001 x7) == some Ordering.gt) = true then (some (([] : List Nat), ([] : List Nat), false)) else (if x155000.length < 17592186044416 then (if x155001.length < 17592186044416 then (spec_BoxMeet.l0 k x18 (wrap64 (x19 + 1)) x151000 x151001 x152000 x152001 (x155000 ++ [x8]) (x155001 ++ [rdOf (0 : Nat) x151001 x7])) else (none)) else (none)))) else (none)) else (none)) else (none)
end
def spec_BoxMeet.f (k : Nat) (l0_0 : List Nat) (l0_1 : List Nat) (l1_0 : List Nat) (l1_1 : List Nat) : Option (List Nat × List Nat × Bool) := (spec_l17Pair.f k l0_0 l0_1 l1_0 l1_1).bind fun t153 => (if t153 = true then (spec_BoxMeet.l0 k (l0_0.length : Int) 0 l0_0 l0_1 l1_0 l1_1 ([] : List Nat) ([] : List Nat)) else (some (([] : List Nat), ([] : List Nat), false)))
theorem spec_BoxMeet.mono_l : ∀ k, (∀ y0 y1 y2 y3 y4 y5 y6 y7, LeO (spec_BoxMeet.l0 k y0 y1 y2 y3 y4 y5 y6 y7) (spec_BoxMeet.l0 (k + 1) y0 y1 y2 y3 y4 y5 y6 y7)) ∧ (∀ y0 y1 y2 y3 y4 y5 y6 y7 y8 y9, LeO (spec_BoxMeet.j1 k y0 y1 y2 y3 y4 y5 y6 y7 y8 y9) (spec_BoxMeet.j1 (k + 1) y0 y1 y2 y3 y4 y5 y6 y7 y8 y9))
 | 0 => ⟨fun _ _ _ _ _ _ _ _ r h => by simp [spec_BoxMeet.l0] at h, fun _ _ _ _ _ _ _ _ _ _ r h => by simp [spec_BoxMeet.j1] at h⟩
 | k + 1 => by
  obtain ⟨ih0, ih1⟩ := spec_BoxMeet.mono_l k
  refine ⟨?_, ?_⟩
  ·intro y0 y1 y2 y3 y4 y5 y6 y7
   unfold spec_BoxMeet.l0
   repeat' first
   | (with_reducible exact ih0 _ _ _ _ _ _ _ _)
   | (with_reducible exact ih1 _ _ _ _ _ _ _ _ _ _)
   | (with_reducible exact spec_l17Pair.mono _ _ _ _ _)
   | (with_reducible exact LeO.refl _)
   | (with_reducible exact LeO.none _)
   | (with_reducible refine LeO.ite ?_ ?_)
   | (with_reducible refine LeO.bind ?_ (fun _ => ?_))
   | exact ih0 _ _ _ _ _ _ _ _
   | exact ih1 _ _ _ _ _ _ _ _ _ _
   | exact spec_l17Pair.mono _ _ _ _ _
   | exact LeO.none _
   | refine LeO.ite ?_ ?_
   | refine LeO.bind ?_ (fun _ => ?_)
  ·intro y0 y1 y2 y3 y4 y5 y6 y7 y8 y9
   unfold spec_BoxMeet.j1
   repeat' first
   | (with_reducible exact ih0 _ _ _ _ _ _ _ _)
   | (with_reducible exact ih1 _ _ _ _ _ _ _ _ _ _)
   | (with_reducible exact spec_l17Pair.mono _ _ _ _ _)
   | (with_reducible exact LeO.refl _)
   | (with_reducible exact LeO.none _)
   | (with_reducible refine LeO.ite ?_ ?_)
   | (with_reducible refine LeO.bind ?_ (fun _ => ?_))
   | exact ih0 _ _ _ _ _ _ _ _
   | exact ih1 _ _ _ _ _ _ _ _ _ _
   | exact spec_l17Pair.mono _ _ _ _ _
   | exact LeO.none _
   | refine LeO.ite ?_ ?_
   | refine LeO.bind ?_ (fun _ => ?_)
theorem spec_BoxMeet.mono : ∀ a0 a1 a2 a3 k, LeO (spec_BoxMeet.f k a0 a1 a2 a3) (spec_BoxMeet.f (k + 1) a0 a1 a2 a3) := by
 intro a0 a1 a2 a3 k
 obtain ⟨ih0, ih1⟩ := spec_BoxMeet.mono_l k
 unfold spec_BoxMeet.f
 repeat' first
   | (with_reducible exact ih0 _ _ _ _ _ _ _ _)
   | (with_reducible exact ih1 _ _ _ _ _ _ _ _ _ _)
   | (with_reducible exact spec_l17Pair.mono _ _ _ _ _)
   | (with_reducible exact LeO.refl _)
   | (with_reducible exact LeO.none _)
   | (with_reducible refine LeO.ite ?_ ?_)
   | (with_reducible refine LeO.bind ?_ (fun _ => ?_))
   | exact ih0 _ _ _ _ _ _ _ _
   | exact ih1 _ _ _ _ _ _ _ _ _ _
   | exact spec_l17Pair.mono _ _ _ _ _
   | exact LeO.none _
   | refine LeO.ite ?_ ?_
   | refine LeO.bind ?_ (fun _ => ?_)
set_option maxHeartbeats 8000000 in
set_option maxRecDepth 100000 in
theorem spec_BoxMeet.calls (k : Nat) (A0_0 : Option Addr) (c0_0 : Nat) (l0_0 : List Nat) (A0_1 : Option Addr) (c0_1 : Nat) (l0_1 : List Nat) (A1_0 : Option Addr) (c1_0 : Nat) (l1_0 : List Nat) (A1_1 : Option Addr) (c1_1 : Nat) (l1_1 : List Nat) (r1 : List Nat) (r2 : List Nat) (r3 : Bool) (w : World) (hr0_0 : Kd.C Kd.flt w A0_0 l0_0.length l0_0) (hc0_0 : l0_0.length ≤ c0_0) (hr0_1 : Kd.C Kd.flt w A0_1 l0_1.length l0_1) (hc0_1 : l0_1.length ≤ c0_1) (hr1_0 : Kd.C Kd.flt w A1_0 l1_0.length l1_0) (hc1_0 : l1_0.length ≤ c1_0) (hr1_1 : Kd.C Kd.flt w A1_1 l1_1.length l1_1) (hc1_1 : l1_1.length ≤ c1_1) (h : spec_BoxMeet.f k l0_0 l0_1 l1_0 l1_1 = some (r1, r2, r3)) :
  Calls Try.prog 13 #[.agg #[.slice A0_0 l0_0.length c0_0, .slice A0_1 l0_1.length c0_1], .agg #[.slice A1_0 l1_0.length c1_0, .slice A1_1 l1_1.length c1_1]] w fun e w' => ∃ v0_ v1_ : Value, e = .returned (.tuple #[.agg #[v0_, v1_], .bool r3]) ∧ Kd.R Kd.flt 39 w' w.heap.size (fun k_ => N_ v1_ k_) v0_ r1 ∧ Kd.R Kd.flt 39 w' w.heap.size (fun k_ => N_ v0_ k_) v1_ r2 ∧ Below w.heap.size w w' := by
 have hu26 := Try.underlying26
 have HR0_0 := Aside0.mk hr0_0
 have HC0_0 := Aside0.mk hc0_0
 clear hr0_0 hc0_0
 have HR0_1 := Aside0.mk hr0_1
 have HC0_1 := Aside0.mk hc0_1
 clear hr0_1 hc0_1
 have HR1_0 := Aside0.mk hr1_0
 have HC1_0 := Aside0.mk hc1_0
 clear hr1_0 hc1_0
 have HR1_1 := Aside0.mk hr1_1
 have HC1_1 := Aside0.mk hc1_1
 clear hr1_1 hc1_1
 have HB := a_ (Below.refl w.heap.size w)
 have H : ((spec_l17Pair.f k l0_0 l0_1 l1_0 l1_1).bind fun t153 => (if t153 = true then (spec_BoxMeet.l0 k (l0_0.length : Int) 0 l0_0 l0_1 l1_0 l1_1 ([] : List Nat) ([] : List Nat)) else (some (([] : List Nat), ([] : List Nat), false)))) = some (r1, r2, r3) := h
 clear h
 replace H := Option.bind_eq_some_iff.mp H
 obtain ⟨t153, A30, H⟩ := H
 replace H : (if t153 = true then (spec_BoxMeet.l0 k (l0_0.length : Int) 0 l0_0 l0_1 l1_0 l1_1 ([] : List Nat) ([] : List Nat)) else (some (([] : List Nat), ([] : List Nat), false))) = some (r1, r2, r3) := H
 have A3 := Aside0.mk A30
 clear A30
 by_cases c4 : t153 = true
 ·subst c4
  have H1 : (spec_BoxMeet.l0 k (l0_0.length : Int) 0 l0_0 l0_1 l1_0 l1_1 ([] : List Nat) ([] : List Nat)) = some (r1, r2, r3) := by rw [if_pos rfl] at H; exact H
  clear H
  have H := H1
  clear H1
  have H' := Aside0.mk H
  clear H
  go_enter Try.func13, Try.ntmps13
  go_wp2_with (first | ((with_reducible refine gate_dst (N := 2) rfl ?_); refine box_event ?hg (N := 2) ?hd (cs := #[.slice A0_0 l0_0.length c0_0, .slice A0_1 l0_1.length c0_1]) (t := 26) ?hr ?_; (case hd => rfl); (case hg => rfl); (case hr => first | (go_simp; done) | (go_simp; rfl)); intro gb150 hg w5 hbox hb; have BK150 := a_ (hbox); have GW150 := a_ (bsg hg HB.out); have GE150 := a_ (bsg hg HB.out); replace HB := a_ (below_step (un HB.out) hb); clear hb hbox hg) | ((with_reducible refine gate_dst (N := 3) rfl ?_); refine box_event ?hg (N := 3) ?hd (cs := #[.slice A1_0 l1_0.length c1_0, .slice A1_1 l1_1.length c1_1]) (t := 26) ?hr ?_; (case hd => rfl); (case hg => rfl); (case hr => first | (go_simp; done) | (go_simp; rfl)); intro gb151 hg w6 hbox hb; have BK151 := a_ (hbox); have GW151 := a_ (bsg hg HB.out); have GE151 := a_ (bsg hg HB.out); replace HB := a_ (below_step (by repeat first | (with_reducible first | exact HB.out | refine bz ?_ (by assumption) | apply bA | apply bN | apply bD) | exact HB.out) hb); have NB150_151 := a_ (nel hg BK150.out); have NB151_150 := a_ (nle hg BK150.out); replace BK150 := a_ (blk_below (pk BK150.out) hb); clear hb hbox hg) | ((with_reducible refine gate_dst (N := 4) rfl ?_); refine box_event ?hg (N := 4) ?hd (cs := #[.slice none 0 0, .slice none 0 0]) (t := 26) ?hr ?_; (case hd => rfl); (case hg => rfl); (case hr => first | (go_simp; done) | (go_simp; rfl)); intro gb152 hg w7 hbox hb; have BK152 := a_ (hbox); have GW152 := a_ (bsg hg HB.out); have GE152 := a_ (bsg hg HB.out); replace HB := a_ (below_step (by repeat first | (with_reducible first | exact HB.out | refine bz ?_ (by assumption) | apply bA | apply bN | apply bD) | exact HB.out) hb); have NB150_152 := a_ (nel hg BK150.out); have NB152_150 := a_ (nle hg BK150.out); replace BK150 := a_ (blk_below (pk BK150.out) hb); have NB151_152 := a_ (nel hg BK151.out); have NB152_151 := a_ (nle hg BK151.out); replace BK151 := a_ (blk_below (pk BK151.out) hb); clear hb hbox hg; have hnb8 := NB150_151.out; have hnc8 := NB151_150.out; have hnb9 := NB150_152.out; have hnc9 := NB152_150.out; have hcz10_0 : _ = some (Value.slice A0_0 l0_0.length c0_0) := (blk_cell BK150.out 0).trans rfl; have hcz10_1 : _ = some (Value.slice A0_1 l0_1.length c0_1) := (blk_cell BK150.out 1).trans rfl; have hfz10_0 := blk_frozen BK150.out 0; have hfz10_1 := blk_frozen BK150.out 1; have hnb11 := NB151_152.out; have hnc11 := NB152_151.out; have hcz12_0 : _ = some (Value.slice A1_0 l1_0.length c1_0) := (blk_cell BK151.out 0).trans rfl; have hcz12_1 : _ = some (Value.slice A1_1 l1_1.length c1_1) := (blk_cell BK151.out 1).trans rfl; have hfz12_0 := blk_frozen BK151.out 0; have hfz12_1 := blk_frozen BK151.out 1) | ((with_reducible refine gate_callee (f := 19) rfl ?_); refine goesL_ (some 12) rfl rfl Try.func19 (by kernel_rfl) rfl #[.agg #[.slice A0_0 l0_0.length c0_0, .slice A0_1 l0_1.length c0_1], .agg #[.slice A1_0 l1_0.length c1_0, .slice A1_1 l1_1.length c1_1]] rfl (by (try simp only [lA, lB, lC]); first | done | rfl | (simp only [lD, lE]; rfl)) ?_; (with_reducible refine (spec_l17Pair.calls k _ _ l0_0 _ _ l0_1 _ _ l1_0 _ _ l1_1 true _ ?side1 ?side2 ?side3 ?side4 ?side5 ?side6 ?side7 ?side8 A3.out).mono ?_); (case side1 => exact Kd.C_below HR0_0.out (un HB.out)); (case side2 => exact HC0_0.out); (case side3 => exact Kd.C_below HR0_1.out (un HB.out)); (case side4 => exact HC0_1.out); (case side5 => exact Kd.C_below HR1_0.out (un HB.out)); (case side6 => exact HC1_0.out); (case side7 => exact Kd.C_below HR1_1.out (un HB.out)); (case side8 => exact HC1_1.out); rintro e w13 ⟨rfl, hb⟩; refine ⟨_, rfl, ?_⟩; replace BK150 := a_ (blk_below (pk BK150.out) hb); replace BK151 := a_ (blk_below (pk BK151.out) hb); replace BK152 := a_ (blk_below (pk BK152.out) hb); replace HB := a_ (below_step (by repeat first | (with_reducible first | exact HB.out | refine bz ?_ (by assumption) | apply bA | apply bN | apply bD) | exact HB.out) hb); clear hb) | ((with_reducible refine gate_dst (N := 6) rfl ?_); refine box_event ?hg (N := 6) ?hd (cs := #[.slice none 0 0, .slice none 0 0]) (t := 26) ?hr ?_; (case hd => rfl); (case hg => rfl); (case hr => first | (go_simp; done) | (go_simp; rfl)); intro gb154 hg w14 hbox hb; have BK154 := a_ (hbox); have GW154 := a_ (bsg hg HB.out); have GE154 := a_ (bsg hg HB.out); replace HB := a_ (below_step (by repeat first | (with_reducible first | exact HB.out | refine bz ?_ (by assumption) | apply bA | apply bN | apply bD) | exact HB.out) hb); have NB150_154 := a_ (nel hg BK150.out); have NB154_150 := a_ (nle hg BK150.out); replace BK150 := a_ (blk_below (pk BK150.out) hb); have NB151_154 := a_ (nel hg BK151.out); have NB154_151 := a_ (nle hg BK151.out); replace BK151 := a_ (blk_below (pk BK151.out) hb); have NB152_154 := a_ (nel hg BK152.out); have NB154_152 := a_ (nle hg BK152.out); replace BK152 := a_ (blk_below (pk BK152.out) hb); clear hb hbox hg; have hnb15 := NB154_150.out; have hnc15 := NB150_154.out; have hnb16 := NB154_151.out; have hnc16 := NB151_154.out; have hnb17 := NB154_152.out; have hnc17 := NB152_154.out; have hcz18_0 : _ = some (Value.slice none 0 0) := (blk_cell BK154.out 0).trans rfl; have hcz18_1 : _ = some (Value.slice none 0 0) := (blk_cell BK154.out 1).trans rfl; have hfz18_0 := blk_frozen BK154.out 0; have hfz18_1 := blk_frozen BK154.out 1; have hcz19_0 : _ = some (Value.slice A0_0 l0_0.length c0_0) := (blk_cell BK150.out 0).trans rfl; have hcz19_1 : _ = some (Value.slice A0_1 l0_1.length c0_1) := (blk_cell BK150.out 1).trans rfl; have hfz19_0 := blk_frozen BK150.out 0; have hfz19_1 := blk_frozen BK150.out 1))
  go_loopg [19] k (fun kq v19 w' => ∃ (x19_1 : Int) (x155000_1 : List Nat) (x155001_1 : List Nat) (u155000 : Value) (u155001 : Value), v19 = .int .i64 x19_1 ∧ Aside0 (spec_BoxMeet.l0 kq (l0_0.length : Int) x19_1 l0_0 l0_1 l1_0 l1_1 x155000_1 x155001_1 = some (r1, r2, r3)) ∧ Aside0 (kq ≤ k) ∧ Aside0 (Kd.R Kd.flt 39 w' w.heap.size (fun k_ => some k_ ≠ (u155001 : Value).ownBlock) u155000 x155000_1) ∧ Aside0 (Kd.R Kd.flt 39 w' w.heap.size (fun k_ => some k_ ≠ (u155000 : Value).ownBlock) u155001 x155001_1) ∧ Aside0 (w'.heap[gb150]? = some (.cells #[(.slice A0_0 l0_0.length c0_0), (.slice A0_1 l0_1.length c0_1)] 26 (0, 0))) ∧ Aside0 (w'.heap[gb151]? = some (.cells #[(.slice A1_0 l1_0.length c1_0), (.slice A1_1 l1_1.length c1_1)] 26 (0, 0))) ∧ Aside0 (w'.heap[gb152]? = some (.cells #[(.slice none 0 0), (.slice none 0 0)] 26 (0, 0))) ∧ Aside0 (w'.heap[gb154]? = some (.cells #[u155000, u155001] 26 (0, 0))) ∧ Aside0 (Below w.heap.size w w'))
  case atStart => exact ⟨(0), (([] : List Nat)), (([] : List Nat)), (.slice none 0 0), (.slice none 0 0), (by first | rfl | (simp; done) | (simp [*]; done)), H', ⟨Nat.le_refl _⟩, ⟨by first | exact Kd.R_nil _ _ _ _ _ | exact Kd.N_nil _ _ _ _ _ | exact Kd.V_nil _ _ _ _ _ | exact Kd.Q_nil _ _ _ _ _ | exact Kd.S_nil _ _ _ _ _⟩, ⟨by first | exact Kd.R_nil _ _ _ _ _ | exact Kd.N_nil _ _ _ _ _ | exact Kd.V_nil _ _ _ _ _ | exact Kd.Q_nil _ _ _ _ _ | exact Kd.S_nil _ _ _ _ _⟩, ⟨by refine pk ?_; refine blk_far ?_ NB150_154.out _; refine pk ?_; refine blk_far ?_ NB150_154.out _; refine pk ?_; exact BK150.out⟩, ⟨by refine pk ?_; refine blk_far ?_ NB151_154.out _; refine pk ?_; refine blk_far ?_ NB151_154.out _; refine pk ?_; exact BK151.out⟩, ⟨by refine pk ?_; refine blk_far ?_ NB152_154.out _; refine pk ?_; refine blk_far ?_ NB152_154.out _; refine pk ?_; exact BK152.out⟩, ⟨by refine pk ?_; refine blk_put (cs := #[.slice none 0 0, .slice none 0 0]) ?_ 1 _ rfl; refine pk ?_; refine blk_put (cs := #[.slice none 0 0, .slice none 0 0]) ?_ 0 _ rfl; refine pk ?_; exact BK154.out⟩, ⟨by repeat first | (with_reducible first | exact HB.out | refine bz ?_ (by assumption) | apply bA | apply bN | apply bD) | exact HB.out⟩⟩
  case round =>
   clear H'
   try clear c1
   try clear p2
   try clear c4
   try clear c8
   try clear c9
   try clear c11
   try clear c13
   try clear c15
   try clear c16
   try clear c17
   try clear c19
   try clear hcz10_0
   try clear hcz10_1
   try clear hcz12_0
   try clear hcz12_1
   try clear hcz18_0
   try clear hcz18_1
   try clear hcz19_0
   try clear hcz19_1
   try clear hfz10_0
   try clear hfz10_1
   try clear hfz12_0
   try clear hfz12_1
   try clear hfz18_0
   try clear hfz18_1
   try clear hfz19_0
   try clear hfz19_1
   obtain ⟨x19_1, x155000_1, x155001_1, u155000, u155001, rfl, HA, HK1, HO_155000, HO_155001, BK150, BK151, BK152, BK154, HB⟩ := hrel
   cases gk with
   | zero => exact absurd HA.out (by simp [spec_BoxMeet.l0])
   | succ k1 =>
    have H := HA.out
    clear HA
    simp only [spec_BoxMeet.l0] at H
    by_cases c20 : x19_1 < (l0_0.length : Int)
    ·rw [if_pos c20] at H
     have c20b0 : decide (x19_1 < (l0_0.length : Int)) = true := decide_eq_true c20
     clear c20
     by_cases c21 : 0 ≤ x19_1
     ·rw [if_pos c21] at H
      have c21b0 : decide (0 ≤ x19_1) = true := decide_eq_true c21
      clear c21
      by_cases c22 : x19_1 < (l0_0.length : Int)
      ·rw [if_pos c22] at H
       have c22b0 : decide (x19_1 < (l0_0.length : Int)) = true := decide_eq_true c22
       clear c22
       by_cases c23 : x19_1 < (l1_0.length : Int)
       ·rw [if_pos c23] at H
        have c23b0 : decide (x19_1 < (l1_0.length : Int)) = true := decide_eq_true c23
        clear c23
        have HC24 := Aside0.mk H
        clear H
        have hnb25 := NB150_151.out
        have hnc25 := NB151_150.out
        have hnb26 := NB150_152.out
        have hnc26 := NB152_150.out
        have hnb27 := NB150_154.out
        have hnc27 := NB154_150.out
        have hcz28_0 : wr.cell? ⟨gb150, 0, none⟩ = some (.slice A0_0 l0_0.length c0_0) := (blk_cell BK150.out 0).trans rfl
        have hcz28_1 : wr.cell? ⟨gb150, 1, none⟩ = some (.slice A0_1 l0_1.length c0_1) := (blk_cell BK150.out 1).trans rfl
        have hfz28_0 := blk_frozen BK150.out 0
        have hfz28_1 := blk_frozen BK150.out 1
        have p155 : 0 ≤ (x19_1 : Int) := of_decide_eq_true (by first | (with_reducible assumption) | assumption)
        have q155 : x19_1 < (l0_0.length : Int) := of_decide_eq_true (by first | (with_reducible assumption) | assumption)
        obtain ⟨ad155, e155, hx155_0⟩ := Kd.at_flt HR0_0.out x19_1 p155 q155
        cases e155
        replace hx155_0 := (HB.out.cell (World.block_lt_of_cell? w _ hx155_0)).trans hx155_0
        replace p155 := eq_true p155
        replace q155 := eq_true q155
        have hnb29 := NB151_152.out
        have hnc29 := NB152_151.out
        have hnb30 := NB151_154.out
        have hnc30 := NB154_151.out
        have hcz31_0 : wr.cell? ⟨gb151, 0, none⟩ = some (.slice A1_0 l1_0.length c1_0) := (blk_cell BK151.out 0).trans rfl
        have hcz31_1 : wr.cell? ⟨gb151, 1, none⟩ = some (.slice A1_1 l1_1.length c1_1) := (blk_cell BK151.out 1).trans rfl
        have hfz31_0 := blk_frozen BK151.out 0
        have hfz31_1 := blk_frozen BK151.out 1
        have p156 : 0 ≤ (x19_1 : Int) := of_decide_eq_true (by first | (with_reducible assumption) | assumption)
        have q156 : x19_1 < (l1_0.length : Int) := of_decide_eq_true (by first | (with_reducible assumption) | assumption)
        obtain ⟨ad156, e156, hx156_0⟩ := Kd.at_flt HR1_0.out x19_1 p156 q156
        cases e156
        replace hx156_0 := (HB.out.cell (World.block_lt_of_cell? w _ hx156_0)).trans hx156_0
        replace p156 := eq_true p156
        replace q156 := eq_true q156
        go_upto_if 33 with (fail)
        go_cut [8] (fun v8 wc => ∃ (kq : Nat) (x8_23 : Nat), v8 = .float .f64 x8_23 ∧ Aside0 (spec_BoxMeet.j1 kq x19_1 x8_23 (l0_0.length : Int) x19_1 l0_0 l0_1 l1_0 l1_1 x155000_1 x155001_1 = some (r1, r2, r3)) ∧ Aside0 (kq ≤ k1) ∧ Aside0 (Kd.R Kd.flt 39 wc w.heap.size (fun k_ => some k_ ≠ (u155001 : Value).ownBlock) u155000 x155000_1) ∧ Aside0 (Kd.R Kd.flt 39 wc w.heap.size (fun k_ => some k_ ≠ (u155000 : Value).ownBlock) u155001 x155001_1) ∧ Aside0 (wc.heap[gb150]? = some (.cells #[(.slice (some ad155) l0_0.length c0_0), (.slice A0_1 l0_1.length c0_1)] 26 (0, 0))) ∧ Aside0 (wc.heap[gb151]? = some (.cells #[(.slice (some ad156) l1_0.length c1_0), (.slice A1_1 l1_1.length c1_1)] 26 (0, 0))) ∧ Aside0 (wc.heap[gb152]? = some (.cells #[(.slice none 0 0), (.slice none 0 0)] 26 (0, 0))) ∧ Aside0 (wc.heap[gb154]? = some (.cells #[u155000, u155001] 26 (0, 0))) ∧ Aside0 (Below w.heap.size w wc))
        case first =>
         have H := HC24.out
         clear HC24
         by_cases c32 : (FloatKind.f64.format.order (rdOf (0 : Nat) l1_0 x19_1) (rdOf (0 : Nat) l0_0 x19_1) == some Ordering.gt) = true
         ·rw [if_pos c32] at H
          have c32b0 : (FloatKind.f64.format.order (rdOf (0 : Nat) l1_0 x19_1) (rdOf (0 : Nat) l0_0 x19_1) == some Ordering.gt) = true := c32
          (try (have c32b1 : decide (FloatKind.f64.format.order (rdOf (0 : Nat) l1_0 x19_1) (rdOf (0 : Nat) l0_0 x19_1) = some Ordering.gt) = true := by simpa using c32))
          (try (have c32b2 : (FloatKind.f64.format.order (rdOf (0 : Nat) l1_0 x19_1) (rdOf (0 : Nat) l0_0 x19_1) == some Ordering.gt) = true := by simpa using c32))
          clear c32
          (first | rw [c32b0] | (simp only [i64_w, i32_w]; rw [c32b0]) | skip)
          have H' := Aside0.mk H
          clear H
          have hnb33 := NB151_150.out
          have hnc33 := NB150_151.out
          have hnb34 := NB151_152.out
          have hnc34 := NB152_151.out
          have hnb35 := NB151_154.out
          have hnc35 := NB154_151.out
          have hcz36_0 : wr.cell? ⟨gb151, 0, none⟩ = some (.slice (some ad156) l1_0.length c1_0) := (blk_cell BK151.out 0).trans rfl
          have hcz36_1 : wr.cell? ⟨gb151, 1, none⟩ = some (.slice A1_1 l1_1.length c1_1) := (blk_cell BK151.out 1).trans rfl
          have hfz36_0 := blk_frozen BK151.out 0
          have hfz36_1 := blk_frozen BK151.out 1
          have p157 : 0 ≤ (x19_1 : Int) := of_decide_eq_true (by first | (with_reducible assumption) | assumption)
          have q157 : x19_1 < (l1_0.length : Int) := of_decide_eq_true (by first | (with_reducible assumption) | assumption)
          obtain ⟨ad157, e157, hx157_0⟩ := Kd.at_flt HR1_0.out x19_1 p157 q157
          obtain rfl : ad156 = ad157 := (by injection e157)
          replace hx157_0 := (HB.out.cell (World.block_lt_of_cell? w _ hx157_0)).trans hx157_0
          replace p157 := eq_true p157
          replace q157 := eq_true q157
          go_wp2
          go_meet
          case rel => exact ⟨_, (rdOf (0 : Nat) l1_0 x19_1), (by first | rfl | (simp; done) | (simp [*]; done)), H', ⟨by have := HK1.out; first | omega | exact Nat.le_refl _⟩, ⟨rk (HO_155000.out)⟩, ⟨rk (HO_155001.out)⟩, ⟨pk BK150.out⟩, ⟨pk BK151.out⟩, ⟨pk BK152.out⟩, ⟨pk BK154.out⟩, ⟨by repeat first | (with_reducible first | exact HB.out | refine bz ?_ (by assumption) | apply bA | apply bN | apply bD) | exact HB.out⟩⟩
         ·rw [if_neg c32] at H
          have c32b0 : (FloatKind.f64.format.order (rdOf (0 : Nat) l1_0 x19_1) (rdOf (0 : Nat) l0_0 x19_1) == some Ordering.gt) = false := by simpa using c32
          (try (have c32b1 : decide (FloatKind.f64.format.order (rdOf (0 : Nat) l1_0 x19_1) (rdOf (0 : Nat) l0_0 x19_1) = some Ordering.gt) = false := by simpa using c32))
          (try (have c32b2 : (FloatKind.f64.format.order (rdOf (0 : Nat) l1_0 x19_1) (rdOf (0 : Nat) l0_0 x19_1) == some Ordering.gt) = false := by simpa using c32))
          (try (have c32b3 : ¬ (FloatKind.f64.format.order (rdOf (0 : Nat) l1_0 x19_1) (rdOf (0 : Nat) l0_0 x19_1) = some Ordering.gt) := by simpa using c32))
          clear c32
          (first | rw [c32b0] | (simp only [i64_w, i32_w]; rw [c32b0]) | skip)
          have H' := Aside0.mk H
          clear H
          go_wp2
          go_meet
          case rel => exact ⟨_, (rdOf (0 : Nat) l0_0 x19_1), (by first | rfl | (simp; done) | (simp [*]; done)), H', ⟨by have := HK1.out; first | omega | exact Nat.le_refl _⟩, ⟨rk (HO_155000.out)⟩, ⟨rk (HO_155001.out)⟩, ⟨pk BK150.out⟩, ⟨pk BK151.out⟩, ⟨pk BK152.out⟩, ⟨pk BK154.out⟩, ⟨by repeat first | (with_reducible first | exact HB.out | refine bz ?_ (by assumption) | apply bA | apply bN | apply bD) | exact HB.out⟩⟩
        case rest =>
         clear HC24
         try clear c1
         try clear p1
         try clear q1
         try clear hx1
         try clear c2
         try clear p2
         try clear c3
         try clear c4
         try clear c8
         try clear c9
         try clear c11
         try clear c13
         try clear c15
         try clear p15
         try clear q15
         try clear hx15
         try clear c16
         try clear c17
         try clear c19
         try clear c20
         try clear c20b0
         try clear c21
         try clear c21b0
         try clear c22
         try clear c22b0
         try clear c23
         try clear c23b0
         try clear c25
         try clear c26
         try clear c27
         try clear c29
         try clear c30
         try clear c32
         try clear c32b0
         try clear c32b1
         try clear c32b2
         try clear c33
         try clear c34
         try clear c35
         try clear hcz10_0
         try clear hcz10_1
         try clear hcz12_0
         try clear hcz12_1
         try clear hcz18_0
         try clear hcz18_1
         try clear hcz19_0
         try clear hcz19_1
         try clear hcz28_0
         try clear hcz28_1
         try clear hcz31_0
         try clear hcz31_1
         try clear hcz36_0
         try clear hcz36_1
         try clear hfz10_0
         try clear hfz10_1
         try clear hfz12_0
         try clear hfz12_1
         try clear hfz18_0
         try clear hfz18_1
         try clear hfz19_0
         try clear hfz19_1
         try clear hfz28_0
         try clear hfz28_1
         try clear hfz31_0
         try clear hfz31_1
         try clear hfz36_0
         try clear hfz36_1
         try clear hx155_0
         try clear hx156_0
         try clear hx157_0
         try clear p155
         try clear p156
         try clear p157
         try clear p2
         try clear q155
         try clear q156
         try clear q157
         obtain ⟨kq, x8_23, rfl, HA, HJ23, HO_155000, HO_155001, BK150, BK151, BK152, BK154, HB⟩ := hcut
         cases kq with
         | zero => exact absurd HA.out (by simp [spec_BoxMeet.j1])
         | succ kj23 =>
          have H := HA.out
          clear HA
          simp only [spec_BoxMeet.j1] at H
          by_cases c37 : 0 ≤ x19_1
          ·rw [if_pos c37] at H
           have c37b0 : decide (0 ≤ x19_1) = true := decide_eq_true c37
           clear c37
           by_cases c38 : x19_1 < (l0_1.length : Int)
           ·rw [if_pos c38] at H
            have c38b0 : decide (x19_1 < (l0_1.length : Int)) = true := decide_eq_true c38
            clear c38
            by_cases c39 : x19_1 < (l1_1.length : Int)
            ·rw [if_pos c39] at H
             have c39b0 : decide (x19_1 < (l1_1.length : Int)) = true := decide_eq_true c39
             clear c39
             by_cases c40 : (FloatKind.f64.format.order (rdOf (0 : Nat) l1_1 x19_1) (rdOf (0 : Nat) l0_1 x19_1) == some Ordering.lt) = true
             ·rw [if_pos c40] at H
              have c40b0 : (FloatKind.f64.format.order (rdOf (0 : Nat) l1_1 x19_1) (rdOf (0 : Nat) l0_1 x19_1) == some Ordering.lt) = true := c40
              (try (have c40b1 : decide (FloatKind.f64.format.order (rdOf (0 : Nat) l1_1 x19_1) (rdOf (0 : Nat) l0_1 x19_1) = some Ordering.lt) = true := by simpa using c40))
              (try (have c40b2 : (FloatKind.f64.format.order (rdOf (0 : Nat) l1_1 x19_1) (rdOf (0 : Nat) l0_1 x19_1) == some Ordering.lt) = true := by simpa using c40))
              clear c40
              by_cases c41 : (FloatKind.f64.format.order x8_23 (rdOf (0 : Nat) l1_1 x19_1) == some Ordering.gt) = true
              ·rw [if_pos c41] at H
               have c41b0 : (FloatKind.f64.format.order x8_23 (rdOf (0 : Nat) l1_1 x19_1) == some Ordering.gt) = true := c41
               (try (have c41b1 : decide (FloatKind.f64.format.order x8_23 (rdOf (0 : Nat) l1_1 x19_1) = some Ordering.gt) = true := by simpa using c41))
               (try (have c41b2 : (FloatKind.f64.format.order x8_23 (rdOf (0 : Nat) l1_1 x19_1) == some Ordering.gt) = true := by simpa using c41))
               clear c41
               simp only [Option.some.injEq, Prod.mk.injEq] at H
               obtain ⟨rfl, rfl, rfl⟩ := H
               have hnb42 := NB150_151.out
               have hnc42 := NB151_150.out
               have hnb43 := NB150_152.out
               have hnc43 := NB152_150.out
               have hnb44 := NB150_154.out
               have hnc44 := NB154_150.out
               have hcz45_0 : wc.cell? ⟨gb150, 0, none⟩ = some (.slice (some ad155) l0_0.length c0_0) := (blk_cell BK150.out 0).trans rfl
               have hcz45_1 : wc.cell? ⟨gb150, 1, none⟩ = some (.slice A0_1 l0_1.length c0_1) := (blk_cell BK150.out 1).trans rfl
               have hfz45_0 := blk_frozen BK150.out 0
               have hfz45_1 := blk_frozen BK150.out 1
               have p158 : 0 ≤ (x19_1 : Int) := of_decide_eq_true (by first | (with_reducible assumption) | assumption)
               have q158 : x19_1 < (l0_1.length : Int) := of_decide_eq_true (by first | (with_reducible assumption) | assumption)
               obtain ⟨ad158, e158, hx158_0⟩ := Kd.at_flt HR0_1.out x19_1 p158 q158
               cases e158
               replace hx158_0 := (HB.out.cell (World.block_lt_of_cell? w _ hx158_0)).trans hx158_0
               replace p158 := eq_true p158
               replace q158 := eq_true q158
               have hnb46 := NB151_152.out
               have hnc46 := NB152_151.out
               have hnb47 := NB151_154.out
               have hnc47 := NB154_151.out
               have hcz48_0 : wc.cell? ⟨gb151, 0, none⟩ = some (.slice (some ad156) l1_0.length c1_0) := (blk_cell BK151.out 0).trans rfl
               have hcz48_1 : wc.cell? ⟨gb151, 1, none⟩ = some (.slice A1_1 l1_1.length c1_1) := (blk_cell BK151.out 1).trans rfl
               have hfz48_0 := blk_frozen BK151.out 0
               have hfz48_1 := blk_frozen BK151.out 1
               have p159 : 0 ≤ (x19_1 : Int) := of_decide_eq_true (by first | (with_reducible assumption) | assumption)
               have q159 : x19_1 < (l1_1.length : Int) := of_decide_eq_true (by first | (with_reducible assumption) | assumption)
               obtain ⟨ad159, e159, hx159_0⟩ := Kd.at_flt HR1_1.out x19_1 p159 q159
               cases e159
               replace hx159_0 := (HB.out.cell (World.block_lt_of_cell? w _ hx159_0)).trans hx159_0
               replace p159 := eq_true p159
               replace q159 := eq_true q159
               have p160 : 0 ≤ (x19_1 : Int) := of_decide_eq_true (by first | (with_reducible assumption) | assumption)
               have q160 : x19_1 < (l1_1.length : Int) := of_decide_eq_true (by first | (with_reducible assumption) | assumption)
               obtain ⟨ad160, e160, hx160_0⟩ := Kd.at_flt HR1_1.out x19_1 p160 q160
               obtain rfl : ad159 = ad160 := (by injection e160)
               replace hx160_0 := (HB.out.cell (World.block_lt_of_cell? w _ hx160_0)).trans hx160_0
               replace p160 := eq_true p160
               replace q160 := eq_true q160
               have hnb49 := NB152_154.out
               have hnc49 := NB154_152.out
               have hcz50_0 : wc.cell? ⟨gb152, 0, none⟩ = some (.slice none 0 0) := (blk_cell BK152.out 0).trans rfl
               have hcz50_1 : wc.cell? ⟨gb152, 1, none⟩ = some (.slice none 0 0) := (blk_cell BK152.out 1).trans rfl
               have hfz50_0 := blk_frozen BK152.out 0
               have hfz50_1 := blk_frozen BK152.out 1
               go_wp2
               refine bodyPost_ret (results_ct rfl _ _ gb152 26 #[.slice none 0 0, .slice none 0 0] (0, 0) _ rfl (by refine pk ?_; refine blk_put (cs := #[.slice none 0 0, .slice none 0 0]) ?_ 1 _ rfl; refine pk ?_; refine blk_put (cs := #[.slice none 0 0, .slice none 0 0]) ?_ 0 _ rfl; refine pk ?_; exact BK152.out) Try.underlying26 rfl (by kernel_rfl)) rfl ?_
               exact ⟨_, _, by first | rfl | (simp [errW_none, errW_some] <;> rfl) | (simp [*, errW_none, errW_some] <;> rfl), by first | exact Kd.R_nil _ _ _ _ _ | exact Kd.N_nil _ _ _ _ _ | exact Kd.V_nil _ _ _ _ _ | exact Kd.Q_nil _ _ _ _ _ | exact Kd.S_nil _ _ _ _ _, by first | exact Kd.R_nil _ _ _ _ _ | exact Kd.N_nil _ _ _ _ _ | exact Kd.V_nil _ _ _ _ _ | exact Kd.Q_nil _ _ _ _ _ | exact Kd.S_nil _ _ _ _ _, by repeat first | (with_reducible first | exact HB.out | refine bz ?_ (by assumption) | apply bA | apply bN | apply bD) | exact HB.out⟩
              ·rw [if_neg c41] at H
               have c41b0 : (FloatKind.f64.format.order x8_23 (rdOf (0 : Nat) l1_1 x19_1) == some Ordering.gt) = false := by simpa using c41
               (try (have c41b1 : decide (FloatKind.f64.format.order x8_23 (rdOf (0 : Nat) l1_1 x19_1) = some Ordering.gt) = false := by simpa using c41))
               (try (have c41b2 : (FloatKind.f64.format.order x8_23 (rdOf (0 : Nat) l1_1 x19_1) == some Ordering.gt) = false := by simpa using c41))
               (try (have c41b3 : ¬ (FloatKind.f64.format.order x8_23 (rdOf (0 : Nat) l1_1 x19_1) = some Ordering.gt) := by simpa using c41))
               clear c41
               by_cases c51 : x155000_1.length < 17592186044416
               ·rw [if_pos c51] at H
                have LMc51 := Aside0.mk c51
                clear c51
                obtain ⟨y161, hy161⟩ : ∃ y_ : List Nat, y_ = (x155000_1 ++ [x8_23]) := ⟨_, rfl⟩
                replace H : (if x155001_1.length < 17592186044416 then (spec_BoxMeet.l0 kj23 (l0_0.length : Int) (wrap64 (x19_1 + 1)) l0_0 l0_1 l1_0 l1_1 y161 (x155001_1 ++ [rdOf (0 : Nat) l1_1 x19_1])) else (none)) = some (r1, r2, r3) := by first | (rw [hy161]; with_reducible exact H) | (have H2_ := (Option.bind_some _ _).symm.trans H; rw [hy161]; with_reducible exact H2_) | (have H2_ := (Option.bind_some _ _).symm.trans H; with_reducible exact H2_) | with_reducible exact H | (rw [hy161]; exact H) | exact H
                have Ny161 := Aside0.mk hy161
                clear hy161
                by_cases c52 : x155001_1.length < 17592186044416
                ·rw [if_pos c52] at H
                 have LMc52 := Aside0.mk c52
                 clear c52
                 obtain ⟨y164, hy164⟩ : ∃ y_ : List Nat, y_ = (x155001_1 ++ [rdOf (0 : Nat) l1_1 x19_1]) := ⟨_, rfl⟩
                 replace H : (spec_BoxMeet.l0 kj23 (l0_0.length : Int) (wrap64 (x19_1 + 1)) l0_0 l0_1 l1_0 l1_1 y161 y164) = some (r1, r2, r3) := by first | (rw [hy164]; with_reducible exact H) | (have H2_ := (Option.bind_some _ _).symm.trans H; rw [hy164]; with_reducible exact H2_) | (have H2_ := (Option.bind_some _ _).symm.trans H; with_reducible exact H2_) | with_reducible exact H | (rw [hy164]; exact H) | exact H
                 have Ny164 := Aside0.mk hy164
                 clear hy164
                 have H' := Aside0.mk H
                 clear H
                 have hnb53 := NB150_151.out
                 have hnc53 := NB151_150.out
                 have hnb54 := NB150_152.out
                 have hnc54 := NB152_150.out
                 have hnb55 := NB150_154.out
                 have hnc55 := NB154_150.out
                 have hcz56_0 : wc.cell? ⟨gb150, 0, none⟩ = some (.slice (some ad155) l0_0.length c0_0) := (blk_cell BK150.out 0).trans rfl
                 have hcz56_1 : wc.cell? ⟨gb150, 1, none⟩ = some (.slice A0_1 l0_1.length c0_1) := (blk_cell BK150.out 1).trans rfl
                 have hfz56_0 := blk_frozen BK150.out 0
                 have hfz56_1 := blk_frozen BK150.out 1
                 have p158 : 0 ≤ (x19_1 : Int) := of_decide_eq_true (by first | (with_reducible assumption) | assumption)
                 have q158 : x19_1 < (l0_1.length : Int) := of_decide_eq_true (by first | (with_reducible assumption) | assumption)
                 obtain ⟨ad158, e158, hx158_0⟩ := Kd.at_flt HR0_1.out x19_1 p158 q158
                 cases e158
                 replace hx158_0 := (HB.out.cell (World.block_lt_of_cell? w _ hx158_0)).trans hx158_0
                 replace p158 := eq_true p158
                 replace q158 := eq_true q158
                 have hnb57 := NB151_152.out
                 have hnc57 := NB152_151.out
                 have hnb58 := NB151_154.out
                 have hnc58 := NB154_151.out
                 have hcz59_0 : wc.cell? ⟨gb151, 0, none⟩ = some (.slice (some ad156) l1_0.length c1_0) := (blk_cell BK151.out 0).trans rfl
                 have hcz59_1 : wc.cell? ⟨gb151, 1, none⟩ = some (.slice A1_1 l1_1.length c1_1) := (blk_cell BK151.out 1).trans rfl
                 have hfz59_0 := blk_frozen BK151.out 0
                 have hfz59_1 := blk_frozen BK151.out 1
                 have p159 : 0 ≤ (x19_1 : Int) := of_decide_eq_true (by first | (with_reducible assumption) | assumption)
                 have q159 : x19_1 < (l1_1.length : Int) := of_decide_eq_true (by first | (with_reducible assumption) | assumption)
                 obtain ⟨ad159, e159, hx159_0⟩ := Kd.at_flt HR1_1.out x19_1 p159 q159
                 cases e159
                 replace hx159_0 := (HB.out.cell (World.block_lt_of_cell? w _ hx159_0)).trans hx159_0
                 replace p159 := eq_true p159
                 replace q159 := eq_true q159
                 have p160 : 0 ≤ (x19_1 : Int) := of_decide_eq_true (by first | (with_reducible assumption) | assumption)
                 have q160 : x19_1 < (l1_1.length : Int) := of_decide_eq_true (by first | (with_reducible assumption) | assumption)
                 obtain ⟨ad160, e160, hx160_0⟩ := Kd.at_flt HR1_1.out x19_1 p160 q160
                 obtain rfl : ad159 = ad160 := (by injection e160)
                 replace hx160_0 := (HB.out.cell (World.block_lt_of_cell? w _ hx160_0)).trans hx160_0
                 replace p160 := eq_true p160
                 replace q160 := eq_true q160
                 have hnb60 := NB154_152.out
                 have hnc60 := NB152_154.out
                 have hcz61_0 : wc.cell? ⟨gb154, 0, none⟩ = some (u155000) := (blk_cell BK154.out 0).trans rfl
                 have hcz61_1 : wc.cell? ⟨gb154, 1, none⟩ = some (u155001) := (blk_cell BK154.out 1).trans rfl
                 have hfz61_0 := blk_frozen BK154.out 0
                 have hfz61_1 := blk_frozen BK154.out 1
                 go_wp2_with (first | ((with_reducible refine gate_builtin (b := .append) (xs := #[.tmp 61, .tmp 63]) rfl ?_); at_builtin; refine Kd.R_append Kd.flt (w0 := w) w.heap.size rfl (.tmp 61) (.tmp 63) 22 39 (.float .f64 0) 8 rfl Try.underlying22 info39 rfl (by decide) (by omega) u155000 x155000_1 x8_23 [.float .f64 x8_23] (fun k_ => some k_ ≠ (u155001 : Value).ownBlock) (fun _ => False) rfl rfl ?aP (fun _ hk => hk.elim) ?aF ?aO ?aB ?aS ?aL ?_; (case aP => exact rfl); (case aB => exact (by repeat first | (with_reducible first | exact HB.out | refine bz ?_ (by assumption) | apply bA | apply bN | apply bD) | exact HB.out)); (case aF => exact (fun k_ hk => Kd.fresh' (Kd.R_lt (rk HO_155001.out)) k_ hk)); (case aO => exact (rk HO_155000.out)); (case aS => exact (bs HB.out)); (case aL => have := LMc51.out; omega); intro v162 w62 ho hb hg hat; rw [← Ny161.out] at ho; replace HO_155001 := a_ (Kd.R_after (ok := (fun _ => True)) (rk (Kd.R_mono HO_155001.out (fun _ hk => ⟨trivial, hk⟩))) hg hat); replace BK150 := a_ (blk_grown (pk BK150.out) hg (Kd.R_ne HO_155000.out BK150.out (by decide))); replace BK151 := a_ (blk_grown (pk BK151.out) hg (Kd.R_ne HO_155000.out BK151.out (by decide))); replace BK152 := a_ (blk_grown (pk BK152.out) hg (Kd.R_ne HO_155000.out BK152.out (by decide))); replace BK154 := a_ (blk_grown (pk BK154.out) hg (Kd.R_ne HO_155000.out BK154.out (by decide))); replace HB := a_ (hb); have HO163 := a_ (ho); clear HO_155000 ho hb hg hat; obtain ⟨Ao63, co63, eo63⟩ := Kd.R_slice HO163.out; subst eo63; have hcz64_0 : w62.cell? ⟨gb154, 0, none⟩ = some (u155000) := (blk_cell BK154.out 0).trans rfl; have hcz64_1 : w62.cell? ⟨gb154, 1, none⟩ = some (u155001) := (blk_cell BK154.out 1).trans rfl; have hfz64_0 := blk_frozen BK154.out 0; have hfz64_1 := blk_frozen BK154.out 1) | ((with_reducible refine gate_builtin (b := .append) (xs := #[.tmp 67, .tmp 69]) rfl ?_); at_builtin; refine Kd.R_append Kd.flt (w0 := w) w.heap.size rfl (.tmp 67) (.tmp 69) 22 39 (.float .f64 0) 8 rfl Try.underlying22 info39 rfl (by decide) (by omega) u155001 x155001_1 (rdOf (0 : Nat) l1_1 x19_1) [.float .f64 (rdOf (0 : Nat) l1_1 x19_1)] (fun k_ => N_ (.slice Ao63 y161.length co63) k_) (fun _ => False) rfl (by first | (go_simp; done) | (go_simp; rfl)) ?aP (fun _ hk => hk.elim) ?aF ?aO ?aB ?aS ?aL ?_; (case aP => exact rfl); (case aB => exact (by repeat first | (with_reducible first | exact HB.out | refine bz ?_ (by assumption) | apply bA | apply bN | apply bD) | exact HB.out)); (case aF => exact (fun k_ hk => Kd.fresh' (Kd.R_lt (rk (Kd.R_mono (fr1 HO163.out BK154.out (by decide) 0 (.slice Ao63 y161.length co63)) (fun _ h_ => h_.1)))) k_ hk)); (case aO => exact (rk (Kd.R_mono (fr1 HO_155001.out BK154.out (by decide) 0 (.slice Ao63 y161.length co63)) (fun _ hk => hk.1.2)))); (case aS => exact (bs HB.out)); (case aL => have := LMc52.out; omega); intro v165 w65 ho hb hg hat; rw [← Ny164.out] at ho; replace BK150 := a_ (blk_grown (g := gb150) (o := .cells #[.slice (some ad155) l0_0.length c0_0, .slice (some ad158) l0_1.length c0_1] 26 (0, 0)) (by refine pk ?_; refine blk_far ?_ NB150_154.out _; refine pk ?_; exact BK150.out) hg (Kd.R_ne HO_155001.out BK150.out (by decide))); replace BK151 := a_ (blk_grown (g := gb151) (o := .cells #[.slice (some ad156) l1_0.length c1_0, .slice (some ad159) l1_1.length c1_1] 26 (0, 0)) (by refine pk ?_; refine blk_far ?_ NB151_154.out _; refine pk ?_; exact BK151.out) hg (Kd.R_ne HO_155001.out BK151.out (by decide))); replace BK152 := a_ (blk_grown (g := gb152) (o := .cells #[.slice none 0 0, .slice none 0 0] 26 (0, 0)) (by refine pk ?_; refine blk_far ?_ NB152_154.out _; refine pk ?_; exact BK152.out) hg (Kd.R_ne HO_155001.out BK152.out (by decide))); replace HO163 := a_ (Kd.R_after (ok := (fun _ => True)) (rk (Kd.R_mono (fr1 HO163.out BK154.out (by decide) 0 (.slice Ao63 y161.length co63)) (fun _ hk => ⟨trivial, hk.1⟩))) hg hat); replace BK154 := a_ (blk_grown (g := gb154) (o := .cells #[.slice Ao63 y161.length co63, u155001] 26 (0, 0)) (by refine pk ?_; refine blk_put (cs := #[u155000, u155001]) ?_ 0 _ rfl; refine pk ?_; exact BK154.out) hg (Kd.R_ne HO_155001.out BK154.out (by decide))); replace HB := a_ (hb); have HO166 := a_ (ho); clear HO_155001 ho hb hg hat; obtain ⟨Ao66, co66, eo66⟩ := Kd.R_slice HO166.out; subst eo66; have hcz67_0 : _ = some (Value.slice Ao63 y161.length co63) := (blk_cell BK154.out 0).trans rfl; have hcz67_1 : w65.cell? ⟨gb154, 1, none⟩ = some (u155001) := (blk_cell BK154.out 1).trans rfl; have hfz67_0 := blk_frozen BK154.out 0; have hfz67_1 := blk_frozen BK154.out 1))
                 go_roundg kj23
                 case measure => have := HK1.out; have := HJ23.out; omega
                 case rel => exact ⟨(wrap64 (x19_1 + 1)), (y161), (y164), (.slice Ao63 y161.length co63), (.slice Ao66 y164.length co66), (by first | rfl | (simp; done) | (simp [*]; done)), H', ⟨by have := HK1.out; have := HJ23.out; omega⟩, ⟨rk (Kd.R_mono (fr1 HO163.out BK154.out (by decide) 1 (.slice Ao66 y164.length co66)) (fun _ hk => hk.1.2))⟩, ⟨rk (Kd.R_mono (fr1 HO166.out BK154.out (by decide) 1 (.slice Ao66 y164.length co66)) (fun _ hk => hk.1))⟩, ⟨by refine pk ?_; refine blk_far ?_ NB150_154.out _; refine pk ?_; exact BK150.out⟩, ⟨by refine pk ?_; refine blk_far ?_ NB151_154.out _; refine pk ?_; exact BK151.out⟩, ⟨by refine pk ?_; refine blk_far ?_ NB152_154.out _; refine pk ?_; exact BK152.out⟩, ⟨by refine pk ?_; refine blk_put (cs := #[.slice Ao63 y161.length co63, u155001]) ?_ 1 _ rfl; refine pk ?_; exact BK154.out⟩, ⟨by repeat first | (with_reducible first | exact HB.out | refine bz ?_ (by assumption) | apply bA | apply bN | apply bD) | exact HB.out⟩⟩
                ·rw [if_neg c52] at H
                 exact absurd H (by simp)
               ·rw [if_neg c51] at H
                exact absurd H (by simp)
             ·rw [if_neg c40] at H
              have c40b0 : (FloatKind.f64.format.order (rdOf (0 : Nat) l1_1 x19_1) (rdOf (0 : Nat) l0_1 x19_1) == some Ordering.lt) = false := by simpa using c40
              (try (have c40b1 : decide (FloatKind.f64.format.order (rdOf (0 : Nat) l1_1 x19_1) (rdOf (0 : Nat) l0_1 x19_1) = some Ordering.lt) = false := by simpa using c40))
              (try (have c40b2 : (FloatKind.f64.format.order (rdOf (0 : Nat) l1_1 x19_1) (rdOf (0 : Nat) l0_1 x19_1) == some Ordering.lt) = false := by simpa using c40))
              (try (have c40b3 : ¬ (FloatKind.f64.format.order (rdOf (0 : Nat) l1_1 x19_1) (rdOf (0 : Nat) l0_1 x19_1) = some Ordering.lt) := by simpa using c40))
              clear c40
              by_cases c68 : (FloatKind.f64.format.order x8_23 (rdOf (0 : Nat) l0_1 x19_1) == some Ordering.gt) = true
              ·rw [if_pos c68] at H
               have c68b0 : (FloatKind.f64.format.order x8_23 (rdOf (0 : Nat) l0_1 x19_1) == some Ordering.gt) = true := c68
               (try (have c68b1 : decide (FloatKind.f64.format.order x8_23 (rdOf (0 : Nat) l0_1 x19_1) = some Ordering.gt) = true := by simpa using c68))
               (try (have c68b2 : (FloatKind.f64.format.order x8_23 (rdOf (0 : Nat) l0_1 x19_1) == some Ordering.gt) = true := by simpa using c68))
               clear c68
               simp only [Option.some.injEq, Prod.mk.injEq] at H
               obtain ⟨rfl, rfl, rfl⟩ := H
               have hnb69 := NB150_151.out
               have hnc69 := NB151_150.out
               have hnb70 := NB150_152.out
               have hnc70 := NB152_150.out
               have hnb71 := NB150_154.out
               have hnc71 := NB154_150.out
               have hcz72_0 : wc.cell? ⟨gb150, 0, none⟩ = some (.slice (some ad155) l0_0.length c0_0) := (blk_cell BK150.out 0).trans rfl
               have hcz72_1 : wc.cell? ⟨gb150, 1, none⟩ = some (.slice A0_1 l0_1.length c0_1) := (blk_cell BK150.out 1).trans rfl
               have hfz72_0 := blk_frozen BK150.out 0
               have hfz72_1 := blk_frozen BK150.out 1
               have p158 : 0 ≤ (x19_1 : Int) := of_decide_eq_true (by first | (with_reducible assumption) | assumption)
               have q158 : x19_1 < (l0_1.length : Int) := of_decide_eq_true (by first | (with_reducible assumption) | assumption)
               obtain ⟨ad158, e158, hx158_0⟩ := Kd.at_flt HR0_1.out x19_1 p158 q158
               cases e158
               replace hx158_0 := (HB.out.cell (World.block_lt_of_cell? w _ hx158_0)).trans hx158_0
               replace p158 := eq_true p158
               replace q158 := eq_true q158
               have hnb73 := NB151_152.out
               have hnc73 := NB152_151.out
               have hnb74 := NB151_154.out
               have hnc74 := NB154_151.out
               have hcz75_0 : wc.cell? ⟨gb151, 0, none⟩ = some (.slice (some ad156) l1_0.length c1_0) := (blk_cell BK151.out 0).trans rfl
               have hcz75_1 : wc.cell? ⟨gb151, 1, none⟩ = some (.slice A1_1 l1_1.length c1_1) := (blk_cell BK151.out 1).trans rfl
               have hfz75_0 := blk_frozen BK151.out 0
               have hfz75_1 := blk_frozen BK151.out 1
               have p159 : 0 ≤ (x19_1 : Int) := of_decide_eq_true (by first | (with_reducible assumption) | assumption)
               have q159 : x19_1 < (l1_1.length : Int) := of_decide_eq_true (by first | (with_reducible assumption) | assumption)
               obtain ⟨ad159, e159, hx159_0⟩ := Kd.at_flt HR1_1.out x19_1 p159 q159
               cases e159
               replace hx159_0 := (HB.out.cell (World.block_lt_of_cell? w _ hx159_0)).trans hx159_0
               replace p159 := eq_true p159
               replace q159 := eq_true q159
               have hnb76 := NB152_154.out
               have hnc76 := NB154_152.out
               have hcz77_0 : wc.cell? ⟨gb152, 0, none⟩ = some (.slice none 0 0) := (blk_cell BK152.out 0).trans rfl
               have hcz77_1 : wc.cell? ⟨gb152, 1, none⟩ = some (.slice none 0 0) := (blk_cell BK152.out 1).trans rfl
               have hfz77_0 := blk_frozen BK152.out 0
               have hfz77_1 := blk_frozen BK152.out 1
               go_wp2
               refine bodyPost_ret (results_ct rfl _ _ gb152 26 #[.slice none 0 0, .slice none 0 0] (0, 0) _ rfl (by refine pk ?_; refine blk_put (cs := #[.slice none 0 0, .slice none 0 0]) ?_ 1 _ rfl; refine pk ?_; refine blk_put (cs := #[.slice none 0 0, .slice none 0 0]) ?_ 0 _ rfl; refine pk ?_; exact BK152.out) Try.underlying26 rfl (by kernel_rfl)) rfl ?_
               exact ⟨_, _, by first | rfl | (simp [errW_none, errW_some] <;> rfl) | (simp [*, errW_none, errW_some] <;> rfl), by first | exact Kd.R_nil _ _ _ _ _ | exact Kd.N_nil _ _ _ _ _ | exact Kd.V_nil _ _ _ _ _ | exact Kd.Q_nil _ _ _ _ _ | exact Kd.S_nil _ _ _ _ _, by first | exact Kd.R_nil _ _ _ _ _ | exact Kd.N_nil _ _ _ _ _ | exact Kd.V_nil _ _ _ _ _ | exact Kd.Q_nil _ _ _ _ _ | exact Kd.S_nil _ _ _ _ _, by repeat first | (with_reducible first | exact HB.out | refine bz ?_ (by assumption) | apply bA | apply bN | apply bD) | exact HB.out⟩
              ·rw [if_neg c68] at H
               have c68b0 : (FloatKind.f64.format.order x8_23 (rdOf (0 : Nat) l0_1 x19_1) == some Ordering.gt) = false := by simpa using c68
               (try (have c68b1 : decide (FloatKind.f64.format.order x8_23 (rdOf (0 : Nat) l0_1 x19_1) = some Ordering.gt) = false := by simpa using c68))
               (try (have c68b2 : (FloatKind.f64.format.order x8_23 (rdOf (0 : Nat) l0_1 x19_1) == some Ordering.gt) = false := by simpa using c68))
               (try (have c68b3 : ¬ (FloatKind.f64.format.order x8_23 (rdOf (0 : Nat) l0_1 x19_1) = some Ordering.gt) := by simpa using c68))
               clear c68
               by_cases c78 : x155000_1.length < 17592186044416
               ·rw [if_pos c78] at H
                have LMc78 := Aside0.mk c78
                clear c78
                obtain ⟨y167, hy167⟩ : ∃ y_ : List Nat, y_ = (x155000_1 ++ [x8_23]) := ⟨_, rfl⟩
                replace H : (if x155001_1.length < 17592186044416 then (spec_BoxMeet.l0 kj23 (l0_0.length : Int) (wrap64 (x19_1 + 1)) l0_0 l0_1 l1_0 l1_1 y167 (x155001_1 ++ [rdOf (0 : Nat) l0_1 x19_1])) else (none)) = some (r1, r2, r3) := by first | (rw [hy167]; with_reducible exact H) | (have H2_ := (Option.bind_some _ _).symm.trans H; rw [hy167]; with_reducible exact H2_) | (have H2_ := (Option.bind_some _ _).symm.trans H; with_reducible exact H2_) | with_reducible exact H | (rw [hy167]; exact H) | exact H
                have Ny167 := Aside0.mk hy167
                clear hy167
                by_cases c79 : x155001_1.length < 17592186044416
                ·rw [if_pos c79] at H
                 have LMc79 := Aside0.mk c79
                 clear c79
                 obtain ⟨y170, hy170⟩ : ∃ y_ : List Nat, y_ = (x155001_1 ++ [rdOf (0 : Nat) l0_1 x19_1]) := ⟨_, rfl⟩
                 replace H : (spec_BoxMeet.l0 kj23 (l0_0.length : Int) (wrap64 (x19_1 + 1)) l0_0 l0_1 l1_0 l1_1 y167 y170) = some (r1, r2, r3) := by first | (rw [hy170]; with_reducible exact H) | (have H2_ := (Option.bind_some _ _).symm.trans H; rw [hy170]; with_reducible exact H2_) | (have H2_ := (Option.bind_some _ _).symm.trans H; with_reducible exact H2_) | with_reducible exact H | (rw [hy170]; exact H) | exact H
                 have Ny170 := Aside0.mk hy170
                 clear hy170
                 have H' := Aside0.mk H
                 clear H
                 have hnb80 := NB150_151.out
                 have hnc80 := NB151_150.out
                 have hnb81 := NB150_152.out
                 have hnc81 := NB152_150.out
                 have hnb82 := NB150_154.out
                 have hnc82 := NB154_150.out
                 have hcz83_0 : wc.cell? ⟨gb150, 0, none⟩ = some (.slice (some ad155) l0_0.length c0_0) := (blk_cell BK150.out 0).trans rfl
                 have hcz83_1 : wc.cell? ⟨gb150, 1, none⟩ = some (.slice A0_1 l0_1.length c0_1) := (blk_cell BK150.out 1).trans rfl
                 have hfz83_0 := blk_frozen BK150.out 0
                 have hfz83_1 := blk_frozen BK150.out 1
                 have p158 : 0 ≤ (x19_1 : Int) := of_decide_eq_true (by first | (with_reducible assumption) | assumption)
                 have q158 : x19_1 < (l0_1.length : Int) := of_decide_eq_true (by first | (with_reducible assumption) | assumption)
                 obtain ⟨ad158, e158, hx158_0⟩ := Kd.at_flt HR0_1.out x19_1 p158 q158
                 cases e158
                 replace hx158_0 := (HB.out.cell (World.block_lt_of_cell? w _ hx158_0)).trans hx158_0
                 replace p158 := eq_true p158
                 replace q158 := eq_true q158
                 have hnb84 := NB151_152.out
                 have hnc84 := NB152_151.out
                 have hnb85 := NB151_154.out
                 have hnc85 := NB154_151.out
                 have hcz86_0 : wc.cell? ⟨gb151, 0, none⟩ = some (.slice (some ad156) l1_0.length c1_0) := (blk_cell BK151.out 0).trans rfl
                 have hcz86_1 : wc.cell? ⟨gb151, 1, none⟩ = some (.slice A1_1 l1_1.length c1_1) := (blk_cell BK151.out 1).trans rfl
                 have hfz86_0 := blk_frozen BK151.out 0
                 have hfz86_1 := blk_frozen BK151.out 1
                 have p159 : 0 ≤ (x19_1 : Int) := of_decide_eq_true (by first | (with_reducible assumption) | assumption)
                 have q159 : x19_1 < (l1_1.length : Int) := of_decide_eq_true (by first | (with_reducible assumption) | assumption)
                 obtain ⟨ad159, e159, hx159_0⟩ := Kd.at_flt HR1_1.out x19_1 p159 q159
                 cases e159
                 replace hx159_0 := (HB.out.cell (World.block_lt_of_cell? w _ hx159_0)).trans hx159_0
                 replace p159 := eq_true p159
                 replace q159 := eq_true q159
                 have hnb87 := NB154_152.out
                 have hnc87 := NB152_154.out
                 have hcz88_0 : wc.cell? ⟨gb154, 0, none⟩ = some (u155000) := (blk_cell BK154.out 0).trans rfl
                 have hcz88_1 : wc.cell? ⟨gb154, 1, none⟩ = some (u155001) := (blk_cell BK154.out 1).trans rfl
                 have hfz88_0 := blk_frozen BK154.out 0
                 have hfz88_1 := blk_frozen BK154.out 1
                 go_wp2_with (first | ((with_reducible refine gate_builtin (b := .append) (xs := #[.tmp 61, .tmp 63]) rfl ?_); at_builtin; refine Kd.R_append Kd.flt (w0 := w) w.heap.size rfl (.tmp 61) (.tmp 63) 22 39 (.float .f64 0) 8 rfl Try.underlying22 info39 rfl (by decide) (by omega) u155000 x155000_1 x8_23 [.float .f64 x8_23] (fun k_ => some k_ ≠ (u155001 : Value).ownBlock) (fun _ => False) rfl rfl ?aP (fun _ hk => hk.elim) ?aF ?aO ?aB ?aS ?aL ?_; (case aP => exact rfl); (case aB => exact (by repeat first | (with_reducible first | exact HB.out | refine bz ?_ (by assumption) | apply bA | apply bN | apply bD) | exact HB.out)); (case aF => exact (fun k_ hk => Kd.fresh' (Kd.R_lt (rk HO_155001.out)) k_ hk)); (case aO => exact (rk HO_155000.out)); (case aS => exact (bs HB.out)); (case aL => have := LMc78.out; omega); intro v168 w89 ho hb hg hat; rw [← Ny167.out] at ho; replace HO_155001 := a_ (Kd.R_after (ok := (fun _ => True)) (rk (Kd.R_mono HO_155001.out (fun _ hk => ⟨trivial, hk⟩))) hg hat); replace BK150 := a_ (blk_grown (pk BK150.out) hg (Kd.R_ne HO_155000.out BK150.out (by decide))); replace BK151 := a_ (blk_grown (pk BK151.out) hg (Kd.R_ne HO_155000.out BK151.out (by decide))); replace BK152 := a_ (blk_grown (pk BK152.out) hg (Kd.R_ne HO_155000.out BK152.out (by decide))); replace BK154 := a_ (blk_grown (pk BK154.out) hg (Kd.R_ne HO_155000.out BK154.out (by decide))); replace HB := a_ (hb); have HO169 := a_ (ho); clear HO_155000 ho hb hg hat; obtain ⟨Ao90, co90, eo90⟩ := Kd.R_slice HO169.out; subst eo90; have hcz91_0 : w89.cell? ⟨gb154, 0, none⟩ = some (u155000) := (blk_cell BK154.out 0).trans rfl; have hcz91_1 : w89.cell? ⟨gb154, 1, none⟩ = some (u155001) := (blk_cell BK154.out 1).trans rfl; have hfz91_0 := blk_frozen BK154.out 0; have hfz91_1 := blk_frozen BK154.out 1) | ((with_reducible refine gate_builtin (b := .append) (xs := #[.tmp 67, .tmp 69]) rfl ?_); at_builtin; refine Kd.R_append Kd.flt (w0 := w) w.heap.size rfl (.tmp 67) (.tmp 69) 22 39 (.float .f64 0) 8 rfl Try.underlying22 info39 rfl (by decide) (by omega) u155001 x155001_1 (rdOf (0 : Nat) l0_1 x19_1) [.float .f64 (rdOf (0 : Nat) l0_1 x19_1)] (fun k_ => N_ (.slice Ao90 y167.length co90) k_) (fun _ => False) rfl (by first | (go_simp; done) | (go_simp; rfl)) ?aP (fun _ hk => hk.elim) ?aF ?aO ?aB ?aS ?aL ?_; (case aP => exact rfl); (case aB => exact (by repeat first | (with_reducible first | exact HB.out | refine bz ?_ (by assumption) | apply bA | apply bN | apply bD) | exact HB.out)); (case aF => exact (fun k_ hk => Kd.fresh' (Kd.R_lt (rk (Kd.R_mono (fr1 HO169.out BK154.out (by decide) 0 (.slice Ao90 y167.length co90)) (fun _ h_ => h_.1)))) k_ hk)); (case aO => exact (rk (Kd.R_mono (fr1 HO_155001.out BK154.out (by decide) 0 (.slice Ao90 y167.length co90)) (fun _ hk => hk.1.2)))); (case aS => exact (bs HB.out)); (case aL => have := LMc79.out; omega); intro v171 w92 ho hb hg hat; rw [← Ny170.out] at ho; replace BK150 := a_ (blk_grown (g := gb150) (o := .cells #[.slice (some ad155) l0_0.length c0_0, .slice (some ad158) l0_1.length c0_1] 26 (0, 0)) (by refine pk ?_; refine blk_far ?_ NB150_154.out _; refine pk ?_; exact BK150.out) hg (Kd.R_ne HO_155001.out BK150.out (by decide))); replace BK151 := a_ (blk_grown (g := gb151) (o := .cells #[.slice (some ad156) l1_0.length c1_0, .slice (some ad159) l1_1.length c1_1] 26 (0, 0)) (by refine pk ?_; refine blk_far ?_ NB151_154.out _; refine pk ?_; exact BK151.out) hg (Kd.R_ne HO_155001.out BK151.out (by decide))); replace BK152 := a_ (blk_grown (g := gb152) (o := .cells #[.slice none 0 0, .slice none 0 0] 26 (0, 0)) (by refine pk ?_; refine blk_far ?_ NB152_154.out _; refine pk ?_; exact BK152.out) hg (Kd.R_ne HO_155001.out BK152.out (by decide))); replace HO169 := a_ (Kd.R_after (ok := (fun _ => True)) (rk (Kd.R_mono (fr1 HO169.out BK154.out (by decide) 0 (.slice Ao90 y167.length co90)) (fun _ hk => ⟨trivial, hk.1⟩))) hg hat); replace BK154 := a_ (blk_grown (g := gb154) (o := .cells #[.slice Ao90 y167.length co90, u155001] 26 (0, 0)) (by refine pk ?_; refine blk_put (cs := #[u155000, u155001]) ?_ 0 _ rfl; refine pk ?_; exact BK154.out) hg (Kd.R_ne HO_155001.out BK154.out (by decide))); replace HB := a_ (hb); have HO172 := a_ (ho); clear HO_155001 ho hb hg hat; obtain ⟨Ao93, co93, eo93⟩ := Kd.R_slice HO172.out; subst eo93; have hcz94_0 : _ = some (Value.slice Ao90 y167.length co90) := (blk_cell BK154.out 0).trans rfl; have hcz94_1 : w92.cell? ⟨gb154, 1, none⟩ = some (u155001) := (blk_cell BK154.out 1).trans rfl; have hfz94_0 := blk_frozen BK154.out 0; have hfz94_1 := blk_frozen BK154.out 1))
                 go_roundg kj23
                 case measure => have := HK1.out; have := HJ23.out; omega
                 case rel => exact ⟨(wrap64 (x19_1 + 1)), (y167), (y170), (.slice Ao90 y167.length co90), (.slice Ao93 y170.length co93), (by first | rfl | (simp; done) | (simp [*]; done)), H', ⟨by have := HK1.out; have := HJ23.out; omega⟩, ⟨rk (Kd.R_mono (fr1 HO169.out BK154.out (by decide) 1 (.slice Ao93 y170.length co93)) (fun _ hk => hk.1.2))⟩, ⟨rk (Kd.R_mono (fr1 HO172.out BK154.out (by decide) 1 (.slice Ao93 y170.length co93)) (fun _ hk => hk.1))⟩, ⟨by refine pk ?_; refine blk_far ?_ NB150_154.out _; refine pk ?_; exact BK150.out⟩, ⟨by refine pk ?_; refine blk_far ?_ NB151_154.out _; refine pk ?_; exact BK151.out⟩, ⟨by refine pk ?_; refine blk_far ?_ NB152_154.out _; refine pk ?_; exact BK152.out⟩, ⟨by refine pk ?_; refine blk_put (cs := #[.slice Ao90 y167.length co90, u155001]) ?_ 1 _ rfl; refine pk ?_; exact BK154.out⟩, ⟨by repeat first | (with_reducible first | exact HB.out | refine bz ?_ (by assumption) | apply bA | apply bN | apply bD) | exact HB.out⟩⟩
                ·rw [if_neg c79] at H
                 exact absurd H (by simp)
               ·rw [if_neg c78] at H
                exact absurd H (by simp)
            ·rw [if_neg c39] at H
             exact absurd H (by simp)
           ·rw [if_neg c38] at H
            exact absurd H (by simp)
          ·rw [if_neg c37] at H
           exact absurd H (by simp)
       ·rw [if_neg c23] at H
        exact absurd H (by simp)
      ·rw [if_neg c22] at H
       exact absurd H (by simp)
     ·rw [if_neg c21] at H
      exact absurd H (by simp)
    ·rw [if_neg c20] at H
     have c20b0 : decide (x19_1 < (l0_0.length : Int)) = false := decide_eq_false c20
     clear c20
     simp only [Option.some.injEq, Prod.mk.injEq] at H
     obtain ⟨rfl, rfl, rfl⟩ := H
     have hnb95 := NB154_150.out
     have hnc95 := NB150_154.out
     have hnb96 := NB154_151.out
     have hnc96 := NB151_154.out
     have hnb97 := NB154_152.out
     have hnc97 := NB152_154.out
     have hcz98_0 : wr.cell? ⟨gb154, 0, none⟩ = some (u155000) := (blk_cell BK154.out 0).trans rfl
     have hcz98_1 : wr.cell? ⟨gb154, 1, none⟩ = some (u155001) := (blk_cell BK154.out 1).trans rfl
     have hfz98_0 := blk_frozen BK154.out 0
     have hfz98_1 := blk_frozen BK154.out 1
     obtain ⟨Ao99, co99, eo99⟩ := Kd.R_slice HO_155000.out
     subst eo99
     have hnb100 := NB152_150.out
     have hnc100 := NB150_152.out
     have hnb101 := NB152_151.out
     have hnc101 := NB151_152.out
     have hcz102_0 : wr.cell? ⟨gb152, 0, none⟩ = some (.slice none 0 0) := (blk_cell BK152.out 0).trans rfl
     have hcz102_1 : wr.cell? ⟨gb152, 1, none⟩ = some (.slice none 0 0) := (blk_cell BK152.out 1).trans rfl
     have hfz102_0 := blk_frozen BK152.out 0
     have hfz102_1 := blk_frozen BK152.out 1
     obtain ⟨Ao103, co103, eo103⟩ := Kd.R_slice HO_155001.out
     subst eo103
     go_wp2
     refine bodyPost_ret (results_ct rfl _ _ gb152 26 #[.slice Ao99 x155000_1.length co99, .slice Ao103 x155001_1.length co103] (0, 0) _ rfl (by refine pk ?_; refine blk_put (cs := #[.slice Ao99 x155000_1.length co99, .slice none 0 0]) ?_ 1 _ rfl; refine pk ?_; refine blk_put (cs := #[.slice none 0 0, .slice none 0 0]) ?_ 0 _ rfl; refine pk ?_; exact BK152.out) Try.underlying26 rfl (by kernel_rfl)) rfl ?_
     exact ⟨_, _, by first | rfl | (simp [errW_none, errW_some] <;> rfl) | (simp [*, errW_none, errW_some] <;> rfl), by refine rk ?_; exact Kd.R_mono (fr2 HO_155000.out BK152.out (by decide) 0 (.slice Ao99 x155000_1.length co99) 1 (.slice Ao103 x155001_1.length co103)) (fun _ hk => hk.1), by refine rk ?_; exact Kd.R_mono (fr2 HO_155001.out BK152.out (by decide) 0 (.slice Ao99 x155000_1.length co99) 1 (.slice Ao103 x155001_1.length co103)) (fun _ hk => hk.1), by repeat first | (with_reducible first | exact HB.out | refine bz ?_ (by assumption) | apply bA | apply bN | apply bD) | exact HB.out⟩
 ·replace c4 := Bool.eq_false_iff.mpr c4
  subst c4
  have H1 : (some (([] : List Nat), ([] : List Nat), false)) = some (r1, r2, r3) := by rw [if_neg (show ¬ (false = true) by decide)] at H; exact H
  clear H
  have H := H1
  clear H1
  simp only [Option.some.injEq, Prod.mk.injEq] at H
  obtain ⟨rfl, rfl, rfl⟩ := H
  go_enter Try.func13, Try.ntmps13
  go_wp2_with (first | ((with_reducible refine gate_dst (N := 2) rfl ?_); refine box_event ?hg (N := 2) ?hd (cs := #[.slice A0_0 l0_0.length c0_0, .slice A0_1 l0_1.length c0_1]) (t := 26) ?hr ?_; (case hd => rfl); (case hg => rfl); (case hr => first | (go_simp; done) | (go_simp; rfl)); intro gb150 hg w104 hbox hb; have BK150 := a_ (hbox); have GW150 := a_ (bsg hg HB.out); have GE150 := a_ (bsg hg HB.out); replace HB := a_ (below_step (un HB.out) hb); clear hb hbox hg) | ((with_reducible refine gate_dst (N := 3) rfl ?_); refine box_event ?hg (N := 3) ?hd (cs := #[.slice A1_0 l1_0.length c1_0, .slice A1_1 l1_1.length c1_1]) (t := 26) ?hr ?_; (case hd => rfl); (case hg => rfl); (case hr => first | (go_simp; done) | (go_simp; rfl)); intro gb151 hg w105 hbox hb; have BK151 := a_ (hbox); have GW151 := a_ (bsg hg HB.out); have GE151 := a_ (bsg hg HB.out); replace HB := a_ (below_step (by repeat first | (with_reducible first | exact HB.out | refine bz ?_ (by assumption) | apply bA | apply bN | apply bD) | exact HB.out) hb); have NB150_151 := a_ (nel hg BK150.out); have NB151_150 := a_ (nle hg BK150.out); replace BK150 := a_ (blk_below (pk BK150.out) hb); clear hb hbox hg) | ((with_reducible refine gate_dst (N := 4) rfl ?_); refine box_event ?hg (N := 4) ?hd (cs := #[.slice none 0 0, .slice none 0 0]) (t := 26) ?hr ?_; (case hd => rfl); (case hg => rfl); (case hr => first | (go_simp; done) | (go_simp; rfl)); intro gb152 hg w106 hbox hb; have BK152 := a_ (hbox); have GW152 := a_ (bsg hg HB.out); have GE152 := a_ (bsg hg HB.out); replace HB := a_ (below_step (by repeat first | (with_reducible first | exact HB.out | refine bz ?_ (by assumption) | apply bA | apply bN | apply bD) | exact HB.out) hb); have NB150_152 := a_ (nel hg BK150.out); have NB152_150 := a_ (nle hg BK150.out); replace BK150 := a_ (blk_below (pk BK150.out) hb); have NB151_152 := a_ (nel hg BK151.out); have NB152_151 := a_ (nle hg BK151.out); replace BK151 := a_ (blk_below (pk BK151.out) hb); clear hb hbox hg; have hnb107 := NB150_151.out; have hnc107 := NB151_150.out; have hnb108 := NB150_152.out; have hnc108 := NB152_150.out; have hcz109_0 : _ = some (Value.slice A0_0 l0_0.length c0_0) := (blk_cell BK150.out 0).trans rfl; have hcz109_1 : _ = some (Value.slice A0_1 l0_1.length c0_1) := (blk_cell BK150.out 1).trans rfl; have hfz109_0 := blk_frozen BK150.out 0; have hfz109_1 := blk_frozen BK150.out 1; have hnb110 := NB151_152.out; have hnc110 := NB152_151.out; have hcz111_0 : _ = some (Value.slice A1_0 l1_0.length c1_0) := (blk_cell BK151.out 0).trans rfl; have hcz111_1 : _ = some (Value.slice A1_1 l1_1.length c1_1) := (blk_cell BK151.out 1).trans rfl; have hfz111_0 := blk_frozen BK151.out 0; have hfz111_1 := blk_frozen BK151.out 1) | ((with_reducible refine gate_callee (f := 19) rfl ?_); refine goesL_ (some 12) rfl rfl Try.func19 (by kernel_rfl) rfl #[.agg #[.slice A0_0 l0_0.length c0_0, .slice A0_1 l0_1.length c0_1], .agg #[.slice A1_0 l1_0.length c1_0, .slice A1_1 l1_1.length c1_1]] rfl (by (try simp only [lA, lB, lC]); first | done | rfl | (simp only [lD, lE]; rfl)) ?_; (with_reducible refine (spec_l17Pair.calls k _ _ l0_0 _ _ l0_1 _ _ l1_0 _ _ l1_1 false _ ?side1 ?side2 ?side3 ?side4 ?side5 ?side6 ?side7 ?side8 A3.out).mono ?_); (case side1 => exact Kd.C_below HR0_0.out (un HB.out)); (case side2 => exact HC0_0.out); (case side3 => exact Kd.C_below HR0_1.out (un HB.out)); (case side4 => exact HC0_1.out); (case side5 => exact Kd.C_below HR1_0.out (un HB.out)); (case side6 => exact HC1_0.out); (case side7 => exact Kd.C_below HR1_1.out (un HB.out)); (case side8 => exact HC1_1.out); rintro e w112 ⟨rfl, hb⟩; refine ⟨_, rfl, ?_⟩; replace BK150 := a_ (blk_below (pk BK150.out) hb); replace BK151 := a_ (blk_below (pk BK151.out) hb); replace BK152 := a_ (blk_below (pk BK152.out) hb); replace HB := a_ (below_step (by repeat first | (with_reducible first | exact HB.out | refine bz ?_ (by assumption) | apply bA | apply bN | apply bD) | exact HB.out) hb); clear hb; have hcz113_0 : _ = some (Value.slice none 0 0) := (blk_cell BK152.out 0).trans rfl; have hcz113_1 : _ = some (Value.slice none 0 0) := (blk_cell BK152.out 1).trans rfl; have hfz113_0 := blk_frozen BK152.out 0; have hfz113_1 := blk_frozen BK152.out 1))
  refine bodyPost_ret (results_ct rfl _ _ gb152 26 #[.slice none 0 0, .slice none 0 0] (0, 0) _ rfl (by refine pk ?_; refine blk_put (cs := #[.slice none 0 0, .slice none 0 0]) ?_ 1 _ rfl; refine pk ?_; refine blk_put (cs := #[.slice none 0 0, .slice none 0 0]) ?_ 0 _ rfl; refine pk ?_; exact BK152.out) Try.underlying26 rfl (by kernel_rfl)) rfl ?_
  exact ⟨_, _, by first | rfl | (simp [errW_none, errW_some] <;> rfl) | (simp [*, errW_none, errW_some] <;> rfl), by first | exact Kd.R_nil _ _ _ _ _ | exact Kd.N_nil _ _ _ _ _ | exact Kd.V_nil _ _ _ _ _ | exact Kd.Q_nil _ _ _ _ _ | exact Kd.S_nil _ _ _ _ _, by first | exact Kd.R_nil _ _ _ _ _ | exact Kd.N_nil _ _ _ _ _ | exact Kd.V_nil _ _ _ _ _ | exact Kd.Q_nil _ _ _ _ _ | exact Kd.S_nil _ _ _ _ _, by repeat first | (with_reducible first | exact HB.out | refine bz ?_ (by assumption) | apply bA | apply bN | apply bD) | exact HB.out⟩

/-! ### impl_finite: function 43 -/
def impl_finite.f (a0 : Nat) : Option (Bool) := (math_IsNaN.f a0).bind fun t173 => (if t173 = true then (some false) else ((math_IsInf.f a0 0).bind fun t174 => (some (!t174))))
set_option maxHeartbeats 8000000 in
set_option maxRecDepth 100000 in
theorem impl_finite.calls (a0 : Nat) (r : Bool) (w : World) (h : impl_finite.f a0 = some r) :
  Calls Try.prog 43 #[.float .f64 a0] w fun e w' => e = .returned (.bool r) ∧ Drawn0 w w' := by
 have H : ((math_IsNaN.f a0).bind fun t173 => (if t173 = true then (some false) else ((math_IsInf.f a0 0).bind fun t174 => (some (!t174))))) = some r := h
 clear h
 replace H := Option.bind_eq_some_iff.mp H
 obtain ⟨t173, A20, H⟩ := H
 have A2 := Aside0.mk A20
 clear A20
 by_cases c3 : t173 = true
 ·subst c3
  have H1 : (some false) = some r := by rw [if_pos rfl] at H; exact H
  clear H
  have H := H1
  clear H1
  obtain rfl := Option.some.inj H
  go_enter Try.func43, Try.ntmps43
  go_wp2_with (first | ((with_reducible refine gate_callee (f := 40) rfl ?_); refine goesL_ (some 4) rfl rfl Try.func40 (by kernel_rfl) rfl #[.float .f64 a0] rfl (by (try simp only [lA, lB, lC]); first | done | rfl | (simp only [lD, lE]; rfl)) ?_; (with_reducible refine (math_IsNaN.calls a0 true _ A2.out).mono ?_); rintro e w' ⟨rfl, ⟨nd, rfl⟩⟩; refine ⟨_, rfl, ?_⟩))
  go_ret
  exact ⟨by first | rfl | (simp; done) | (simp [*]; done), by repeat (first | exact Drawn0.refl _ | apply Drawn0.step)⟩
 ·replace c3 := Bool.eq_false_iff.mpr c3
  subst c3
  have H1 : ((math_IsInf.f a0 0).bind fun t174 => (some (!t174))) = some r := by rw [if_neg (show ¬ (false = true) by decide)] at H; exact H
  clear H
  have H := H1
  clear H1
  replace H := Option.bind_eq_some_iff.mp H
  obtain ⟨t174, A40, H⟩ := H
  have A4 := Aside0.mk A40
  clear A40
  obtain rfl := Option.some.inj H
  go_enter Try.func43, Try.ntmps43
  go_wp2_with (first | ((with_reducible refine gate_callee (f := 40) rfl ?_); refine goesL_ (some 4) rfl rfl Try.func40 (by kernel_rfl) rfl #[.float .f64 a0] rfl (by (try simp only [lA, lB, lC]); first | done | rfl | (simp only [lD, lE]; rfl)) ?_; (with_reducible refine (math_IsNaN.calls a0 false _ A2.out).mono ?_); rintro e w' ⟨rfl, ⟨nd, rfl⟩⟩; refine ⟨_, rfl, ?_⟩) | (go_at_call 41; (with_reducible refine (math_IsInf.calls a0 0 t174 _ A4.out).mono ?_); rintro e w' ⟨rfl, ⟨nd, rfl⟩⟩))
  go_ret
  exact ⟨by first | rfl | (simp; done) | (simp [*]; done), by repeat (first | exact Drawn0.refl _ | apply Drawn0.step)⟩

/-! ### impl_GoodReal: function 34 -/
def impl_GoodReal.f (a0 : Nat) : Option (Bool) := (impl_finite.f a0).bind fun t175 => (if t175 = true then (if (FloatKind.f64.format.order a0 (0 : Nat) == some Ordering.eq) = true then ((math_Signbit.f a0).bind fun t176 => (some (!t176))) else (some (!false))) else (some false))
set_option maxHeartbeats 8000000 in
set_option maxRecDepth 100000 in
theorem impl_GoodReal.calls (a0 : Nat) (r : Bool) (w : World) (h : impl_GoodReal.f a0 = some r) :
  Calls Try.prog 34 #[.float .f64 a0] w fun e w' => e = .returned (.bool r) ∧ Drawn0 w w' := by
 have H : ((impl_finite.f a0).bind fun t175 => (if t175 = true then (if (FloatKind.f64.format.order a0 (0 : Nat) == some Ordering.eq) = true then ((math_Signbit.f a0).bind fun t176 => (some (!t176))) else (some (!false))) else (some false))) = some r := h
 clear h
 replace H := Option.bind_eq_some_iff.mp H
 obtain ⟨t175, A20, H⟩ := H
 have A2 := Aside0.mk A20
 clear A20
 by_cases c3 : t175 = true
 ·subst c3
  have H1 : (if (FloatKind.f64.format.order a0 (0 : Nat) == some Ordering.eq) = true then ((math_Signbit.f a0).bind fun t176 => (some (!t176))) else (some (!false))) = some r := by rw [if_pos rfl] at H; exact H
  clear H
  have H := H1
  clear H1
  by_cases c4 : (FloatKind.f64.format.order a0 (0 : Nat) == some Ordering.eq) = true
  ·rw [if_pos c4] at H
   have c4b0 : (FloatKind.f64.format.order a0 (0 : Nat) == some Ordering.eq) = true := c4
   (try (have c4b1 : decide (FloatKind.f64.format.order a0 (0 : Nat) = some Ordering.eq) = true := by simpa using c4))
   (try (have c4b2 : (FloatKind.f64.format.order a0 (0 : Nat) == some Ordering.eq) = true := by simpa using c4))
   clear c4
   replace H := Option.bind_eq_some_iff.mp H
   obtain ⟨t176, A50, H⟩ := H
   have A5 := Aside0.mk A50
   clear A50
   obtain rfl := Option.some.inj H
   go_enter Try.func34, Try.ntmps34
   go_wp2_with (first | ((with_reducible refine gate_callee (f := 43) rfl ?_); refine goesL_ (some 4) rfl rfl Try.func43 (by kernel_rfl) rfl #[.float .f64 a0] rfl (by (try simp only [lA, lB, lC]); first | done | rfl | (simp only [lD, lE]; rfl)) ?_; (with_reducible refine (impl_finite.calls a0 true _ A2.out).mono ?_); rintro e w' ⟨rfl, ⟨nd, rfl⟩⟩; refine ⟨_, rfl, ?_⟩) | (go_at_call 42; (with_reducible refine (math_Signbit.calls a0 t176 _ A5.out).mono ?_); rintro e w' ⟨rfl, ⟨nd, rfl⟩⟩))
   go_ret
   exact ⟨by first | rfl | (simp; done) | (simp [*]; done), by repeat (first | exact Drawn0.refl _ | apply Drawn0.step)⟩
  ·rw [if_neg c4] at H
   have c4b0 : (FloatKind.f64.format.order a0 (0 : Nat) == some Ordering.eq) = false := by simpa using c4
   (try (have c4b1 : decide (FloatKind.f64.format.order a0 (0 : Nat) = some Ordering.eq) = false := by simpa using c4))
   (try (have c4b2 : (FloatKind.f64.format.order a0 (0 : Nat) == some Ordering.eq) = false := by simpa using c4))
   (try (have c4b3 : ¬ (FloatKind.f64.format.order a0 (0 : Nat) = some Ordering.eq) := by simpa using c4))
   clear c4
   obtain rfl := Option.some.inj H
   go_enter Try.func34, Try.ntmps34
   go_wp2_with (first | ((with_reducible refine gate_callee (f := 43) rfl ?_); refine goesL_ (some 4) rfl rfl Try.func43 (by kernel_rfl) rfl #[.float .f64 a0] rfl (by (try simp only [lA, lB, lC]); first | done | rfl | (simp only [lD, lE]; rfl)) ?_; (with_reducible refine (impl_finite.calls a0 true _ A2.out).mono ?_); rintro e w' ⟨rfl, ⟨nd, rfl⟩⟩; refine ⟨_, rfl, ?_⟩))
   go_ret
   exact ⟨by first | rfl | (simp; done) | (simp [*]; done), by repeat (first | exact Drawn0.refl _ | apply Drawn0.step)⟩
 ·replace c3 := Bool.eq_false_iff.mpr c3
  subst c3
  have H1 : (some false) = some r := by rw [if_neg (show ¬ (false = true) by decide)] at H; exact H
  clear H
  have H := H1
  clear H1
  obtain rfl := Option.some.inj H
  go_enter Try.func34, Try.ntmps34
  go_wp2_with (first | ((with_reducible refine gate_callee (f := 43) rfl ?_); refine goesL_ (some 4) rfl rfl Try.func43 (by kernel_rfl) rfl #[.float .f64 a0] rfl (by (try simp only [lA, lB, lC]); first | done | rfl | (simp only [lD, lE]; rfl)) ?_; (with_reducible refine (impl_finite.calls a0 false _ A2.out).mono ?_); rintro e w' ⟨rfl, ⟨nd, rfl⟩⟩; refine ⟨_, rfl, ?_⟩))
  go_ret
  exact ⟨by first | rfl | (simp; done) | (simp [*]; done), by repeat (first | exact Drawn0.refl _ | apply Drawn0.step)⟩

/-! ### impl_goodReals: function 29 -/
def impl_goodReals.l0 : Nat → List Nat → List Nat → Int → Int → Option (Bool)
 | 0, _, _, _, _ => none
 | k + 1, x0, x5, x6, x7 => if x7 < x6 then (if 0 ≤ x7 then (if x7 < (x5.length : Int) then ((impl_GoodReal.f (rdOf (0 : Nat) x5 x7)).bind fun t178 => (if t178 = true then (impl_goodReals.l0 k x0 x5 x6 (wrap64 (x7 + 1))) else (some false))) else (none)) else (none)) else (some (decide ((x0.length : Int) ≤ 200)))
def impl_goodReals.f (k : Nat) (l0 : List Nat) : Option (Bool) := impl_goodReals.l0 k l0 l0 (l0.length : Int) 0
theorem impl_goodReals.mono_l : ∀ k, (∀ y0 y1 y2 y3, LeO (impl_goodReals.l0 k y0 y1 y2 y3) (impl_goodReals.l0 (k + 1) y0 y1 y2 y3))
 | 0 => fun _ _ _ _ r h => by simp [impl_goodReals.l0] at h
 | k + 1 => by
  have ih0 := impl_goodReals.mono_l k
  ·intro y0 y1 y2 y3
   unfold impl_goodReals.l0
   repeat' first
   | (with_reducible exact ih0 _ _ _ _)
   | (with_reducible exact LeO.refl _)
   | (with_reducible exact LeO.none _)
   | (with_reducible refine LeO.ite ?_ ?_)
   | (with_reducible refine LeO.bind ?_ (fun _ => ?_))
   | exact ih0 _ _ _ _
   | exact LeO.none _
   | refine LeO.ite ?_ ?_
   | refine LeO.bind ?_ (fun _ => ?_)
theorem impl_goodReals.mono : ∀ a0 k, LeO (impl_goodReals.f k a0) (impl_goodReals.f (k + 1) a0) := by
 intro a0 k
 have ih0 := impl_goodReals.mono_l k
 unfold impl_goodReals.f
 repeat' first
   | (with_reducible exact ih0 _ _ _ _)
   | (with_reducible exact LeO.refl _)
   | (with_reducible exact LeO.none _)
   | (with_reducible refine LeO.ite ?_ ?_)
   | (with_reducible refine LeO.bind ?_ (fun _ => ?_))
   | exact ih0 _ _ _ _
   | exact LeO.none _
   | refine LeO.ite ?_ ?_
   | refine LeO.bind ?_ (fun _ => ?_)
set_option maxHeartbeats 8000000 in
set_option maxRecDepth 100000 in
theorem impl_goodReals.calls (k : Nat) (A0 : Option Addr) (c0 : Nat) (l0 : List Nat) (r : Bool) (w : World) (hr0 : Kd.C Kd.flt w A0 l0.length l0) (hc0 : l0.length ≤ c0) (h : impl_goodReals.f k l0 = some r) :
  Calls Try.prog 29 #[.slice A0 l0.length c0] w fun e w' => e = .returned (.bool r) ∧ Drawn0 w w' := by
 have HR0 := Aside0.mk hr0
 have HC0 := Aside0.mk hc0
 clear hr0 hc0
 have H : (impl_goodReals.l0 k l0 l0 (l0.length : Int) 0) = some r := h
 clear h
 have H' := Aside0.mk H
 clear H
 go_enter Try.func29, Try.ntmps29
 go_wp2
 go_loopg [7] k (fun kq v7 w' => ∃ (x7_1 : Int), v7 = .int .i64 x7_1 ∧ Aside0 (impl_goodReals.l0 kq l0 l0 (l0.length : Int) x7_1 = some r) ∧ Aside0 (kq ≤ k) ∧ Drawn0 w w')
 case atStart => exact ⟨(0), (by first | rfl | (simp; done) | (simp [*]; done)), H', ⟨Nat.le_refl _⟩, by repeat (first | exact Drawn0.refl _ | apply Drawn0.step)⟩
 case round =>
  clear H'
  obtain ⟨x7_1, rfl, HA, HK1, ⟨m1, rfl⟩⟩ := hrel
  cases gk with
  | zero => exact absurd HA.out (by simp [impl_goodReals.l0])
  | succ k1 =>
   have H := HA.out
   clear HA
   simp only [impl_goodReals.l0] at H
   by_cases c2 : x7_1 < (l0.length : Int)
   ·rw [if_pos c2] at H
    have c2b0 : decide (x7_1 < (l0.length : Int)) = true := decide_eq_true c2
    clear c2
    by_cases c3 : 0 ≤ x7_1
    ·rw [if_pos c3] at H
     have c3b0 : decide (0 ≤ x7_1) = true := decide_eq_true c3
     clear c3
     by_cases c4 : x7_1 < (l0.length : Int)
     ·rw [if_pos c4] at H
      have c4b0 : decide (x7_1 < (l0.length : Int)) = true := decide_eq_true c4
      clear c4
      replace H := Option.bind_eq_some_iff.mp H
      obtain ⟨t178, A50, H⟩ := H
      have A5 := Aside0.mk A50
      clear A50
      by_cases c6 : t178 = true
      ·subst c6
       have H1 : (impl_goodReals.l0 k1 l0 l0 (l0.length : Int) (wrap64 (x7_1 + 1))) = some r := by rw [if_pos rfl] at H; exact H
       clear H
       have H := H1
       clear H1
       have H' := Aside0.mk H
       clear H
       have p177 : 0 ≤ (x7_1 : Int) := of_decide_eq_true (by first | (with_reducible assumption) | assumption)
       have q177 : x7_1 < (l0.length : Int) := of_decide_eq_true (by first | (with_reducible assumption) | assumption)
       obtain ⟨ad177, e177, hx177_0⟩ := Kd.at_flt HR0.out x7_1 p177 q177
       cases e177
       replace p177 := eq_true p177
       replace q177 := eq_true q177
       go_wp2_with (first | ((with_reducible refine gate_callee (f := 34) rfl ?_); refine goesL_ (some 12) rfl rfl Try.func34 (by kernel_rfl) rfl #[.float .f64 (rdOf (0 : Nat) l0 x7_1)] rfl (by (try simp only [lA, lB, lC]); first | done | rfl | (simp only [lD, lE]; rfl)) ?_; (with_reducible refine (impl_GoodReal.calls (rdOf (0 : Nat) l0 x7_1) true _ A5.out).mono ?_); rintro e w' ⟨rfl, ⟨nd, rfl⟩⟩; refine ⟨_, rfl, ?_⟩))
       go_roundg k1
       case measure => have := HK1.out; omega
       case rel => exact ⟨(wrap64 (x7_1 + 1)), (by first | rfl | (simp; done) | (simp [*]; done)), H', ⟨by have := HK1.out; omega⟩, by repeat (first | exact Drawn0.refl _ | apply Drawn0.step)⟩
      ·replace c6 := Bool.eq_false_iff.mpr c6
       subst c6
       have H1 : (some false) = some r := by rw [if_neg (show ¬ (false = true) by decide)] at H; exact H
       clear H
       have H := H1
       clear H1
       obtain rfl := Option.some.inj H
       have p177 : 0 ≤ (x7_1 : Int) := of_decide_eq_true (by first | (with_reducible assumption) | assumption)
       have q177 : x7_1 < (l0.length : Int) := of_decide_eq_true (by first | (with_reducible assumption) | assumption)
       obtain ⟨ad177, e177, hx177_0⟩ := Kd.at_flt HR0.out x7_1 p177 q177
       cases e177
       replace p177 := eq_true p177
       replace q177 := eq_true q177
       go_wp2_with (first | ((with_reducible refine gate_callee (f := 34) rfl ?_); refine goesL_ (some 12) rfl rfl Try.func34 (by kernel_rfl) rfl #[.float .f64 (rdOf (0 : Nat) l0 x7_1)] rfl (by (try simp only [lA, lB, lC]); first | done | rfl | (simp only [lD, lE]; rfl)) ?_; (with_reducible refine (impl_GoodReal.calls (rdOf (0 : Nat) l0 x7_1) false _ A5.out).mono ?_); rintro e w' ⟨rfl, ⟨nd, rfl⟩⟩; refine ⟨_, rfl, ?_⟩))
       go_ret
       exact ⟨by first | rfl | (simp; done) | (simp [*]; done), by repeat (first | exact Drawn0.refl _ | apply Drawn0.step)⟩
     ·rw [if_neg c4] at H
      exact absurd H (by simp)
    ·rw [if_neg c3] at H
     exact absurd H (by simp)
   ·rw [if_neg c2] at H
    have c2b0 : decide (x7_1 < (l0.length : Int)) = false := decide_eq_false c2
    clear c2
    obtain rfl := Option.some.inj H
    go_wp2
    go_ret
    exact ⟨by first | rfl | (simp; done) | (simp [*]; done), by repeat (first | exact Drawn0.refl _ | apply Drawn0.step)⟩

end Go.Proofs.Ytacdmlnhpjnonaa.PFnExactBoxMeet
