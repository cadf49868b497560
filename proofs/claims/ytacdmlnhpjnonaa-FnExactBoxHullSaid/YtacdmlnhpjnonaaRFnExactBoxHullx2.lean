-- Written by a program of this session out of the loaded functions' print; helper lemmas as print.sh lays them.
import Derived.Test.YtacdmlnhpjnonaaUp2
import Derived.Test.YtacdmlnhpjnonaaUp
import Derived.Test.YtacdmlnhpjnonaaRFnExactBoxHullx0
import Derived.Test.YtacdmlnhpjnonaaRFnExactBoxHullx1
namespace Go.Proofs.Ytacdmlnhpjnonaa.PFnExactBoxHull
open Go.RowKit Go.Proofs.YtacdmlnhpjnonaaW.PrintWords Go.Proofs.YtacdmlnhpjnonaaW.PrintLast Go.Proofs.YtacdmlnhpjnonaaW.PrintMore
attribute [local go_sem] max2_int min2_int max_two min_two max_three min_three max_four min_four go_fstore go_fneg go_fadd go_fsub go_fmul go_fquo go_fmax go_fmin go_fconv go_bits go_frombits  -- for this text's walks alone
set_option linter.unusedVariables false
set_option linter.unusedSimpArgs false

/-! ### spec_BoxHull: function 7 -/
def spec_BoxHull.l0 : Nat → Int → Int → List Nat → List Nat → List Nat → List Nat → List Nat → List Nat → Option (List Nat × List Nat × Bool)
 | 0, _, _, _, _, _, _, _, _ => none
 | k + 1, x18, x19, x120000, x120001, x121000, x121001, x124000, x124001 => if x19 < x18 then (if 0 ≤ x19 then (if x19 < (x120000.length : Int) then (if x19 < (x121000.length : Int) then (if (FloatKind.f64.format.order (rdOf (0 : Nat) x121000 x19) (rdOf (0 : Nat) x120000 x19) == some Ordering.lt) = true then (if x19 < (x120001.length : Int) then (if x19 < (x121001.length : Int) then (if (FloatKind.f64.format.order (rdOf (0 : Nat) x121001 x19) (rdOf (0 : Nat) x120001 x19) == some Ordering.gt) = true then (if x124000.length < 17592186044416 then (if x124001.length < 17592186044416 then (spec_BoxHull.l0 k x18 (wrap64 (x19 + 1)) x120000 x120001 x121000 x121001 (x124000 ++ [rdOf (0 : Nat) x121000 x19]) (x124001 ++ [rdOf (0 : Nat) x121001 x19])) else (none)) else (none)) else (if x124000.length < 17592186044416 then (if x124001.length < 17592186044416 then (spec_BoxHull.l0 k x18 (wrap64 (x19 + 1)) x120000 x120001 x121000 x121001 (x124000 ++ [rdOf (0 : Nat) x121000 x19]) (x124001 ++ [rdOf (0 : Nat) x120001 x19])) else (none)) else (none))) else (none)) else (none)) else (if x19 < (x120001.length : Int) then (if x19 < (x121001.length : Int) then (if (FloatKind.f64.format.order (rdOf (0 : Nat) x121001 x19) (rdOf (0 : Nat) x120001 x19) == some Ordering.gt) = true then (if x124000.length < 17592186044416 then (if x124001.length < 17592186044416 then (spec_BoxHull.l0 k x18 (wrap64 (x19 + 1)) x120000 x120001 x121000 x121001 (x124000 ++ [rdOf (0 : Nat) x120000 x19]) (x124001 ++ [rdOf (0 : Nat) x121001 x19])) else (none)) else (none)) else (if x124000.length < 17592186044416 then (if x124001.length < 17592186044416 then (spec_BoxHull.l0 k x18 (wrap64 (x19 + 1)) x120000 x120001 x121000 x121001 (x124000 ++ [rdOf (0 : Nat) x120000 x19]) (x124001 ++ [rdOf (0 : Nat) x120001 x19])) else (none)) else (none))) else (none)) else (none))) else (none)) else (none)) else (none)) else (some (x124000, x124001, true))
def spec_BoxHull.f (k : Nat) (l0_0 : List Nat) (l0_1 : List Nat) (l1_0 : List Nat) (l1_1 : List Nat) : Option (List Nat × List Nat × Bool) := (spec_l17Pair.f k l0_0 l0_1 l1_0 l1_1).bind fun t122 => (if t122 = true then (spec_BoxHull.l0 k (l0_0.length : Int) 0 l0_0 l0_1 l1_0 l1_1 ([] : List Nat) ([] : List Nat)) else (some (([] : List Nat), ([] : List Nat), false)))
theorem spec_BoxHull.mono_l : ∀ k, (∀ y0 y1 y2 y3 y4 y5 y6 y7, LeO (spec_BoxHull.l0 k y0 y1 y2 y3 y4 y5 y6 y7) (spec_BoxHull.l0 (k + 1) y0 y1 y2 y3 y4 y5 y6 y7))
 | 0 => fun _ _ _ _ _ _ _ _ r h => by simp [spec_BoxHull.l0] at h
 | k + 1 => by
  have ih0 := spec_BoxHull.mono_l k
  ·intro y0 y1 y2 y3 y4 y5 y6 y7
   unfold spec_BoxHull.l0
   repeat' first
   | (with_reducible exact ih0 _ _ _ _ _ _ _ _)
   | (with_reducible exact spec_l17Pair.mono _ _ _ _ _)
   | (with_reducible exact LeO.refl _)
   | (with_reducible exact LeO.none _)
   | (with_reducible refine LeO.ite ?_ ?_)
   | (with_reducible refine LeO.bind ?_ (fun _ => ?_))
   | exact ih0 _ _ _ _ _ _ _ _
   | exact spec_l17Pair.mono _ _ _ _ _
   | exact LeO.none _
   | refine LeO.ite ?_ ?_
   | refine LeO.bind ?_ (fun _ => ?_)
theorem spec_BoxHull.mono : ∀ a0 a1 a2 a3 k, LeO (spec_BoxHull.f k a0 a1 a2 a3) (spec_BoxHull.f (k + 1) a0 a1 a2 a3) := by
 intro a0 a1 a2 a3 k
 have ih0 := spec_BoxHull.mono_l k
 unfold spec_BoxHull.f
 repeat' first
   | (with_reducible exact ih0 _ _ _ _ _ _ _ _)
   | (with_reducible exact spec_l17Pair.mono _ _ _ _ _)
   | (with_reducible exact LeO.refl _)
   | (with_reducible exact LeO.none _)
   | (with_reducible refine LeO.ite ?_ ?_)
   | (with_reducible refine LeO.bind ?_ (fun _ => ?_))
   | exact ih0 _ _ _ _ _ _ _ _
   | exact spec_l17Pair.mono _ _ _ _ _
   | exact LeO.none _
   | refine LeO.ite ?_ ?_
   | refine LeO.bind ?_ (fun _ => ?_)
set_option maxHeartbeats 8000000 in
set_option maxRecDepth 100000 in
theorem spec_BoxHull.calls (k : Nat) (A0_0 : Option Addr) (c0_0 : Nat) (l0_0 : List Nat) (A0_1 : Option Addr) (c0_1 : Nat) (l0_1 : List Nat) (A1_0 : Option Addr) (c1_0 : Nat) (l1_0 : List Nat) (A1_1 : Option Addr) (c1_1 : Nat) (l1_1 : List Nat) (r1 : List Nat) (r2 : List Nat) (r3 : Bool) (w : World) (hr0_0 : Kd.C Kd.flt w A0_0 l0_0.length l0_0) (hc0_0 : l0_0.length ≤ c0_0) (hr0_1 : Kd.C Kd.flt w A0_1 l0_1.length l0_1) (hc0_1 : l0_1.length ≤ c0_1) (hr1_0 : Kd.C Kd.flt w A1_0 l1_0.length l1_0) (hc1_0 : l1_0.length ≤ c1_0) (hr1_1 : Kd.C Kd.flt w A1_1 l1_1.length l1_1) (hc1_1 : l1_1.length ≤ c1_1) (h : spec_BoxHull.f k l0_0 l0_1 l1_0 l1_1 = some (r1, r2, r3)) :
  Calls Try.prog 7 #[.agg #[.slice A0_0 l0_0.length c0_0, .slice A0_1 l0_1.length c0_1], .agg #[.slice A1_0 l1_0.length c1_0, .slice A1_1 l1_1.length c1_1]] w fun e w' => ∃ v0_ v1_ : Value, e = .returned (.tuple #[.agg #[v0_, v1_], .bool r3]) ∧ Kd.R Kd.flt 39 w' w.heap.size (fun k_ => N_ v1_ k_) v0_ r1 ∧ Kd.R Kd.flt 39 w' w.heap.size (fun k_ => N_ v0_ k_) v1_ r2 ∧ Below w.heap.size w w' := by
 have hu26 := Try.underlying26
 have HR0_0 := Aside0.mk hr0_0
 have HC0_0 := Aside0.mk hc0_0
 clear hr0_0 hc0_0
 have HR0_1 := Aside0.mk hr0_1
 have HC0_1 := Aside0.mk hc0_1
 clear hr0_1 hc0_1
 have HR1_0 := Aside0.mk hr1_0
 have HC1_0 := Aside0.mk hc1_0
 clear hr1_0 hc1_0
 have HR1_1 := Aside0.mk hr1_1
 have HC1_1 := Aside0.mk hc1_1
 clear hr1_1 hc1_1
 have HB := a_ (Below.refl w.heap.size w)
 have H : ((spec_l17Pair.f k l0_0 l0_1 l1_0 l1_1).bind fun t122 => (if t122 = true then (spec_BoxHull.l0 k (l0_0.length : Int) 0 l0_0 l0_1 l1_0 l1_1 ([] : List Nat) ([] : List Nat)) else (some (([] : List Nat), ([] : List Nat), false)))) = some (r1, r2, r3) := h
 clear h
 replace H := Option.bind_eq_some_iff.mp H
 obtain ⟨t122, A30, H⟩ := H
 replace H : (if t122 = true then (spec_BoxHull.l0 k (l0_0.length : Int) 0 l0_0 l0_1 l1_0 l1_1 ([] : List Nat) ([] : List Nat)) else (some (([] : List Nat), ([] : List Nat), false))) = some (r1, r2, r3) := H
 have A3 := Aside0.mk A30
 clear A30
 by_cases c4 : t122 = true
 ·subst c4
  have H1 : (spec_BoxHull.l0 k (l0_0.length : Int) 0 l0_0 l0_1 l1_0 l1_1 ([] : List Nat) ([] : List Nat)) = some (r1, r2, r3) := by rw [if_pos rfl] at H; exact H
  clear H
  have H := H1
  clear H1
  have H' := Aside0.mk H
  clear H
  go_enter Try.func7, Try.ntmps7
  go_wp2_with (first | ((with_reducible refine gate_dst (N := 2) rfl ?_); refine box_event ?hg (N := 2) ?hd (cs := #[.slice A0_0 l0_0.length c0_0, .slice A0_1 l0_1.length c0_1]) (t := 26) ?hr ?_; (case hd => rfl); (case hg => rfl); (case hr => first | (go_simp; done) | (go_simp; rfl)); intro gb119 hg w5 hbox hb; have BK119 := a_ (hbox); have GW119 := a_ (bsg hg HB.out); have GE119 := a_ (bsg hg HB.out); replace HB := a_ (below_step (un HB.out) hb); clear hb hbox hg) | ((with_reducible refine gate_dst (N := 3) rfl ?_); refine box_event ?hg (N := 3) ?hd (cs := #[.slice A1_0 l1_0.length c1_0, .slice A1_1 l1_1.length c1_1]) (t := 26) ?hr ?_; (case hd => rfl); (case hg => rfl); (case hr => first | (go_simp; done) | (go_simp; rfl)); intro gb120 hg w6 hbox hb; have BK120 := a_ (hbox); have GW120 := a_ (bsg hg HB.out); have GE120 := a_ (bsg hg HB.out); replace HB := a_ (below_step (by repeat first | (with_reducible first | exact HB.out | refine bz ?_ (by assumption) | apply bA | apply bN | apply bD) | exact HB.out) hb); have NB119_120 := a_ (nel hg BK119.out); have NB120_119 := a_ (nle hg BK119.out); replace BK119 := a_ (blk_below (pk BK119.out) hb); clear hb hbox hg) | ((with_reducible refine gate_dst (N := 4) rfl ?_); refine box_event ?hg (N := 4) ?hd (cs := #[.slice none 0 0, .slice none 0 0]) (t := 26) ?hr ?_; (case hd => rfl); (case hg => rfl); (case hr => first | (go_simp; done) | (go_simp; rfl)); intro gb121 hg w7 hbox hb; have BK121 := a_ (hbox); have GW121 := a_ (bsg hg HB.out); have GE121 := a_ (bsg hg HB.out); replace HB := a_ (below_step (by repeat first | (with_reducible first | exact HB.out | refine bz ?_ (by assumption) | apply bA | apply bN | apply bD) | exact HB.out) hb); have NB119_121 := a_ (nel hg BK119.out); have NB121_119 := a_ (nle hg BK119.out); replace BK119 := a_ (blk_below (pk BK119.out) hb); have NB120_121 := a_ (nel hg BK120.out); have NB121_120 := a_ (nle hg BK120.out); replace BK120 := a_ (blk_below (pk BK120.out) hb); clear hb hbox hg; have hnb8 := NB119_120.out; have hnc8 := NB120_119.out; have hnb9 := NB119_121.out; have hnc9 := NB121_119.out; have hcz10_0 : _ = some (Value.slice A0_0 l0_0.length c0_0) := (blk_cell BK119.out 0).trans rfl; have hcz10_1 : _ = some (Value.slice A0_1 l0_1.length c0_1) := (blk_cell BK119.out 1).trans rfl; have hfz10_0 := blk_frozen BK119.out 0; have hfz10_1 := blk_frozen BK119.out 1; have hnb11 := NB120_121.out; have hnc11 := NB121_120.out; have hcz12_0 : _ = some (Value.slice A1_0 l1_0.length c1_0) := (blk_cell BK120.out 0).trans rfl; have hcz12_1 : _ = some (Value.slice A1_1 l1_1.length c1_1) := (blk_cell BK120.out 1).trans rfl; have hfz12_0 := blk_frozen BK120.out 0; have hfz12_1 := blk_frozen BK120.out 1) | ((with_reducible refine gate_callee (f := 19) rfl ?_); refine goesL_ (some 12) rfl rfl Try.func19 (by kernel_rfl) rfl #[.agg #[.slice A0_0 l0_0.length c0_0, .slice A0_1 l0_1.length c0_1], .agg #[.slice A1_0 l1_0.length c1_0, .slice A1_1 l1_1.length c1_1]] rfl (by (try simp only [lA, lB, lC]); first | done | rfl | (simp only [lD, lE]; rfl)) ?_; (with_reducible refine (spec_l17Pair.calls k _ _ l0_0 _ _ l0_1 _ _ l1_0 _ _ l1_1 true _ ?side1 ?side2 ?side3 ?side4 ?side5 ?side6 ?side7 ?side8 A3.out).mono ?_); (case side1 => exact Kd.C_below HR0_0.out (un HB.out)); (case side2 => exact HC0_0.out); (case side3 => exact Kd.C_below HR0_1.out (un HB.out)); (case side4 => exact HC0_1.out); (case side5 => exact Kd.C_below HR1_0.out (un HB.out)); (case side6 => exact HC1_0.out); (case side7 => exact Kd.C_below HR1_1.out (un HB.out)); (case side8 => exact HC1_1.out); rintro e w13 ⟨rfl, hb⟩; refine ⟨_, rfl, ?_⟩; replace BK119 := a_ (blk_below (pk BK119.out) hb); replace BK120 := a_ (blk_below (pk BK120.out) hb); replace BK121 := a_ (blk_below (pk BK121.out) hb); replace HB := a_ (below_step (by repeat first | (with_reducible first | exact HB.out | refine bz ?_ (by assumption) | apply bA | apply bN | apply bD) | exact HB.out) hb); clear hb) | ((with_reducible refine gate_dst (N := 6) rfl ?_); refine box_event ?hg (N := 6) ?hd (cs := #[.slice none 0 0, .slice none 0 0]) (t := 26) ?hr ?_; (case hd => rfl); (case hg => rfl); (case hr => first | (go_simp; done) | (go_simp; rfl)); intro gb123 hg w14 hbox hb; have BK123 := a_ (hbox); have GW123 := a_ (bsg hg HB.out); have GE123 := a_ (bsg hg HB.out); replace HB := a_ (below_step (by repeat first | (with_reducible first | exact HB.out | refine bz ?_ (by assumption) | apply bA | apply bN | apply bD) | exact HB.out) hb); have NB119_123 := a_ (nel hg BK119.out); have NB123_119 := a_ (nle hg BK119.out); replace BK119 := a_ (blk_below (pk BK119.out) hb); have NB120_123 := a_ (nel hg BK120.out); have NB123_120 := a_ (nle hg BK120.out); replace BK120 := a_ (blk_below (pk BK120.out) hb); have NB121_123 := a_ (nel hg BK121.out); have NB123_121 := a_ (nle hg BK121.out); replace BK121 := a_ (blk_below (pk BK121.out) hb); clear hb hbox hg; have hnb15 := NB123_119.out; have hnc15 := NB119_123.out; have hnb16 := NB123_120.out; have hnc16 := NB120_123.out; have hnb17 := NB123_121.out; have hnc17 := NB121_123.out; have hcz18_0 : _ = some (Value.slice none 0 0) := (blk_cell BK123.out 0).trans rfl; have hcz18_1 : _ = some (Value.slice none 0 0) := (blk_cell BK123.out 1).trans rfl; have hfz18_0 := blk_frozen BK123.out 0; have hfz18_1 := blk_frozen BK123.out 1; have hcz19_0 : _ = some (Value.slice A0_0 l0_0.length c0_0) := (blk_cell BK119.out 0).trans rfl; have hcz19_1 : _ = some (Value.slice A0_1 l0_1.length c0_1) := (blk_cell BK119.out 1).trans rfl; have hfz19_0 := blk_frozen BK119.out 0; have hfz19_1 := blk_frozen BK119.out 1))
  go_loopg [19] k (fun kq v19 w' => ∃ (x19_1 : Int) (x124000_1 : List Nat) (x124001_1 : List Nat) (u124000 : Value) (u124001 : Value), v19 = .int .i64 x19_1 ∧ Aside0 (spec_BoxHull.l0 kq (l0_0.length : Int) x19_1 l0_0 l0_1 l1_0 l1_1 x124000_1 x124001_1 = some (r1, r2, r3)) ∧ Aside0 (kq ≤ k) ∧ Aside0 (Kd.R Kd.flt 39 w' w.heap.size (fun k_ => some k_ ≠ (u124001 : Value).ownBlock) u124000 x124000_1) ∧ Aside0 (Kd.R Kd.flt 39 w' w.heap.size (fun k_ => some k_ ≠ (u124000 : Value).ownBlock) u124001 x124001_1) ∧ Aside0 (w'.heap[gb119]? = some (.cells #[(.slice A0_0 l0_0.length c0_0), (.slice A0_1 l0_1.length c0_1)] 26 (0, 0))) ∧ Aside0 (w'.heap[gb120]? = some (.cells #[(.slice A1_0 l1_0.length c1_0), (.slice A1_1 l1_1.length c1_1)] 26 (0, 0))) ∧ Aside0 (w'.heap[gb121]? = some (.cells #[(.slice none 0 0), (.slice none 0 0)] 26 (0, 0))) ∧ Aside0 (w'.heap[gb123]? = some (.cells #[u124000, u124001] 26 (0, 0))) ∧ Aside0 (Below w.heap.size w w'))
  case atStart => exact ⟨(0), (([] : List Nat)), (([] : List Nat)), (.slice none 0 0), (.slice none 0 0), (by first | rfl | (simp; done) | (simp [*]; done)), H', ⟨Nat.le_refl _⟩, ⟨by first | exact Kd.R_nil _ _ _ _ _ | exact Kd.N_nil _ _ _ _ _ | exact Kd.V_nil _ _ _ _ _ | exact Kd.Q_nil _ _ _ _ _ | exact Kd.S_nil _ _ _ _ _⟩, ⟨by first | exact Kd.R_nil _ _ _ _ _ | exact Kd.N_nil _ _ _ _ _ | exact Kd.V_nil _ _ _ _ _ | exact Kd.Q_nil _ _ _ _ _ | exact Kd.S_nil _ _ _ _ _⟩, ⟨by refine pk ?_; refine blk_far ?_ NB119_123.out _; refine pk ?_; refine blk_far ?_ NB119_123.out _; refine pk ?_; exact BK119.out⟩, ⟨by refine pk ?_; refine blk_far ?_ NB120_123.out _; refine pk ?_; refine blk_far ?_ NB120_123.out _; refine pk ?_; exact BK120.out⟩, ⟨by refine pk ?_; refine blk_far ?_ NB121_123.out _; refine pk ?_; refine blk_far ?_ NB121_123.out _; refine pk ?_; exact BK121.out⟩, ⟨by refine pk ?_; refine blk_put (cs := #[.slice none 0 0, .slice none 0 0]) ?_ 1 _ rfl; refine pk ?_; refine blk_put (cs := #[.slice none 0 0, .slice none 0 0]) ?_ 0 _ rfl; refine pk ?_; exact BK123.out⟩, ⟨by repeat first | (with_reducible first | exact HB.out | refine bz ?_ (by assumption) | apply bA | apply bN | apply bD) | exact HB.out⟩⟩
  case round =>
   clear H'
   try clear c1
   try clear p2
   try clear c4
   try clear c7
   try clear c8
   try clear c9
   try clear c11
   try clear c15
   try clear c16
   try clear c17
   try clear c19
   try clear hcz10_0
   try clear hcz10_1
   try clear hcz12_0
   try clear hcz12_1
   try clear hcz18_0
   try clear hcz18_1
   try clear hcz19_0
   try clear hcz19_1
   try clear hfz10_0
   try clear hfz10_1
   try clear hfz12_0
   try clear hfz12_1
   try clear hfz18_0
   try clear hfz18_1
   try clear hfz19_0
   try clear hfz19_1
   obtain ⟨x19_1, x124000_1, x124001_1, u124000, u124001, rfl, HA, HK1, HO_124000, HO_124001, BK119, BK120, BK121, BK123, HB⟩ := hrel
   cases gk with
   | zero => exact absurd HA.out (by simp [spec_BoxHull.l0])
   | succ k1 =>
    have H := HA.out
    clear HA
    simp only [spec_BoxHull.l0] at H
    by_cases c20 : x19_1 < (l0_0.length : Int)
    ·rw [if_pos c20] at H
     have c20b0 : decide (x19_1 < (l0_0.length : Int)) = true := decide_eq_true c20
     clear c20
     by_cases c21 : 0 ≤ x19_1
     ·rw [if_pos c21] at H
      have c21b0 : decide (0 ≤ x19_1) = true := decide_eq_true c21
      clear c21
      by_cases c22 : x19_1 < (l0_0.length : Int)
      ·rw [if_pos c22] at H
       have c22b0 : decide (x19_1 < (l0_0.length : Int)) = true := decide_eq_true c22
       clear c22
       by_cases c23 : x19_1 < (l1_0.length : Int)
       ·rw [if_pos c23] at H
        have c23b0 : decide (x19_1 < (l1_0.length : Int)) = true := decide_eq_true c23
        clear c23
        by_cases c24 : (FloatKind.f64.format.order (rdOf (0 : Nat) l1_0 x19_1) (rdOf (0 : Nat) l0_0 x19_1) == some Ordering.lt) = true
        ·rw [if_pos c24] at H
         have c24b0 : (FloatKind.f64.format.order (rdOf (0 : Nat) l1_0 x19_1) (rdOf (0 : Nat) l0_0 x19_1) == some Ordering.lt) = true := c24
         (try (have c24b1 : decide (FloatKind.f64.format.order (rdOf (0 : Nat) l1_0 x19_1) (rdOf (0 : Nat) l0_0 x19_1) = some Ordering.lt) = true := by simpa using c24))
         (try (have c24b2 : (FloatKind.f64.format.order (rdOf (0 : Nat) l1_0 x19_1) (rdOf (0 : Nat) l0_0 x19_1) == some Ordering.lt) = true := by simpa using c24))
         clear c24
         by_cases c25 : x19_1 < (l0_1.length : Int)
         ·rw [if_pos c25] at H
          have c25b0 : decide (x19_1 < (l0_1.length : Int)) = true := decide_eq_true c25
          clear c25
          by_cases c26 : x19_1 < (l1_1.length : Int)
          ·rw [if_pos c26] at H
           have c26b0 : decide (x19_1 < (l1_1.length : Int)) = true := decide_eq_true c26
           clear c26
           by_cases c27 : (FloatKind.f64.format.order (rdOf (0 : Nat) l1_1 x19_1) (rdOf (0 : Nat) l0_1 x19_1) == some Ordering.gt) = true
           ·rw [if_pos c27] at H
            have c27b0 : (FloatKind.f64.format.order (rdOf (0 : Nat) l1_1 x19_1) (rdOf (0 : Nat) l0_1 x19_1) == some Ordering.gt) = true := c27
            (try (have c27b1 : decide (FloatKind.f64.format.order (rdOf (0 : Nat) l1_1 x19_1) (rdOf (0 : Nat) l0_1 x19_1) = some Ordering.gt) = true := by simpa using c27))
            (try (have c27b2 : (FloatKind.f64.format.order (rdOf (0 : Nat) l1_1 x19_1) (rdOf (0 : Nat) l0_1 x19_1) == some Ordering.gt) = true := by simpa using c27))
            clear c27
            by_cases c28 : x124000_1.length < 17592186044416
            ·rw [if_pos c28] at H
             have LMc28 := Aside0.mk c28
             clear c28
             obtain ⟨y130, hy130⟩ : ∃ y_ : List Nat, y_ = (x124000_1 ++ [rdOf (0 : Nat) l1_0 x19_1]) := ⟨_, rfl⟩
             replace H : (if x124001_1.length < 17592186044416 then (spec_BoxHull.l0 k1 (l0_0.length : Int) (wrap64 (x19_1 + 1)) l0_0 l0_1 l1_0 l1_1 y130 (x124001_1 ++ [rdOf (0 : Nat) l1_1 x19_1])) else (none)) = some (r1, r2, r3) := by first | (rw [hy130]; with_reducible exact H) | (have H2_ := (Option.bind_some _ _).symm.trans H; rw [hy130]; with_reducible exact H2_) | (have H2_ := (Option.bind_some _ _).symm.trans H; with_reducible exact H2_) | with_reducible exact H | (rw [hy130]; exact H) | exact H
             have Ny130 := Aside0.mk hy130
             clear hy130
             by_cases c29 : x124001_1.length < 17592186044416
             ·rw [if_pos c29] at H
              have LMc29 := Aside0.mk c29
              clear c29
              obtain ⟨y133, hy133⟩ : ∃ y_ : List Nat, y_ = (x124001_1 ++ [rdOf (0 : Nat) l1_1 x19_1]) := ⟨_, rfl⟩
              replace H : (spec_BoxHull.l0 k1 (l0_0.length : Int) (wrap64 (x19_1 + 1)) l0_0 l0_1 l1_0 l1_1 y130 y133) = some (r1, r2, r3) := by first | (rw [hy133]; with_reducible exact H) | (have H2_ := (Option.bind_some _ _).symm.trans H; rw [hy133]; with_reducible exact H2_) | (have H2_ := (Option.bind_some _ _).symm.trans H; with_reducible exact H2_) | with_reducible exact H | (rw [hy133]; exact H) | exact H
              have Ny133 := Aside0.mk hy133
              clear hy133
              have H' := Aside0.mk H
              clear H
              have hnb30 := NB119_120.out
              have hnc30 := NB120_119.out
              have hnb31 := NB119_121.out
              have hnc31 := NB121_119.out
              have hnb32 := NB119_123.out
              have hnc32 := NB123_119.out
              have hcz33_0 : wr.cell? ⟨gb119, 0, none⟩ = some (.slice A0_0 l0_0.length c0_0) := (blk_cell BK119.out 0).trans rfl
              have hcz33_1 : wr.cell? ⟨gb119, 1, none⟩ = some (.slice A0_1 l0_1.length c0_1) := (blk_cell BK119.out 1).trans rfl
              have hfz33_0 := blk_frozen BK119.out 0
              have hfz33_1 := blk_frozen BK119.out 1
              have p124 : 0 ≤ (x19_1 : Int) := of_decide_eq_true (by first | (with_reducible assumption) | assumption)
              have q124 : x19_1 < (l0_0.length : Int) := of_decide_eq_true (by first | (with_reducible assumption) | assumption)
              obtain ⟨ad124, e124, hx124_0⟩ := Kd.at_flt HR0_0.out x19_1 p124 q124
              cases e124
              replace hx124_0 := (HB.out.cell (World.block_lt_of_cell? w _ hx124_0)).trans hx124_0
              replace p124 := eq_true p124
              replace q124 := eq_true q124
              have hnb34 := NB120_121.out
              have hnc34 := NB121_120.out
              have hnb35 := NB120_123.out
              have hnc35 := NB123_120.out
              have hcz36_0 : wr.cell? ⟨gb120, 0, none⟩ = some (.slice A1_0 l1_0.length c1_0) := (blk_cell BK120.out 0).trans rfl
              have hcz36_1 : wr.cell? ⟨gb120, 1, none⟩ = some (.slice A1_1 l1_1.length c1_1) := (blk_cell BK120.out 1).trans rfl
              have hfz36_0 := blk_frozen BK120.out 0
              have hfz36_1 := blk_frozen BK120.out 1
              have p125 : 0 ≤ (x19_1 : Int) := of_decide_eq_true (by first | (with_reducible assumption) | assumption)
              have q125 : x19_1 < (l1_0.length : Int) := of_decide_eq_true (by first | (with_reducible assumption) | assumption)
              obtain ⟨ad125, e125, hx125_0⟩ := Kd.at_flt HR1_0.out x19_1 p125 q125
              cases e125
              replace hx125_0 := (HB.out.cell (World.block_lt_of_cell? w _ hx125_0)).trans hx125_0
              replace p125 := eq_true p125
              replace q125 := eq_true q125
              have p126 : 0 ≤ (x19_1 : Int) := of_decide_eq_true (by first | (with_reducible assumption) | assumption)
              have q126 : x19_1 < (l1_0.length : Int) := of_decide_eq_true (by first | (with_reducible assumption) | assumption)
              obtain ⟨ad126, e126, hx126_0⟩ := Kd.at_flt HR1_0.out x19_1 p126 q126
              obtain rfl : ad125 = ad126 := (by injection e126)
              replace hx126_0 := (HB.out.cell (World.block_lt_of_cell? w _ hx126_0)).trans hx126_0
              replace p126 := eq_true p126
              replace q126 := eq_true q126
              have p127 : 0 ≤ (x19_1 : Int) := of_decide_eq_true (by first | (with_reducible assumption) | assumption)
              have q127 : x19_1 < (l0_1.length : Int) := of_decide_eq_true (by first | (with_reducible assumption) | assumption)
              obtain ⟨ad127, e127, hx127_0⟩ := Kd.at_flt HR0_1.out x19_1 p127 q127
              cases e127
              replace hx127_0 := (HB.out.cell (World.block_lt_of_cell? w _ hx127_0)).trans hx127_0
              replace p127 := eq_true p127
              replace q127 := eq_true q127
              have p128 : 0 ≤ (x19_1 : Int) := of_decide_eq_true (by first | (with_reducible assumption) | assumption)
              have q128 : x19_1 < (l1_1.length : Int) := of_decide_eq_true (by first | (with_reducible assumption) | assumption)
              obtain ⟨ad128, e128, hx128_0⟩ := Kd.at_flt HR1_1.out x19_1 p128 q128
              cases e128
              replace hx128_0 := (HB.out.cell (World.block_lt_of_cell? w _ hx128_0)).trans hx128_0
              replace p128 := eq_true p128
              replace q128 := eq_true q128
              have p129 : 0 ≤ (x19_1 : Int) := of_decide_eq_true (by first | (with_reducible assumption) | assumption)
              have q129 : x19_1 < (l1_1.length : Int) := of_decide_eq_true (by first | (with_reducible assumption) | assumption)
              obtain ⟨ad129, e129, hx129_0⟩ := Kd.at_flt HR1_1.out x19_1 p129 q129
              obtain rfl : ad128 = ad129 := (by injection e129)
              replace hx129_0 := (HB.out.cell (World.block_lt_of_cell? w _ hx129_0)).trans hx129_0
              replace p129 := eq_true p129
              replace q129 := eq_true q129
              have hnb37 := NB123_121.out
              have hnc37 := NB121_123.out
              have hcz38_0 : wr.cell? ⟨gb123, 0, none⟩ = some (u124000) := (blk_cell BK123.out 0).trans rfl
              have hcz38_1 : wr.cell? ⟨gb123, 1, none⟩ = some (u124001) := (blk_cell BK123.out 1).trans rfl
              have hfz38_0 := blk_frozen BK123.out 0
              have hfz38_1 := blk_frozen BK123.out 1
              go_wp2_with (first | ((with_reducible refine gate_builtin (b := .append) (xs := #[.tmp 57, .tmp 59]) rfl ?_); at_builtin; refine Kd.R_append Kd.flt (w0 := w) w.heap.size rfl (.tmp 57) (.tmp 59) 22 39 (.float .f64 0) 8 rfl Try.underlying22 info39 rfl (by decide) (by omega) u124000 x124000_1 (rdOf (0 : Nat) l1_0 x19_1) [.float .f64 (rdOf (0 : Nat) l1_0 x19_1)] (fun k_ => some k_ ≠ (u124001 : Value).ownBlock) (fun _ => False) rfl rfl ?aP (fun _ hk => hk.elim) ?aF ?aO ?aB ?aS ?aL ?_; (case aP => exact rfl); (case aB => exact (by repeat first | (with_reducible first | exact HB.out | refine bz ?_ (by assumption) | apply bA | apply bN | apply bD) | exact HB.out)); (case aF => exact (fun k_ hk => Kd.fresh' (Kd.R_lt (rk HO_124001.out)) k_ hk)); (case aO => exact (rk HO_124000.out)); (case aS => exact (bs HB.out)); (case aL => have := LMc28.out; omega); intro v131 w39 ho hb hg hat; rw [← Ny130.out] at ho; replace HO_124001 := a_ (Kd.R_after (ok := (fun _ => True)) (rk (Kd.R_mono HO_124001.out (fun _ hk => ⟨trivial, hk⟩))) hg hat); replace BK119 := a_ (blk_grown (pk BK119.out) hg (Kd.R_ne HO_124000.out BK119.out (by decide))); replace BK120 := a_ (blk_grown (pk BK120.out) hg (Kd.R_ne HO_124000.out BK120.out (by decide))); replace BK121 := a_ (blk_grown (pk BK121.out) hg (Kd.R_ne HO_124000.out BK121.out (by decide))); replace BK123 := a_ (blk_grown (pk BK123.out) hg (Kd.R_ne HO_124000.out BK123.out (by decide))); replace HB := a_ (hb); have HO132 := a_ (ho); clear HO_124000 ho hb hg hat; obtain ⟨Ao40, co40, eo40⟩ := Kd.R_slice HO132.out; subst eo40; have hcz41_0 : w39.cell? ⟨gb123, 0, none⟩ = some (u124000) := (blk_cell BK123.out 0).trans rfl; have hcz41_1 : w39.cell? ⟨gb123, 1, none⟩ = some (u124001) := (blk_cell BK123.out 1).trans rfl; have hfz41_0 := blk_frozen BK123.out 0; have hfz41_1 := blk_frozen BK123.out 1) | ((with_reducible refine gate_builtin (b := .append) (xs := #[.tmp 63, .tmp 65]) rfl ?_); at_builtin; refine Kd.R_append Kd.flt (w0 := w) w.heap.size rfl (.tmp 63) (.tmp 65) 22 39 (.float .f64 0) 8 rfl Try.underlying22 info39 rfl (by decide) (by omega) u124001 x124001_1 (rdOf (0 : Nat) l1_1 x19_1) [.float .f64 (rdOf (0 : Nat) l1_1 x19_1)] (fun k_ => N_ (.slice Ao40 y130.length co40) k_) (fun _ => False) rfl (by first | (go_simp; done) | (go_simp; rfl)) ?aP (fun _ hk => hk.elim) ?aF ?aO ?aB ?aS ?aL ?_; (case aP => exact rfl); (case aB => exact (by repeat first | (with_reducible first | exact HB.out | refine bz ?_ (by assumption) | apply bA | apply bN | apply bD) | exact HB.out)); (case aF => exact (fun k_ hk => Kd.fresh' (Kd.R_lt (rk (Kd.R_mono (fr1 HO132.out BK123.out (by decide) 0 (.slice Ao40 y130.length co40)) (fun _ h_ => h_.1)))) k_ hk)); (case aO => exact (rk (Kd.R_mono (fr1 HO_124001.out BK123.out (by decide) 0 (.slice Ao40 y130.length co40)) (fun _ hk => hk.1.2)))); (case aS => exact (bs HB.out)); (case aL => have := LMc29.out; omega); intro v134 w42 ho hb hg hat; rw [← Ny133.out] at ho; replace BK119 := a_ (blk_grown (g := gb119) (o := .cells #[.slice (some ad124) l0_0.length c0_0, .slice (some ad127) l0_1.length c0_1] 26 (0, 0)) (by refine pk ?_; refine blk_far ?_ NB119_123.out _; refine pk ?_; exact BK119.out) hg (Kd.R_ne HO_124001.out BK119.out (by decide))); replace BK120 := a_ (blk_grown (g := gb120) (o := .cells #[.slice (some ad125) l1_0.length c1_0, .slice (some ad128) l1_1.length c1_1] 26 (0, 0)) (by refine pk ?_; refine blk_far ?_ NB120_123.out _; refine pk ?_; exact BK120.out) hg (Kd.R_ne HO_124001.out BK120.out (by decide))); replace BK121 := a_ (blk_grown (g := gb121) (o := .cells #[.slice none 0 0, .slice none 0 0] 26 (0, 0)) (by refine pk ?_; refine blk_far ?_ NB121_123.out _; refine pk ?_; exact BK121.out) hg (Kd.R_ne HO_124001.out BK121.out (by decide))); replace HO132 := a_ (Kd.R_after (ok := (fun _ => True)) (rk (Kd.R_mono (fr1 HO132.out BK123.out (by decide) 0 (.slice Ao40 y130.length co40)) (fun _ hk => ⟨trivial, hk.1⟩))) hg hat); replace BK123 := a_ (blk_grown (g := gb123) (o := .cells #[.slice Ao40 y130.length co40, u124001] 26 (0, 0)) (by refine pk ?_; refine blk_put (cs := #[u124000, u124001]) ?_ 0 _ rfl; refine pk ?_; exact BK123.out) hg (Kd.R_ne HO_124001.out BK123.out (by decide))); replace HB := a_ (hb); have HO135 := a_ (ho); clear HO_124001 ho hb hg hat; obtain ⟨Ao43, co43, eo43⟩ := Kd.R_slice HO135.out; subst eo43; have hcz44_0 : _ = some (Value.slice Ao40 y130.length co40) := (blk_cell BK123.out 0).trans rfl; have hcz44_1 : w42.cell? ⟨gb123, 1, none⟩ = some (u124001) := (blk_cell BK123.out 1).trans rfl; have hfz44_0 := blk_frozen BK123.out 0; have hfz44_1 := blk_frozen BK123.out 1))
              go_roundg k1
              case measure => have := HK1.out; omega
              case rel => exact ⟨(wrap64 (x19_1 + 1)), (y130), (y133), (.slice Ao40 y130.length co40), (.slice Ao43 y133.length co43), (by first | rfl | (simp; done) | (simp [*]; done)), H', ⟨by have := HK1.out; omega⟩, ⟨rk (Kd.R_mono (fr1 HO132.out BK123.out (by decide) 1 (.slice Ao43 y133.length co43)) (fun _ hk => hk.1.2))⟩, ⟨rk (Kd.R_mono (fr1 HO135.out BK123.out (by decide) 1 (.slice Ao43 y133.length co43)) (fun _ hk => hk.1))⟩, ⟨by refine pk ?_; refine blk_far ?_ NB119_123.out _; refine pk ?_; exact BK119.out⟩, ⟨by refine pk ?_; refine blk_far ?_ NB120_123.out _; refine pk ?_; exact BK120.out⟩, ⟨by refine pk ?_; refine blk_far ?_ NB121_123.out _; refine pk ?_; exact BK121.out⟩, ⟨by refine pk ?_; refine blk_put (cs := #[.slice Ao40 y130.length co40, u124001]) ?_ 1 _ rfl; refine pk ?_; exact BK123.out⟩, ⟨by repeat first | (with_reducible first | exact HB.out | refine bz ?_ (by assumption) | apply bA | apply bN | apply bD) | exact HB.out⟩⟩
             ·rw [if_neg c29] at H
              exact absurd H (by simp)
            ·rw [if_neg c28] at H
             exact absurd H (by simp)
           ·rw [if_neg c27] at H
            have c27b0 : (FloatKind.f64.format.order (rdOf (0 : Nat) l1_1 x19_1) (rdOf (0 : Nat) l0_1 x19_1) == some Ordering.gt) = false := by simpa using c27
            (try (have c27b1 : decide (FloatKind.f64.format.order (rdOf (0 : Nat) l1_1 x19_1) (rdOf (0 : Nat) l0_1 x19_1) = some Ordering.gt) = false := by simpa using c27))
            (try (have c27b2 : (FloatKind.f64.format.order (rdOf (0 : Nat) l1_1 x19_1) (rdOf (0 : Nat) l0_1 x19_1) == some Ordering.gt) = false := by simpa using c27))
            (try (have c27b3 : ¬ (FloatKind.f64.format.order (rdOf (0 : Nat) l1_1 x19_1) (rdOf (0 : Nat) l0_1 x19_1) = some Ordering.gt) := by simpa using c27))
            clear c27
            by_cases c45 : x124000_1.length < 17592186044416
            ·rw [if_pos c45] at H
             have LMc45 := Aside0.mk c45
             clear c45
             obtain ⟨y136, hy136⟩ : ∃ y_ : List Nat, y_ = (x124000_1 ++ [rdOf (0 : Nat) l1_0 x19_1]) := ⟨_, rfl⟩
             replace H : (if x124001_1.length < 17592186044416 then (spec_BoxHull.l0 k1 (l0_0.length : Int) (wrap64 (x19_1 + 1)) l0_0 l0_1 l1_0 l1_1 y136 (x124001_1 ++ [rdOf (0 : Nat) l0_1 x19_1])) else (none)) = some (r1, r2, r3) := by first | (rw [hy136]; with_reducible exact H) | (have H2_ := (Option.bind_some _ _).symm.trans H; rw [hy136]; with_reducible exact H2_) | (have H2_ := (Option.bind_some _ _).symm.trans H; with_reducible exact H2_) | with_reducible exact H | (rw [hy136]; exact H) | exact H
             have Ny136 := Aside0.mk hy136
             clear hy136
             by_cases c46 : x124001_1.length < 17592186044416
             ·rw [if_pos c46] at H
              have LMc46 := Aside0.mk c46
              clear c46
              obtain ⟨y139, hy139⟩ : ∃ y_ : List Nat, y_ = (x124001_1 ++ [rdOf (0 : Nat) l0_1 x19_1]) := ⟨_, rfl⟩
              replace H : (spec_BoxHull.l0 k1 (l0_0.length : Int) (wrap64 (x19_1 + 1)) l0_0 l0_1 l1_0 l1_1 y136 y139) = some (r1, r2, r3) := by first | (rw [hy139]; with_reducible exact H) | (have H2_ := (Option.bind_some _ _).symm.trans H; rw [hy139]; with_reducible exact H2_) | (have H2_ := (Option.bind_some _ _).symm.trans H; with_reducible exact H2_) | with_reducible exact H | (rw [hy139]; exact H) | exact H
              have Ny139 := Aside0.mk hy139
              clear hy139
              have H' := Aside0.mk H
              clear H
              have hnb47 := NB119_120.out
              have hnc47 := NB120_119.out
              have hnb48 := NB119_121.out
              have hnc48 := NB121_119.out
              have hnb49 := NB119_123.out
              have hnc49 := NB123_119.out
              have hcz50_0 : wr.cell? ⟨gb119, 0, none⟩ = some (.slice A0_0 l0_0.length c0_0) := (blk_cell BK119.out 0).trans rfl
              have hcz50_1 : wr.cell? ⟨gb119, 1, none⟩ = some (.slice A0_1 l0_1.length c0_1) := (blk_cell BK119.out 1).trans rfl
              have hfz50_0 := blk_frozen BK119.out 0
              have hfz50_1 := blk_frozen BK119.out 1
              have p124 : 0 ≤ (x19_1 : Int) := of_decide_eq_true (by first | (with_reducible assumption) | assumption)
              have q124 : x19_1 < (l0_0.length : Int) := of_decide_eq_true (by first | (with_reducible assumption) | assumption)
              obtain ⟨ad124, e124, hx124_0⟩ := Kd.at_flt HR0_0.out x19_1 p124 q124
              cases e124
              replace hx124_0 := (HB.out.cell (World.block_lt_of_cell? w _ hx124_0)).trans hx124_0
              replace p124 := eq_true p124
              replace q124 := eq_true q124
              have hnb51 := NB120_121.out
              have hnc51 := NB121_120.out
              have hnb52 := NB120_123.out
              have hnc52 := NB123_120.out
              have hcz53_0 : wr.cell? ⟨gb120, 0, none⟩ = some (.slice A1_0 l1_0.length c1_0) := (blk_cell BK120.out 0).trans rfl
              have hcz53_1 : wr.cell? ⟨gb120, 1, none⟩ = some (.slice A1_1 l1_1.length c1_1) := (blk_cell BK120.out 1).trans rfl
              have hfz53_0 := blk_frozen BK120.out 0
              have hfz53_1 := blk_frozen BK120.out 1
              have p125 : 0 ≤ (x19_1 : Int) := of_decide_eq_true (by first | (with_reducible assumption) | assumption)
              have q125 : x19_1 < (l1_0.length : Int) := of_decide_eq_true (by first | (with_reducible assumption) | assumption)
              obtain ⟨ad125, e125, hx125_0⟩ := Kd.at_flt HR1_0.out x19_1 p125 q125
              cases e125
              replace hx125_0 := (HB.out.cell (World.block_lt_of_cell? w _ hx125_0)).trans hx125_0
              replace p125 := eq_true p125
              replace q125 := eq_true q125
              have p126 : 0 ≤ (x19_1 : Int) := of_decide_eq_true (by first | (with_reducible assumption) | assumption)
              have q126 : x19_1 < (l1_0.length : Int) := of_decide_eq_true (by first | (with_reducible assumption) | assumption)
              obtain ⟨ad126, e126, hx126_0⟩ := Kd.at_flt HR1_0.out x19_1 p126 q126
              obtain rfl : ad125 = ad126 := (by injection e126)
              replace hx126_0 := (HB.out.cell (World.block_lt_of_cell? w _ hx126_0)).trans hx126_0
              replace p126 := eq_true p126
              replace q126 := eq_true q126
              have p127 : 0 ≤ (x19_1 : Int) := of_decide_eq_true (by first | (with_reducible assumption) | assumption)
              have q127 : x19_1 < (l0_1.length : Int) := of_decide_eq_true (by first | (with_reducible assumption) | assumption)
              obtain ⟨ad127, e127, hx127_0⟩ := Kd.at_flt HR0_1.out x19_1 p127 q127
              cases e127
              replace hx127_0 := (HB.out.cell (World.block_lt_of_cell? w _ hx127_0)).trans hx127_0
              replace p127 := eq_true p127
              replace q127 := eq_true q127
              have p128 : 0 ≤ (x19_1 : Int) := of_decide_eq_true (by first | (with_reducible assumption) | assumption)
              have q128 : x19_1 < (l1_1.length : Int) := of_decide_eq_true (by first | (with_reducible assumption) | assumption)
              obtain ⟨ad128, e128, hx128_0⟩ := Kd.at_flt HR1_1.out x19_1 p128 q128
              cases e128
              replace hx128_0 := (HB.out.cell (World.block_lt_of_cell? w _ hx128_0)).trans hx128_0
              replace p128 := eq_true p128
              replace q128 := eq_true q128
              have hnb54 := NB123_121.out
              have hnc54 := NB121_123.out
              have hcz55_0 : wr.cell? ⟨gb123, 0, none⟩ = some (u124000) := (blk_cell BK123.out 0).trans rfl
              have hcz55_1 : wr.cell? ⟨gb123, 1, none⟩ = some (u124001) := (blk_cell BK123.out 1).trans rfl
              have hfz55_0 := blk_frozen BK123.out 0
              have hfz55_1 := blk_frozen BK123.out 1
              go_wp2_with (first | ((with_reducible refine gate_builtin (b := .append) (xs := #[.tmp 57, .tmp 59]) rfl ?_); at_builtin; refine Kd.R_append Kd.flt (w0 := w) w.heap.size rfl (.tmp 57) (.tmp 59) 22 39 (.float .f64 0) 8 rfl Try.underlying22 info39 rfl (by decide) (by omega) u124000 x124000_1 (rdOf (0 : Nat) l1_0 x19_1) [.float .f64 (rdOf (0 : Nat) l1_0 x19_1)] (fun k_ => some k_ ≠ (u124001 : Value).ownBlock) (fun _ => False) rfl rfl ?aP (fun _ hk => hk.elim) ?aF ?aO ?aB ?aS ?aL ?_; (case aP => exact rfl); (case aB => exact (by repeat first | (with_reducible first | exact HB.out | refine bz ?_ (by assumption) | apply bA | apply bN | apply bD) | exact HB.out)); (case aF => exact (fun k_ hk => Kd.fresh' (Kd.R_lt (rk HO_124001.out)) k_ hk)); (case aO => exact (rk HO_124000.out)); (case aS => exact (bs HB.out)); (case aL => have := LMc45.out; omega); intro v137 w56 ho hb hg hat; rw [← Ny136.out] at ho; replace HO_124001 := a_ (Kd.R_after (ok := (fun _ => True)) (rk (Kd.R_mono HO_124001.out (fun _ hk => ⟨trivial, hk⟩))) hg hat); replace BK119 := a_ (blk_grown (pk BK119.out) hg (Kd.R_ne HO_124000.out BK119.out (by decide))); replace BK120 := a_ (blk_grown (pk BK120.out) hg (Kd.R_ne HO_124000.out BK120.out (by decide))); replace BK121 := a_ (blk_grown (pk BK121.out) hg (Kd.R_ne HO_124000.out BK121.out (by decide))); replace BK123 := a_ (blk_grown (pk BK123.out) hg (Kd.R_ne HO_124000.out BK123.out (by decide))); replace HB := a_ (hb); have HO138 := a_ (ho); clear HO_124000 ho hb hg hat; obtain ⟨Ao57, co57, eo57⟩ := Kd.R_slice HO138.out; subst eo57; have hcz58_0 : w56.cell? ⟨gb123, 0, none⟩ = some (u124000) := (blk_cell BK123.out 0).trans rfl; have hcz58_1 : w56.cell? ⟨gb123, 1, none⟩ = some (u124001) := (blk_cell BK123.out 1).trans rfl; have hfz58_0 := blk_frozen BK123.out 0; have hfz58_1 := blk_frozen BK123.out 1) | ((with_reducible refine gate_builtin (b := .append) (xs := #[.tmp 63, .tmp 65]) rfl ?_); at_builtin; refine Kd.R_append Kd.flt (w0 := w) w.heap.size rfl (.tmp 63) (.tmp 65) 22 39 (.float .f64 0) 8 rfl Try.underlying22 info39 rfl (by decide) (by omega) u124001 x124001_1 (rdOf (0 : Nat) l0_1 x19_1) [.float .f64 (rdOf (0 : Nat) l0_1 x19_1)] (fun k_ => N_ (.slice Ao57 y136.length co57) k_) (fun _ => False) rfl (by first | (go_simp; done) | (go_simp; rfl)) ?aP (fun _ hk => hk.elim) ?aF ?aO ?aB ?aS ?aL ?_; (case aP => exact rfl); (case aB => exact (by repeat first | (with_reducible first | exact HB.out | refine bz ?_ (by assumption) | apply bA | apply bN | apply bD) | exact HB.out)); (case aF => exact (fun k_ hk => Kd.fresh' (Kd.R_lt (rk (Kd.R_mono (fr1 HO138.out BK123.out (by decide) 0 (.slice Ao57 y136.length co57)) (fun _ h_ => h_.1)))) k_ hk)); (case aO => exact (rk (Kd.R_mono (fr1 HO_124001.out BK123.out (by decide) 0 (.slice Ao57 y136.length co57)) (fun _ hk => hk.1.2)))); (case aS => exact (bs HB.out)); (case aL => have := LMc46.out; omega); intro v140 w59 ho hb hg hat; rw [← Ny139.out] at ho; replace BK119 := a_ (blk_grown (g := gb119) (o := .cells #[.slice (some ad124) l0_0.length c0_0, .slice (some ad127) l0_1.length c0_1] 26 (0, 0)) (by refine pk ?_; refine blk_far ?_ NB119_123.out _; refine pk ?_; exact BK119.out) hg (Kd.R_ne HO_124001.out BK119.out (by decide))); replace BK120 := a_ (blk_grown (g := gb120) (o := .cells #[.slice (some ad125) l1_0.length c1_0, .slice (some ad128) l1_1.length c1_1] 26 (0, 0)) (by refine pk ?_; refine blk_far ?_ NB120_123.out _; refine pk ?_; exact BK120.out) hg (Kd.R_ne HO_124001.out BK120.out (by decide))); replace BK121 := a_ (blk_grown (g := gb121) (o := .cells #[.slice none 0 0, .slice none 0 0] 26 (0, 0)) (by refine pk ?_; refine blk_far ?_ NB121_123.out _; refine pk ?_; exact BK121.out) hg (Kd.R_ne HO_124001.out BK121.out (by decide))); replace HO138 := a_ (Kd.R_after (ok := (fun _ => True)) (rk (Kd.R_mono (fr1 HO138.out BK123.out (by decide) 0 (.slice Ao57 y136.length co57)) (fun _ hk => ⟨trivial, hk.1⟩))) hg hat); replace BK123 := a_ (blk_grown (g := gb123) (o := .cells #[.slice Ao57 y136.length co57, u124001] 26 (0, 0)) (by refine pk ?_; refine blk_put (cs := #[u124000, u124001]) ?_ 0 _ rfl; refine pk ?_; exact BK123.out) hg (Kd.R_ne HO_124001.out BK123.out (by decide))); replace HB := a_ (hb); have HO141 := a_ (ho); clear HO_124001 ho hb hg hat; obtain ⟨Ao60, co60, eo60⟩ := Kd.R_slice HO141.out; subst eo60; have hcz61_0 : _ = some (Value.slice Ao57 y136.length co57) := (blk_cell BK123.out 0).trans rfl; have hcz61_1 : w59.cell? ⟨gb123, 1, none⟩ = some (u124001) := (blk_cell BK123.out 1).trans rfl; have hfz61_0 := blk_frozen BK123.out 0; have hfz61_1 := blk_frozen BK123.out 1))
              go_roundg k1
              case measure => have := HK1.out; omega
              case rel => exact ⟨(wrap64 (x19_1 + 1)), (y136), (y139), (.slice Ao57 y136.length co57), (.slice Ao60 y139.length co60), (by first | rfl | (simp; done) | (simp [*]; done)), H', ⟨by have := HK1.out; omega⟩, ⟨rk (Kd.R_mono (fr1 HO138.out BK123.out (by decide) 1 (.slice Ao60 y139.length co60)) (fun _ hk => hk.1.2))⟩, ⟨rk (Kd.R_mono (fr1 HO141.out BK123.out (by decide) 1 (.slice Ao60 y139.length co60)) (fun _ hk => hk.1))⟩, ⟨by refine pk ?_; refine blk_far ?_ NB119_123.out _; refine pk ?_; exact BK119.out⟩, ⟨by refine pk ?_; refine blk_far ?_ NB120_123.out _; refine pk ?_; exact BK120.out⟩, ⟨by refine pk ?_; refine blk_far ?_ NB121_123.out _; refine pk ?_; exact BK121.out⟩, ⟨by refine pk ?_; refine blk_put (cs := #[.slice Ao57 y136.length co57, u124001]) ?_ 1 _ rfl; refine pk ?_; exact BK123.out⟩, ⟨by repeat first | (with_reducible first | exact HB.out | refine bz ?_ (by assumption) | apply bA | apply bN | apply bD) | exact HB.out⟩⟩
             ·rw [if_neg c46] at H
              exact absurd H (by simp)
            ·rw [if_neg c45] at H
             exact absurd H (by simp)
          ·rw [if_neg c26] at H
           exact absurd H (by simp)
         ·rw [if_neg c25] at H
          exact absurd H (by simp)
        ·rw [if_neg c24] at H
         have c24b0 : (FloatKind.f64.format.order (rdOf (0 : Nat) l1_0 x19_1) (rdOf (0 : Nat) l0_0 x19_1) == some Ordering.lt) = false := by simpa using c24
         (try (have c24b1 : decide (FloatKind.f64.format.order (rdOf (0 : Nat) l1_0 x19_1) (rdOf (0 : Nat) l0_0 x19_1) = some Ordering.lt) = false := by simpa using c24))
         (try (have c24b2 : (FloatKind.f64.format.order (rdOf (0 : Nat) l1_0 x19_1) (rdOf (0 : Nat) l0_0 x19_1) == some Ordering.lt) = false := by simpa using c24))
         (try (have c24b3 : ¬ (FloatKind.f64.format.order (rdOf (0 : Nat) l1_0 x19_1) (rdOf (0 : Nat) l0_0 x19_1) = some Ordering.lt) := by simpa using c24))
         clear c24
         by_cases c62 : x19_1 < (l0_1.length : Int)
         ·rw [if_pos c62] at H
          have c62b0 : decide (x19_1 < (l0_1.length : Int)) = true := decide_eq_true c62
          clear c62
          by_cases c63 : x19_1 < (l1_1.length : Int)
          ·rw [if_pos c63] at H
           have c63b0 : decide (x19_1 < (l1_1.length : Int)) = true := decide_eq_true c63
           clear c63
           by_cases c64 : (FloatKind.f64.format.order (rdOf (0 : Nat) l1_1 x19_1) (rdOf (0 : Nat) l0_1 x19_1) == some Ordering.gt) = true
           ·rw [if_pos c64] at H
            have c64b0 : (FloatKind.f64.format.order (rdOf (0 : Nat) l1_1 x19_1) (rdOf (0 : Nat) l0_1 x19_1) == some Ordering.gt) = true := c64
            (try (have c64b1 : decide (FloatKind.f64.format.order (rdOf (0 : Nat) l1_1 x19_1) (rdOf (0 : Nat) l0_1 x19_1) = some Ordering.gt) = true := by simpa using c64))
            (try (have c64b2 : (FloatKind.f64.format.order (rdOf (0 : Nat) l1_1 x19_1) (rdOf (0 : Nat) l0_1 x19_1) == some Ordering.gt) = true := by simpa using c64))
            clear c64
            by_cases c65 : x124000_1.length < 17592186044416
            ·rw [if_pos c65] at H
             have LMc65 := Aside0.mk c65
             clear c65
             obtain ⟨y145, hy145⟩ : ∃ y_ : List Nat, y_ = (x124000_1 ++ [rdOf (0 : Nat) l0_0 x19_1]) := ⟨_, rfl⟩
             replace H : (if x124001_1.length < 17592186044416 then (spec_BoxHull.l0 k1 (l0_0.length : Int) (wrap64 (x19_1 + 1)) l0_0 l0_1 l1_0 l1_1 y145 (x124001_1 ++ [rdOf (0 : Nat) l1_1 x19_1])) else (none)) = some (r1, r2, r3) := by first | (rw [hy145]; with_reducible exact H) | (have H2_ := (Option.bind_some _ _).symm.trans H; rw [hy145]; with_reducible exact H2_) | (have H2_ := (Option.bind_some _ _).symm.trans H; with_reducible exact H2_) | with_reducible exact H | (rw [hy145]; exact H) | exact H
             have Ny145 := Aside0.mk hy145
             clear hy145
             by_cases c66 : x124001_1.length < 17592186044416
             ·rw [if_pos c66] at H
              have LMc66 := Aside0.mk c66
              clear c66
              obtain ⟨y148, hy148⟩ : ∃ y_ : List Nat, y_ = (x124001_1 ++ [rdOf (0 : Nat) l1_1 x19_1]) := ⟨_, rfl⟩
              replace H : (spec_BoxHull.l0 k1 (l0_0.length : Int) (wrap64 (x19_1 + 1)) l0_0 l0_1 l1_0 l1_1 y145 y148) = some (r1, r2, r3) := by first | (rw [hy148]; with_reducible exact H) | (have H2_ := (Option.bind_some _ _).symm.trans H; rw [hy148]; with_reducible exact H2_) | (have H2_ := (Option.bind_some _ _).symm.trans H; with_reducible exact H2_) | with_reducible exact H | (rw [hy148]; exact H) | exact H
              have Ny148 := Aside0.mk hy148
              clear hy148
              have H' := Aside0.mk H
              clear H
              have hnb67 := NB119_120.out
              have hnc67 := NB120_119.out
              have hnb68 := NB119_121.out
              have hnc68 := NB121_119.out
              have hnb69 := NB119_123.out
              have hnc69 := NB123_119.out
              have hcz70_0 : wr.cell? ⟨gb119, 0, none⟩ = some (.slice A0_0 l0_0.length c0_0) := (blk_cell BK119.out 0).trans rfl
              have hcz70_1 : wr.cell? ⟨gb119, 1, none⟩ = some (.slice A0_1 l0_1.length c0_1) := (blk_cell BK119.out 1).trans rfl
              have hfz70_0 := blk_frozen BK119.out 0
              have hfz70_1 := blk_frozen BK119.out 1
              have p124 : 0 ≤ (x19_1 : Int) := of_decide_eq_true (by first | (with_reducible assumption) | assumption)
              have q124 : x19_1 < (l0_0.length : Int) := of_decide_eq_true (by first | (with_reducible assumption) | assumption)
              obtain ⟨ad124, e124, hx124_0⟩ := Kd.at_flt HR0_0.out x19_1 p124 q124
              cases e124
              replace hx124_0 := (HB.out.cell (World.block_lt_of_cell? w _ hx124_0)).trans hx124_0
              replace p124 := eq_true p124
              replace q124 := eq_true q124
              have hnb71 := NB120_121.out
              have hnc71 := NB121_120.out
              have hnb72 := NB120_123.out
              have hnc72 := NB123_120.out
              have hcz73_0 : wr.cell? ⟨gb120, 0, none⟩ = some (.slice A1_0 l1_0.length c1_0) := (blk_cell BK120.out 0).trans rfl
              have hcz73_1 : wr.cell? ⟨gb120, 1, none⟩ = some (.slice A1_1 l1_1.length c1_1) := (blk_cell BK120.out 1).trans rfl
              have hfz73_0 := blk_frozen BK120.out 0
              have hfz73_1 := blk_frozen BK120.out 1
              have p125 : 0 ≤ (x19_1 : Int) := of_decide_eq_true (by first | (with_reducible assumption) | assumption)
              have q125 : x19_1 < (l1_0.length : Int) := of_decide_eq_true (by first | (with_reducible assumption) | assumption)
              obtain ⟨ad125, e125, hx125_0⟩ := Kd.at_flt HR1_0.out x19_1 p125 q125
              cases e125
              replace hx125_0 := (HB.out.cell (World.block_lt_of_cell? w _ hx125_0)).trans hx125_0
              replace p125 := eq_true p125
              replace q125 := eq_true q125
              have p142 : 0 ≤ (x19_1 : Int) := of_decide_eq_true (by first | (with_reducible assumption) | assumption)
              have q142 : x19_1 < (l0_1.length : Int) := of_decide_eq_true (by first | (with_reducible assumption) | assumption)
              obtain ⟨ad142, e142, hx142_0⟩ := Kd.at_flt HR0_1.out x19_1 p142 q142
              cases e142
              replace hx142_0 := (HB.out.cell (World.block_lt_of_cell? w _ hx142_0)).trans hx142_0
              replace p142 := eq_true p142
              replace q142 := eq_true q142
              have p143 : 0 ≤ (x19_1 : Int) := of_decide_eq_true (by first | (with_reducible assumption) | assumption)
              have q143 : x19_1 < (l1_1.length : Int) := of_decide_eq_true (by first | (with_reducible assumption) | assumption)
              obtain ⟨ad143, e143, hx143_0⟩ := Kd.at_flt HR1_1.out x19_1 p143 q143
              cases e143
              replace hx143_0 := (HB.out.cell (World.block_lt_of_cell? w _ hx143_0)).trans hx143_0
              replace p143 := eq_true p143
              replace q143 := eq_true q143
              have p144 : 0 ≤ (x19_1 : Int) := of_decide_eq_true (by first | (with_reducible assumption) | assumption)
              have q144 : x19_1 < (l1_1.length : Int) := of_decide_eq_true (by first | (with_reducible assumption) | assumption)
              obtain ⟨ad144, e144, hx144_0⟩ := Kd.at_flt HR1_1.out x19_1 p144 q144
              obtain rfl : ad143 = ad144 := (by injection e144)
              replace hx144_0 := (HB.out.cell (World.block_lt_of_cell? w _ hx144_0)).trans hx144_0
              replace p144 := eq_true p144
              replace q144 := eq_true q144
              have hnb74 := NB123_121.out
              have hnc74 := NB121_123.out
              have hcz75_0 : wr.cell? ⟨gb123, 0, none⟩ = some (u124000) := (blk_cell BK123.out 0).trans rfl
              have hcz75_1 : wr.cell? ⟨gb123, 1, none⟩ = some (u124001) := (blk_cell BK123.out 1).trans rfl
              have hfz75_0 := blk_frozen BK123.out 0
              have hfz75_1 := blk_frozen BK123.out 1
              go_wp2_with (first | ((with_reducible refine gate_builtin (b := .append) (xs := #[.tmp 57, .tmp 59]) rfl ?_); at_builtin; refine Kd.R_append Kd.flt (w0 := w) w.heap.size rfl (.tmp 57) (.tmp 59) 22 39 (.float .f64 0) 8 rfl Try.underlying22 info39 rfl (by decide) (by omega) u124000 x124000_1 (rdOf (0 : Nat) l0_0 x19_1) [.float .f64 (rdOf (0 : Nat) l0_0 x19_1)] (fun k_ => some k_ ≠ (u124001 : Value).ownBlock) (fun _ => False) rfl rfl ?aP (fun _ hk => hk.elim) ?aF ?aO ?aB ?aS ?aL ?_; (case aP => exact rfl); (case aB => exact (by repeat first | (with_reducible first | exact HB.out | refine bz ?_ (by assumption) | apply bA | apply bN | apply bD) | exact HB.out)); (case aF => exact (fun k_ hk => Kd.fresh' (Kd.R_lt (rk HO_124001.out)) k_ hk)); (case aO => exact (rk HO_124000.out)); (case aS => exact (bs HB.out)); (case aL => have := LMc65.out; omega); intro v146 w76 ho hb hg hat; rw [← Ny145.out] at ho; replace HO_124001 := a_ (Kd.R_after (ok := (fun _ => True)) (rk (Kd.R_mono HO_124001.out (fun _ hk => ⟨trivial, hk⟩))) hg hat); replace BK119 := a_ (blk_grown (pk BK119.out) hg (Kd.R_ne HO_124000.out BK119.out (by decide))); replace BK120 := a_ (blk_grown (pk BK120.out) hg (Kd.R_ne HO_124000.out BK120.out (by decide))); replace BK121 := a_ (blk_grown (pk BK121.out) hg (Kd.R_ne HO_124000.out BK121.out (by decide))); replace BK123 := a_ (blk_grown (pk BK123.out) hg (Kd.R_ne HO_124000.out BK123.out (by decide))); replace HB := a_ (hb); have HO147 := a_ (ho); clear HO_124000 ho hb hg hat; obtain ⟨Ao77, co77, eo77⟩ := Kd.R_slice HO147.out; subst eo77; have hcz78_0 : w76.cell? ⟨gb123, 0, none⟩ = some (u124000) := (blk_cell BK123.out 0).trans rfl; have hcz78_1 : w76.cell? ⟨gb123, 1, none⟩ = some (u124001) := (blk_cell BK123.out 1).trans rfl; have hfz78_0 := blk_frozen BK123.out 0; have hfz78_1 := blk_frozen BK123.out 1) | ((with_reducible refine gate_builtin (b := .append) (xs := #[.tmp 63, .tmp 65]) rfl ?_); at_builtin; refine Kd.R_append Kd.flt (w0 := w) w.heap.size rfl (.tmp 63) (.tmp 65) 22 39 (.float .f64 0) 8 rfl Try.underlying22 info39 rfl (by decide) (by omega) u124001 x124001_1 (rdOf (0 : Nat) l1_1 x19_1) [.float .f64 (rdOf (0 : Nat) l1_1 x19_1)] (fun k_ => N_ (.slice Ao77 y145.length co77) k_) (fun _ => False) rfl (by first | (go_simp; done) | (go_simp; rfl)) ?aP (fun _ hk => hk.elim) ?aF ?aO ?aB ?aS ?aL ?_; (case aP => exact rfl); (case aB => exact (by repeat first | (with_reducible first | exact HB.out | refine bz ?_ (by assumption) | apply bA | apply bN | apply bD) | exact HB.out)); (case aF => exact (fun k_ hk => Kd.fresh' (Kd.R_lt (rk (Kd.R_mono (fr1 HO147.out BK123.out (by decide) 0 (.slice Ao77 y145.length co77)) (fun _ h_ => h_.1)))) k_ hk)); (case aO => exact (rk (Kd.R_mono (fr1 HO_124001.out BK123.out (by decide) 0 (.slice Ao77 y145.length co77)) (fun _ hk => hk.1.2)))); (case aS => exact (bs HB.out)); (case aL => have := LMc66.out; omega); intro v149 w79 ho hb hg hat; rw [← Ny148.out] at ho; replace BK119 := a_ (blk_grown (g := gb119) (o := .cells #[.slice (some ad124) l0_0.length c0_0, .slice (some ad142) l0_1.length c0_1] 26 (0, 0)) (by refine pk ?_; refine blk_far ?_ NB119_123.out _; refine pk ?_; exact BK119.out) hg (Kd.R_ne HO_124001.out BK119.out (by decide))); replace BK120 := a_ (blk_grown (g := gb120) (o := .cells #[.slice (some ad125) l1_0.length c1_0, .slice (some ad143) l1_1.length c1_1] 26 (0, 0)) (by refine pk ?_; refine blk_far ?_ NB120_123.out _; refine pk ?_; exact BK120.out) hg (Kd.R_ne HO_124001.out BK120.out (by decide))); replace BK121 := a_ (blk_grown (g := gb121) (o := .cells #[.slice none 0 0, .slice none 0 0] 26 (0, 0)) (by refine pk ?_; refine blk_far ?_ NB121_123.out _; refine pk ?_; exact BK121.out) hg (Kd.R_ne HO_124001.out BK121.out (by decide))); replace HO147 := a_ (Kd.R_after (ok := (fun _ => True)) (rk (Kd.R_mono (fr1 HO147.out BK123.out (by decide) 0 (.slice Ao77 y145.length co77)) (fun _ hk => ⟨trivial, hk.1⟩))) hg hat); replace BK123 := a_ (blk_grown (g := gb123) (o := .cells #[.slice Ao77 y145.length co77, u124001] 26 (0, 0)) (by refine pk ?_; refine blk_put (cs := #[u124000, u124001]) ?_ 0 _ rfl; refine pk ?_; exact BK123.out) hg (Kd.R_ne HO_124001.out BK123.out (by decide))); replace HB := a_ (hb); have HO150 := a_ (ho); clear HO_124001 ho hb hg hat; obtain ⟨Ao80, co80, eo80⟩ := Kd.R_slice HO150.out; subst eo80; have hcz81_0 : _ = some (Value.slice Ao77 y145.length co77) := (blk_cell BK123.out 0).trans rfl; have hcz81_1 : w79.cell? ⟨gb123, 1, none⟩ = some (u124001) := (blk_cell BK123.out 1).trans rfl; have hfz81_0 := blk_frozen BK123.out 0; have hfz81_1 := blk_frozen BK123.out 1))
              go_roundg k1
              case measure => have := HK1.out; omega
              case rel => exact ⟨(wrap64 (x19_1 + 1)), (y145), (y148), (.slice Ao77 y145.length co77), (.slice Ao80 y148.length co80), (by first | rfl | (simp; done) | (simp [*]; done)), H', ⟨by have := HK1.out; omega⟩, ⟨rk (Kd.R_mono (fr1 HO147.out BK123.out (by decide) 1 (.slice Ao80 y148.length co80)) (fun _ hk => hk.1.2))⟩, ⟨rk (Kd.R_mono (fr1 HO150.out BK123.out (by decide) 1 (.slice Ao80 y148.length co80)) (fun _ hk => hk.1))⟩, ⟨by refine pk ?_; refine blk_far ?_ NB119_123.out _; refine pk ?_; exact BK119.out⟩, ⟨by refine pk ?_; refine blk_far ?_ NB120_123.out _; refine pk ?_; exact BK120.out⟩, ⟨by refine pk ?_; refine blk_far ?_ NB121_123.out _; refine pk ?_; exact BK121.out⟩, ⟨by refine pk ?_; refine blk_put (cs := #[.slice Ao77 y145.length co77, u124001]) ?_ 1 _ rfl; refine pk ?_; exact BK123.out⟩, ⟨by repeat first | (with_reducible first | exact HB.out | refine bz ?_ (by assumption) | apply bA | apply bN | apply bD) | exact HB.out⟩⟩
             ·rw [if_neg c66] at H
              exact absurd H (by simp)
            ·rw [if_neg c65] at H
             exact absurd H (by simp)
           ·rw [if_neg c64] at H
            have c64b0 : (FloatKind.f64.format.order (rdOf (0 : Nat) l1_1 x19_1) (rdOf (0 : Nat) l0_1 x19_1) == some Ordering.gt) = false := by simpa using c64
            (try (have c64b1 : decide (FloatKind.f64.format.order (rdOf (0 : Nat) l1_1 x19_1) (rdOf (0 : Nat) l0_1 x19_1) = some Ordering.gt) = false := by simpa using c64))
            (try (have c64b2 : (FloatKind.f64.format.order (rdOf (0 : Nat) l1_1 x19_1) (rdOf (0 : Nat) l0_1 x19_1) == some Ordering.gt) = false := by simpa using c64))
            (try (have c64b3 : ¬ (FloatKind.f64.format.order (rdOf (0 : Nat) l1_1 x19_1) (rdOf (0 : Nat) l0_1 x19_1) = some Ordering.gt) := by simpa using c64))
            clear c64
            by_cases c82 : x124000_1.length < 17592186044416
            ·rw [if_pos c82] at H
             have LMc82 := Aside0.mk c82
             clear c82
             obtain ⟨y151, hy151⟩ : ∃ y_ : List Nat, y_ = (x124000_1 ++ [rdOf (0 : Nat) l0_0 x19_1]) := ⟨_, rfl⟩
             replace H : (if x124001_1.length < 17592186044416 then (spec_BoxHull.l0 k1 (l0_0.length : Int) (wrap64 (x19_1 + 1)) l0_0 l0_1 l1_0 l1_1 y151 (x124001_1 ++ [rdOf (0 : Nat) l0_1 x19_1])) else (none)) = some (r1, r2, r3) := by first | (rw [hy151]; with_reducible exact H) | (have H2_ := (Option.bind_some _ _).symm.trans H; rw [hy151]; with_reducible exact H2_) | (have H2_ := (Option.bind_some _ _).symm.trans H; with_reducible exact H2_) | with_reducible exact H | (rw [hy151]; exact H) | exact H
             have Ny151 := Aside0.mk hy151
             clear hy151
             by_cases c83 : x124001_1.length < 17592186044416
             ·rw [if_pos c83] at H
              have LMc83 := Aside0.mk c83
              clear c83
              obtain ⟨y154, hy154⟩ : ∃ y_ : List Nat, y_ = (x124001_1 ++ [rdOf (0 : Nat) l0_1 x19_1]) := ⟨_, rfl⟩
              replace H : (spec_BoxHull.l0 k1 (l0_0.length : Int) (wrap64 (x19_1 + 1)) l0_0 l0_1 l1_0 l1_1 y151 y154) = some (r1, r2, r3) := by first | (rw [hy154]; with_reducible exact H) | (have H2_ := (Option.bind_some _ _).symm.trans H; rw [hy154]; with_reducible exact H2_) | (have H2_ := (Option.bind_some _ _).symm.trans H; with_reducible exact H2_) | with_reducible exact H | (rw [hy154]; exact H) | exact H
              have Ny154 := Aside0.mk hy154
              clear hy154
              have H' := Aside0.mk H
              clear H
              have hnb84 := NB119_120.out
              have hnc84 := NB120_119.out
              have hnb85 := NB119_121.out
              have hnc85 := NB121_119.out
              have hnb86 := NB119_123.out
              have hnc86 := NB123_119.out
              have hcz87_0 : wr.cell? ⟨gb119, 0, none⟩ = some (.slice A0_0 l0_0.length c0_0) := (blk_cell BK119.out 0).trans rfl
              have hcz87_1 : wr.cell? ⟨gb119, 1, none⟩ = some (.slice A0_1 l0_1.length c0_1) := (blk_cell BK119.out 1).trans rfl
              have hfz87_0 := blk_frozen BK119.out 0
              have hfz87_1 := blk_frozen BK119.out 1
              have p124 : 0 ≤ (x19_1 : Int) := of_decide_eq_true (by first | (with_reducible assumption) | assumption)
              have q124 : x19_1 < (l0_0.length : Int) := of_decide_eq_true (by first | (with_reducible assumption) | assumption)
              obtain ⟨ad124, e124, hx124_0⟩ := Kd.at_flt HR0_0.out x19_1 p124 q124
              cases e124
              replace hx124_0 := (HB.out.cell (World.block_lt_of_cell? w _ hx124_0)).trans hx124_0
              replace p124 := eq_true p124
              replace q124 := eq_true q124
              have hnb88 := NB120_121.out
              have hnc88 := NB121_120.out
              have hnb89 := NB120_123.out
              have hnc89 := NB123_120.out
              have hcz90_0 : wr.cell? ⟨gb120, 0, none⟩ = some (.slice A1_0 l1_0.length c1_0) := (blk_cell BK120.out 0).trans rfl
              have hcz90_1 : wr.cell? ⟨gb120, 1, none⟩ = some (.slice A1_1 l1_1.length c1_1) := (blk_cell BK120.out 1).trans rfl
              have hfz90_0 := blk_frozen BK120.out 0
              have hfz90_1 := blk_frozen BK120.out 1
              have p125 : 0 ≤ (x19_1 : Int) := of_decide_eq_true (by first | (with_reducible assumption) | assumption)
              have q125 : x19_1 < (l1_0.length : Int) := of_decide_eq_true (by first | (with_reducible assumption) | assumption)
              obtain ⟨ad125, e125, hx125_0⟩ := Kd.at_flt HR1_0.out x19_1 p125 q125
              cases e125
              replace hx125_0 := (HB.out.cell (World.block_lt_of_cell? w _ hx125_0)).trans hx125_0
              replace p125 := eq_true p125
              replace q125 := eq_true q125
              have p142 : 0 ≤ (x19_1 : Int) := of_decide_eq_true (by first | (with_reducible assumption) | assumption)
              have q142 : x19_1 < (l0_1.length : Int) := of_decide_eq_true (by first | (with_reducible assumption) | assumption)
              obtain ⟨ad142, e142, hx142_0⟩ := Kd.at_flt HR0_1.out x19_1 p142 q142
              cases e142
              replace hx142_0 := (HB.out.cell (World.block_lt_of_cell? w _ hx142_0)).trans hx142_0
              replace p142 := eq_true p142
              replace q142 := eq_true q142
              have p143 : 0 ≤ (x19_1 : Int) := of_decide_eq_true (by first | (with_reducible assumption) | assumption)
              have q143 : x19_1 < (l1_1.length : Int) := of_decide_eq_true (by first | (with_reducible assumption) | assumption)
              obtain ⟨ad143, e143, hx143_0⟩ := Kd.at_flt HR1_1.out x19_1 p143 q143
              cases e143
              replace hx143_0 := (HB.out.cell (World.block_lt_of_cell? w _ hx143_0)).trans hx143_0
              replace p143 := eq_true p143
              replace q143 := eq_true q143
              have hnb91 := NB123_121.out
              have hnc91 := NB121_123.out
              have hcz92_0 : wr.cell? ⟨gb123, 0, none⟩ = some (u124000) := (blk_cell BK123.out 0).trans rfl
              have hcz92_1 : wr.cell? ⟨gb123, 1, none⟩ = some (u124001) := (blk_cell BK123.out 1).trans rfl
              have hfz92_0 := blk_frozen BK123.out 0
              have hfz92_1 := blk_frozen BK123.out 1
              go_wp2_with (first | ((with_reducible refine gate_builtin (b := .append) (xs := #[.tmp 57, .tmp 59]) rfl ?_); at_builtin; refine Kd.R_append Kd.flt (w0 := w) w.heap.size rfl (.tmp 57) (.tmp 59) 22 39 (.float .f64 0) 8 rfl Try.underlying22 info39 rfl (by decide) (by omega) u124000 x124000_1 (rdOf (0 : Nat) l0_0 x19_1) [.float .f64 (rdOf (0 : Nat) l0_0 x19_1)] (fun k_ => some k_ ≠ (u124001 : Value).ownBlock) (fun _ => False) rfl rfl ?aP (fun _ hk => hk.elim) ?aF ?aO ?aB ?aS ?aL ?_; (case aP => exact rfl); (case aB => exact (by repeat first | (with_reducible first | exact HB.out | refine bz ?_ (by assumption) | apply bA | apply bN | apply bD) | exact HB.out)); (case aF => exact (fun k_ hk => Kd.fresh' (Kd.R_lt (rk HO_124001.out)) k_ hk)); (case aO => exact (rk HO_124000.out)); (case aS => exact (bs HB.out)); (case aL => have := LMc82.out; omega); intro v152 w93 ho hb hg hat; rw [← Ny151.out] at ho; replace HO_124001 := a_ (Kd.R_after (ok := (fun _ => True)) (rk (Kd.R_mono HO_124001.out (fun _ hk => ⟨trivial, hk⟩))) hg hat); replace BK119 := a_ (blk_grown (pk BK119.out) hg (Kd.R_ne HO_124000.out BK119.out (by decide))); replace BK120 := a_ (blk_grown (pk BK120.out) hg (Kd.R_ne HO_124000.out BK120.out (by decide))); replace BK121 := a_ (blk_grown (pk BK121.out) hg (Kd.R_ne HO_124000.out BK121.out (by decide))); replace BK123 := a_ (blk_grown (pk BK123.out) hg (Kd.R_ne HO_124000.out BK123.out (by decide))); replace HB := a_ (hb); have HO153 := a_ (ho); clear HO_124000 ho hb hg hat; obtain ⟨Ao94, co94, eo94⟩ := Kd.R_slice HO153.out; subst eo94; have hcz95_0 : w93.cell? ⟨gb123, 0, none⟩ = some (u124000) := (blk_cell BK123.out 0).trans rfl; have hcz95_1 : w93.cell? ⟨gb123, 1, none⟩ = some (u124001) := (blk_cell BK123.out 1).trans rfl; have hfz95_0 := blk_frozen BK123.out 0; have hfz95_1 := blk_frozen BK123.out 1) | ((with_reducible refine gate_builtin (b := .append) (xs := #[.tmp 63, .tmp 65]) rfl ?_); at_builtin; refine Kd.R_append Kd.flt (w0 := w) w.heap.size rfl (.tmp 63) (.tmp 65) 22 39 (.float .f64 0) 8 rfl Try.underlying22 info39 rfl (by decide) (by omega) u124001 x124001_1 (rdOf (0 : Nat) l0_1 x19_1) [.float .f64 (rdOf (0 : Nat) l0_1 x19_1)] (fun k_ => N_ (.slice Ao94 y151.length co94) k_) (fun _ => False) rfl (by first | (go_simp; done) | (go_simp; rfl)) ?aP (fun _ hk => hk.elim) ?aF ?aO ?aB ?aS ?aL ?_; (case aP => exact rfl); (case aB => exact (by repeat first | (with_reducible first | exact HB.out | refine bz ?_ (by assumption) | apply bA | apply bN | apply bD) | exact HB.out)); (case aF => exact (fun k_ hk => Kd.fresh' (Kd.R_lt (rk (Kd.R_mono (fr1 HO153.out BK123.out (by decide) 0 (.slice Ao94 y151.length co94)) (fun _ h_ => h_.1)))) k_ hk)); (case aO => exact (rk (Kd.R_mono (fr1 HO_124001.out BK123.out (by decide) 0 (.slice Ao94 y151.length co94)) (fun _ hk => hk.1.2)))); (case aS => exact (bs HB.out)); (case aL => have := LMc83.out; omega); intro v155 w96 ho hb hg hat; rw [← Ny154.out] at ho; replace BK119 := a_ (blk_grown (g := gb119) (o := .cells #[.slice (some ad124) l0_0.length c0_0, .slice (some ad142) l0_1.length c0_1] 26 (0, 0)) (by refine pk ?_; refine blk_far ?_ NB119_123.out _; refine pk ?_; exact BK119.out) hg (Kd.R_ne HO_124001.out BK119.out (by decide))); replace BK120 := a_ (blk_grown (g := gb120) (o := .cells #[.slice (some ad125) l1_0.length c1_0, .slice (some ad143) l1_1.length c1_1] 26 (0, 0)) (by refine pk ?_; refine blk_far ?_ NB120_123.out _; refine pk ?_; exact BK120.out) hg (Kd.R_ne HO_124001.out BK120.out (by decide))); replace BK121 := a_ (blk_grown (g := gb121) (o := .cells #[.slice none 0 0, .slice none 0 0] 26 (0, 0)) (by refine pk ?_; refine blk_far ?_ NB121_123.out _; refine pk ?_; exact BK121.out) hg (Kd.R_ne HO_124001.out BK121.out (by decide))); replace HO153 := a_ (Kd.R_after (ok := (fun _ => True)) (rk (Kd.R_mono (fr1 HO153.out BK123.out (by decide) 0 (.slice Ao94 y151.length co94)) (fun _ hk => ⟨trivial, hk.1⟩))) hg hat); replace BK123 := a_ (blk_grown (g := gb123) (o := .cells #[.slice Ao94 y151.length co94, u124001] 26 (0, 0)) (by refine pk ?_; refine blk_put (cs := #[u124000, u124001]) ?_ 0 _ rfl; refine pk ?_; exact BK123.out) hg (Kd.R_ne HO_124001.out BK123.out (by decide))); replace HB := a_ (hb); have HO156 := a_ (ho); clear HO_124001 ho hb hg hat; obtain ⟨Ao97, co97, eo97⟩ := Kd.R_slice HO156.out; subst eo97; have hcz98_0 : _ = some (Value.slice Ao94 y151.length co94) := (blk_cell BK123.out 0).trans rfl; have hcz98_1 : w96.cell? ⟨gb123, 1, none⟩ = some (u124001) := (blk_cell BK123.out 1).trans rfl; have hfz98_0 := blk_frozen BK123.out 0; have hfz98_1 := blk_frozen BK123.out 1))
              go_roundg k1
              case measure => have := HK1.out; omega
              case rel => exact ⟨(wrap64 (x19_1 + 1)), (y151), (y154), (.slice Ao94 y151.length co94), (.slice Ao97 y154.length co97), (by first | rfl | (simp; done) | (simp [*]; done)), H', ⟨by have := HK1.out; omega⟩, ⟨rk (Kd.R_mono (fr1 HO153.out BK123.out (by decide) 1 (.slice Ao97 y154.length co97)) (fun _ hk => hk.1.2))⟩, ⟨rk (Kd.R_mono (fr1 HO156.out BK123.out (by decide) 1 (.slice Ao97 y154.length co97)) (fun _ hk => hk.1))⟩, ⟨by refine pk ?_; refine blk_far ?_ NB119_123.out _; refine pk ?_; exact BK119.out⟩, ⟨by refine pk ?_; refine blk_far ?_ NB120_123.out _; refine pk ?_; exact BK120.out⟩, ⟨by refine pk ?_; refine blk_far ?_ NB121_123.out _; refine pk ?_; exact BK121.out⟩, ⟨by refine pk ?_; refine blk_put (cs := #[.slice Ao94 y151.length co94, u124001]) ?_ 1 _ rfl; refine pk ?_; exact BK123.out⟩, ⟨by repeat first | (with_reducible first | exact HB.out | refine bz ?_ (by assumption) | apply bA | apply bN | apply bD) | exact HB.out⟩⟩
             ·rw [if_neg c83] at H
              exact absurd H (by simp)
            ·rw [if_neg c82] at H
             exact absurd H (by simp)
          ·rw [if_neg c63] at H
           exact absurd H (by simp)
         ·rw [if_neg c62] at H
          exact absurd H (by simp)
       ·rw [if_neg c23] at H
        exact absurd H (by simp)
      ·rw [if_neg c22] at H
       exact absurd H (by simp)
     ·rw [if_neg c21] at H
      exact absurd H (by simp)
    ·rw [if_neg c20] at H
     have c20b0 : decide (x19_1 < (l0_0.length : Int)) = false := decide_eq_false c20
     clear c20
     simp only [Option.some.injEq, Prod.mk.injEq] at H
     obtain ⟨rfl, rfl, rfl⟩ := H
     have hnb99 := NB123_119.out
     have hnc99 := NB119_123.out
     have hnb100 := NB123_120.out
     have hnc100 := NB120_123.out
     have hnb101 := NB123_121.out
     have hnc101 := NB121_123.out
     have hcz102_0 : wr.cell? ⟨gb123, 0, none⟩ = some (u124000) := (blk_cell BK123.out 0).trans rfl
     have hcz102_1 : wr.cell? ⟨gb123, 1, none⟩ = some (u124001) := (blk_cell BK123.out 1).trans rfl
     have hfz102_0 := blk_frozen BK123.out 0
     have hfz102_1 := blk_frozen BK123.out 1
     obtain ⟨Ao103, co103, eo103⟩ := Kd.R_slice HO_124000.out
     subst eo103
     have hnb104 := NB121_119.out
     have hnc104 := NB119_121.out
     have hnb105 := NB121_120.out
     have hnc105 := NB120_121.out
     have hcz106_0 : wr.cell? ⟨gb121, 0, none⟩ = some (.slice none 0 0) := (blk_cell BK121.out 0).trans rfl
     have hcz106_1 : wr.cell? ⟨gb121, 1, none⟩ = some (.slice none 0 0) := (blk_cell BK121.out 1).trans rfl
     have hfz106_0 := blk_frozen BK121.out 0
     have hfz106_1 := blk_frozen BK121.out 1
     obtain ⟨Ao107, co107, eo107⟩ := Kd.R_slice HO_124001.out
     subst eo107
     go_wp2
     refine bodyPost_ret (results_ct rfl _ _ gb121 26 #[.slice Ao103 x124000_1.length co103, .slice Ao107 x124001_1.length co107] (0, 0) _ rfl (by refine pk ?_; refine blk_put (cs := #[.slice Ao103 x124000_1.length co103, .slice none 0 0]) ?_ 1 _ rfl; refine pk ?_; refine blk_put (cs := #[.slice none 0 0, .slice none 0 0]) ?_ 0 _ rfl; refine pk ?_; exact BK121.out) Try.underlying26 rfl (by kernel_rfl)) rfl ?_
     exact ⟨_, _, by first | rfl | (simp [errW_none, errW_some] <;> rfl) | (simp [*, errW_none, errW_some] <;> rfl), by refine rk ?_; exact Kd.R_mono (fr2 HO_124000.out BK121.out (by decide) 0 (.slice Ao103 x124000_1.length co103) 1 (.slice Ao107 x124001_1.length co107)) (fun _ hk => hk.1), by refine rk ?_; exact Kd.R_mono (fr2 HO_124001.out BK121.out (by decide) 0 (.slice Ao103 x124000_1.length co103) 1 (.slice Ao107 x124001_1.length co107)) (fun _ hk => hk.1), by repeat first | (with_reducible first | exact HB.out | refine bz ?_ (by assumption) | apply bA | apply bN | apply bD) | exact HB.out⟩
 ·replace c4 := Bool.eq_false_iff.mpr c4
  subst c4
  have H1 : (some (([] : List Nat), ([] : List Nat), false)) = some (r1, r2, r3) := by rw [if_neg (show ¬ (false = true) by decide)] at H; exact H
  clear H
  have H := H1
  clear H1
  simp only [Option.some.injEq, Prod.mk.injEq] at H
  obtain ⟨rfl, rfl, rfl⟩ := H
  go_enter Try.func7, Try.ntmps7
  go_wp2_with (first | ((with_reducible refine gate_dst (N := 2) rfl ?_); refine box_event ?hg (N := 2) ?hd (cs := #[.slice A0_0 l0_0.length c0_0, .slice A0_1 l0_1.length c0_1]) (t := 26) ?hr ?_; (case hd => rfl); (case hg => rfl); (case hr => first | (go_simp; done) | (go_simp; rfl)); intro gb119 hg w108 hbox hb; have BK119 := a_ (hbox); have GW119 := a_ (bsg hg HB.out); have GE119 := a_ (bsg hg HB.out); replace HB := a_ (below_step (un HB.out) hb); clear hb hbox hg) | ((with_reducible refine gate_dst (N := 3) rfl ?_); refine box_event ?hg (N := 3) ?hd (cs := #[.slice A1_0 l1_0.length c1_0, .slice A1_1 l1_1.length c1_1]) (t := 26) ?hr ?_; (case hd => rfl); (case hg => rfl); (case hr => first | (go_simp; done) | (go_simp; rfl)); intro gb120 hg w109 hbox hb; have BK120 := a_ (hbox); have GW120 := a_ (bsg hg HB.out); have GE120 := a_ (bsg hg HB.out); replace HB := a_ (below_step (by repeat first | (with_reducible first | exact HB.out | refine bz ?_ (by assumption) | apply bA | apply bN | apply bD) | exact HB.out) hb); have NB119_120 := a_ (nel hg BK119.out); have NB120_119 := a_ (nle hg BK119.out); replace BK119 := a_ (blk_below (pk BK119.out) hb); clear hb hbox hg) | ((with_reducible refine gate_dst (N := 4) rfl ?_); refine box_event ?hg (N := 4) ?hd (cs := #[.slice none 0 0, .slice none 0 0]) (t := 26) ?hr ?_; (case hd => rfl); (case hg => rfl); (case hr => first | (go_simp; done) | (go_simp; rfl)); intro gb121 hg w110 hbox hb; have BK121 := a_ (hbox); have GW121 := a_ (bsg hg HB.out); have GE121 := a_ (bsg hg HB.out); replace HB := a_ (below_step (by repeat first | (with_reducible first | exact HB.out | refine bz ?_ (by assumption) | apply bA | apply bN | apply bD) | exact HB.out) hb); have NB119_121 := a_ (nel hg BK119.out); have NB121_119 := a_ (nle hg BK119.out); replace BK119 := a_ (blk_below (pk BK119.out) hb); have NB120_121 := a_ (nel hg BK120.out); have NB121_120 := a_ (nle hg BK120.out); replace BK120 := a_ (blk_below (pk BK120.out) hb); clear hb hbox hg; have hnb111 := NB119_120.out; have hnc111 := NB120_119.out; have hnb112 := NB119_121.out; have hnc112 := NB121_119.out; have hcz113_0 : _ = some (Value.slice A0_0 l0_0.length c0_0) := (blk_cell BK119.out 0).trans rfl; have hcz113_1 : _ = some (Value.slice A0_1 l0_1.length c0_1) := (blk_cell BK119.out 1).trans rfl; have hfz113_0 := blk_frozen BK119.out 0; have hfz113_1 := blk_frozen BK119.out 1; have hnb114 := NB120_121.out; have hnc114 := NB121_120.out; have hcz115_0 : _ = some (Value.slice A1_0 l1_0.length c1_0) := (blk_cell BK120.out 0).trans rfl; have hcz115_1 : _ = some (Value.slice A1_1 l1_1.length c1_1) := (blk_cell BK120.out 1).trans rfl; have hfz115_0 := blk_frozen BK120.out 0; have hfz115_1 := blk_frozen BK120.out 1) | ((with_reducible refine gate_callee (f := 19) rfl ?_); refine goesL_ (some 12) rfl rfl Try.func19 (by kernel_rfl) rfl #[.agg #[.slice A0_0 l0_0.length c0_0, .slice A0_1 l0_1.length c0_1], .agg #[.slice A1_0 l1_0.length c1_0, .slice A1_1 l1_1.length c1_1]] rfl (by (try simp only [lA, lB, lC]); first | done | rfl | (simp only [lD, lE]; rfl)) ?_; (with_reducible refine (spec_l17Pair.calls k _ _ l0_0 _ _ l0_1 _ _ l1_0 _ _ l1_1 false _ ?side1 ?side2 ?side3 ?side4 ?side5 ?side6 ?side7 ?side8 A3.out).mono ?_); (case side1 => exact Kd.C_below HR0_0.out (un HB.out)); (case side2 => exact HC0_0.out); (case side3 => exact Kd.C_below HR0_1.out (un HB.out)); (case side4 => exact HC0_1.out); (case side5 => exact Kd.C_below HR1_0.out (un HB.out)); (case side6 => exact HC1_0.out); (case side7 => exact Kd.C_below HR1_1.out (un HB.out)); (case side8 => exact HC1_1.out); rintro e w116 ⟨rfl, hb⟩; refine ⟨_, rfl, ?_⟩; replace BK119 := a_ (blk_below (pk BK119.out) hb); replace BK120 := a_ (blk_below (pk BK120.out) hb); replace BK121 := a_ (blk_below (pk BK121.out) hb); replace HB := a_ (below_step (by repeat first | (with_reducible first | exact HB.out | refine bz ?_ (by assumption) | apply bA | apply bN | apply bD) | exact HB.out) hb); clear hb; have hcz117_0 : _ = some (Value.slice none 0 0) := (blk_cell BK121.out 0).trans rfl; have hcz117_1 : _ = some (Value.slice none 0 0) := (blk_cell BK121.out 1).trans rfl; have hfz117_0 := blk_frozen BK121.out 0; have hfz117_1 := blk_frozen BK121.out 1))
  refine bodyPost_ret (results_ct rfl _ _ gb121 26 #[.slice none 0 0, .slice none 0 0] (0, 0) _ rfl (by refine pk ?_; refine blk_put (cs := #[.slice none 0 0, .slice none 0 0]) ?_ 1 _ rfl; refine pk ?_; refine blk_put (cs := #[.slice none 0 0, .slice none 0 0]) ?_ 0 _ rfl; refine pk ?_; exact BK121.out) Try.underlying26 rfl (by kernel_rfl)) rfl ?_
  exact ⟨_, _, by first | rfl | (simp [errW_none, errW_some] <;> rfl) | (simp [*, errW_none, errW_some] <;> rfl), by first | exact Kd.R_nil _ _ _ _ _ | exact Kd.N_nil _ _ _ _ _ | exact Kd.V_nil _ _ _ _ _ | exact Kd.Q_nil _ _ _ _ _ | exact Kd.S_nil _ _ _ _ _, by first | exact Kd.R_nil _ _ _ _ _ | exact Kd.N_nil _ _ _ _ _ | exact Kd.V_nil _ _ _ _ _ | exact Kd.Q_nil _ _ _ _ _ | exact Kd.S_nil _ _ _ _ _, by repeat first | (with_reducible first | exact HB.out | refine bz ?_ (by assumption) | apply bA | apply bN | apply bD) | exact HB.out⟩

/-! ### laws_toFloat64S: function 20 -/
def laws_toFloat64S.l0 : Nat → List Nat → List Nat → Int → Option (List Nat)
 | 0, _, _, _ => none
 | k + 1, x0, x3, x4 => if x4 < (x0.length : Int) then (if 0 ≤ x4 then (if x4 < (x3.length : Int) then (laws_toFloat64S.l0 k x0 (x3.set (x4 : Int).toNat (rdOf (0 : Nat) x0 x4)) (wrap64 (x4 + 1))) else (none)) else (none)) else (some x3)
def laws_toFloat64S.f (k : Nat) (l0 : List Nat) : Option (List Nat) := if 0 ≤ (l0.length : Int) then (if ((l0.length : Int) : Int).toNat ≤ 35184372088832 then (laws_toFloat64S.l0 k l0 (List.replicate ((l0.length : Int) : Int).toNat (0 : Nat)) 0) else (none)) else (none)
theorem laws_toFloat64S.mono_l : ∀ k, (∀ y0 y1 y2, LeO (laws_toFloat64S.l0 k y0 y1 y2) (laws_toFloat64S.l0 (k + 1) y0 y1 y2))
 | 0 => fun _ _ _ r h => by simp [laws_toFloat64S.l0] at h
 | k + 1 => by
  have ih0 := laws_toFloat64S.mono_l k
  ·intro y0 y1 y2
   unfold laws_toFloat64S.l0
   repeat' first
   | (with_reducible exact ih0 _ _ _)
   | (with_reducible exact LeO.refl _)
   | (with_reducible exact LeO.none _)
   | (with_reducible refine LeO.ite ?_ ?_)
   | (with_reducible refine LeO.bind ?_ (fun _ => ?_))
   | exact ih0 _ _ _
   | exact LeO.none _
   | refine LeO.ite ?_ ?_
   | refine LeO.bind ?_ (fun _ => ?_)
theorem laws_toFloat64S.mono : ∀ a0 k, LeO (laws_toFloat64S.f k a0) (laws_toFloat64S.f (k + 1) a0) := by
 intro a0 k
 have ih0 := laws_toFloat64S.mono_l k
 unfold laws_toFloat64S.f
 repeat' first
   | (with_reducible exact ih0 _ _ _)
   | (with_reducible exact LeO.refl _)
   | (with_reducible exact LeO.none _)
   | (with_reducible refine LeO.ite ?_ ?_)
   | (with_reducible refine LeO.bind ?_ (fun _ => ?_))
   | exact ih0 _ _ _
   | exact LeO.none _
   | refine LeO.ite ?_ ?_
   | refine LeO.bind ?_ (fun _ => ?_)
set_option maxHeartbeats 8000000 in
set_option maxRecDepth 100000 in
theorem laws_toFloat64S.calls (k : Nat) (A0 : Option Addr) (c0 : Nat) (l0 : List Nat) (r : List Nat) (w : World) (hr0 : Kd.C Kd.flt w A0 l0.length l0) (hc0 : l0.length ≤ c0) (h : laws_toFloat64S.f k l0 = some r) :
  Calls Try.prog 20 #[.slice A0 l0.length c0] w fun e w' => ∃ v0_ : Value, e = .returned (v0_) ∧ Kd.R Kd.flt 39 w' w.heap.size (fun _ => True) v0_ r ∧ Below w.heap.size w w' := by
 have HR0 := Aside0.mk hr0
 have HC0 := Aside0.mk hc0
 clear hr0 hc0
 have HB := a_ (Below.refl w.heap.size w)
 have H : (if 0 ≤ (l0.length : Int) then (if ((l0.length : Int) : Int).toNat ≤ 35184372088832 then (laws_toFloat64S.l0 k l0 (List.replicate ((l0.length : Int) : Int).toNat (0 : Nat)) 0) else (none)) else (none)) = some r := h
 clear h
 by_cases c2 : 0 ≤ (l0.length : Int)
 ·rw [if_pos c2] at H
  have c2b0 := eq_true c2
  have c2b1 : decide (0 ≤ (l0.length : Int)) = true := decide_eq_true c2
  clear c2
  by_cases c3 : ((l0.length : Int) : Int).toNat ≤ 35184372088832
  ·rw [if_pos c3] at H
   have c3b0 := eq_true c3
   have c3b1 : decide (((l0.length : Int) : Int).toNat ≤ 35184372088832) = true := decide_eq_true c3
   clear c3
   obtain ⟨y157, hy157⟩ : ∃ y_ : List Nat, y_ = (List.replicate ((l0.length : Int) : Int).toNat (0 : Nat)) := ⟨_, rfl⟩
   replace H : (laws_toFloat64S.l0 k l0 y157 0) = some r := by first | (rw [hy157]; with_reducible exact H) | (have H2_ := (Option.bind_some _ _).symm.trans H; rw [hy157]; with_reducible exact H2_) | (have H2_ := (Option.bind_some _ _).symm.trans H; with_reducible exact H2_) | with_reducible exact H | (rw [hy157]; exact H) | exact H
   have Ny157 := Aside0.mk hy157
   clear hy157
   have H' := Aside0.mk H
   clear H
   go_enter Try.func20, Try.ntmps20
   go_wp2_with (first | ((with_reducible refine gate_dst (N := 7) rfl ?_); refine Kd.R_make Kd.flt _ 39 rfl (N := 7) rfl 22 _ _ rfl (l0.length : Int) rfl rfl Try.underlying22 (.float .f64 0) 8 info39 rfl (by decide) (by omega) (0 : Nat) (ok := fun _ => True) (okp := fun _ => True) rfl (fun _ hk => hk) trivial (of_decide_eq_true (by first | (with_reducible assumption) | assumption)) (Nat.le_trans (Nat.mul_le_mul_right _ (of_decide_eq_true (by first | (with_reducible assumption) | assumption) : (l0.length : Int).toNat ≤ 35184372088832)) (by omega)) (Below.refl _ _) (Nat.le_refl _) ?_; intro v158 w4 ho5 hb hg_ hnew_; clear hg_ hnew_; (first | rw [← Ny157.out] at ho5 | (simp only [Int.reduceToNat] at ho5; rw [← Ny157.out] at ho5)); have HO159 := a_ (Kd.R_lower ho5 (bs HB.out)); replace HB := a_ (below_step (un HB.out) hb); clear hb ho5))
   go_loopg [4] k (fun kq v4 w' => ∃ (x3_1 : List Nat) (x4_1 : Int), v4 = .int .i64 x4_1 ∧ Aside0 (laws_toFloat64S.l0 kq l0 x3_1 x4_1 = some r) ∧ Aside0 (kq ≤ k) ∧ Aside0 (Kd.R Kd.flt 39 w' w.heap.size (fun _ => True) v158 x3_1) ∧ Aside0 (Below w.heap.size w w'))
   case atStart => exact ⟨(y157), (0), (by first | rfl | (simp; done) | (simp [*]; done)), H', ⟨Nat.le_refl _⟩, ⟨rk (HO159.out)⟩, ⟨un HB.out⟩⟩
   case round =>
    clear H'
    try clear c2
    try clear c2b0
    try clear c2b1
    try clear p2
    try clear c3
    try clear c3b0
    try clear c3b1
    obtain ⟨x3_1, x4_1, rfl, HA, HK1, HO_3, HB⟩ := hrel
    cases gk with
    | zero => exact absurd HA.out (by simp [laws_toFloat64S.l0])
    | succ k1 =>
     have H := HA.out
     clear HA
     simp only [laws_toFloat64S.l0] at H
     by_cases c6 : x4_1 < (l0.length : Int)
     ·rw [if_pos c6] at H
      have c6b0 : decide (x4_1 < (l0.length : Int)) = true := decide_eq_true c6
      clear c6
      by_cases c7 : 0 ≤ x4_1
      ·rw [if_pos c7] at H
       have c7b0 : decide (0 ≤ x4_1) = true := decide_eq_true c7
       clear c7
       by_cases c8 : x4_1 < (x3_1.length : Int)
       ·rw [if_pos c8] at H
        have c8b0 : decide (x4_1 < (x3_1.length : Int)) = true := decide_eq_true c8
        clear c8
        obtain ⟨y161, hy161⟩ : ∃ y_ : List Nat, y_ = (x3_1.set (x4_1 : Int).toNat (rdOf (0 : Nat) l0 x4_1)) := ⟨_, rfl⟩
        replace H : (laws_toFloat64S.l0 k1 l0 y161 (wrap64 (x4_1 + 1))) = some r := by first | (rw [hy161]; with_reducible exact H) | (have H2_ := (Option.bind_some _ _).symm.trans H; rw [hy161]; with_reducible exact H2_) | (have H2_ := (Option.bind_some _ _).symm.trans H; with_reducible exact H2_) | with_reducible exact H | (rw [hy161]; exact H) | exact H
        have Ny161 := Aside0.mk hy161
        clear hy161
        have H' := Aside0.mk H
        clear H
        have p160 : 0 ≤ (x4_1 : Int) := of_decide_eq_true (by first | (with_reducible assumption) | assumption)
        have q160 : x4_1 < (l0.length : Int) := of_decide_eq_true (by first | (with_reducible assumption) | assumption)
        obtain ⟨ad160, e160, hx160_0⟩ := Kd.at_flt HR0.out x4_1 p160 q160
        cases e160
        replace hx160_0 := (HB.out.cell (World.block_lt_of_cell? w _ hx160_0)).trans hx160_0
        replace p160 := eq_true p160
        replace q160 := eq_true q160
        have p9 : 0 ≤ (x4_1 : Int) := of_decide_eq_true (by first | (with_reducible assumption) | assumption)
        have q9 : (x4_1 : Int) < ((x3_1.length : Int) : Int) := of_decide_eq_true (by first | (with_reducible assumption) | assumption)
        obtain ⟨go9, co9, eo9, gb9, gl9, cl9, HG9⟩ := Kd.R_form HO_3.out (by omega)
        (first | cases eo9 | (injection eo9 with ea_ en_ ec_; (first | subst ea_ | (injection ea_ with ea_; subst ea_)); subst ec_; clear en_))
        have GB9 := Aside0.mk gb9
        have GG9 := Aside0.mk HG9
        clear gb9 gl9 HG9
        obtain ⟨hx9_0, hf9_0⟩ := Kd.R_celln (0 : Nat) HO_3.out (x4_1 : Int) p9 q9
        replace p9 := eq_true p9
        replace q9 := eq_true q9
        have HP10 := Kd.R_putg HO_3.out (x4_1 : Int) (rdOf (0 : Nat) l0 x4_1)
        go_wp2_with (first | ((with_reducible refine gate_store (t := 39) (p := 20) rfl ?_); refine store_event (t := 39) (p := 20) (v := ?vo_w11) (w1 := (wr.setCell ⟨go9, (x4_1 : Int).toNat, none⟩ (.float .f64 (rdOf (0 : Nat) l0 x4_1)))) ?hg ?ho ?hn ?hr ?_; (case ho => rfl); (case hg => rfl); (case hn => rfl); (case hr => first | (go_simp; done) | (go_simp; rfl)); intro w11 hw; have hg : wr.grownBy w11 (some go9) := (by rw [hw]; exact HP10.2); have hp_ : Kd.R Kd.flt 39 w11 w.heap.size (fun _ => True) (.slice (some ⟨go9, 0, none⟩) x3_1.length co9) y161 := (by rw [hw, Ny161.out]; exact HP10.1); clear HP10; replace HO_3 := a_ (hp_); replace HB := a_ (by rw [hw]; exact below_set (HB.out) GB9.out : Below w.heap.size w w11); clear hg hw hp_))
        go_roundg k1
        case measure => have := HK1.out; omega
        case rel => exact ⟨(y161), (wrap64 (x4_1 + 1)), (by first | rfl | (simp; done) | (simp [*]; done)), H', ⟨by have := HK1.out; omega⟩, ⟨rk (HO_3.out)⟩, ⟨un HB.out⟩⟩
       ·rw [if_neg c8] at H
        exact absurd H (by simp)
      ·rw [if_neg c7] at H
       exact absurd H (by simp)
     ·rw [if_neg c6] at H
      have c6b0 : decide (x4_1 < (l0.length : Int)) = false := decide_eq_false c6
      clear c6
      obtain rfl := Option.some.inj H
      go_wp2
      go_ret
      exact ⟨_, by first | rfl | (simp [errW_none, errW_some] <;> rfl) | (simp [*, errW_none, errW_some] <;> rfl), by refine rk ?_; exact HO_3.out, un HB.out⟩
  ·rw [if_neg c3] at H
   exact absurd H (by simp)
 ·rw [if_neg c2] at H
  exact absurd H (by simp)

/-! ### laws_toBox: function 8 -/
def laws_toBox.f (k : Nat) (l0_0 : List Nat) (l0_1 : List Nat) : Option (List Nat × List Nat) := (laws_toFloat64S.f k l0_0).bind fun t165 => ((laws_toFloat64S.f k l0_1).bind fun t168 => (some (t165, t168)))
theorem laws_toBox.mono : ∀ a0 a1 k, LeO (laws_toBox.f k a0 a1) (laws_toBox.f (k + 1) a0 a1) := by
 intro a0 a1 k
 unfold laws_toBox.f
 repeat' first
   | (with_reducible exact laws_toFloat64S.mono _ _)
   | (with_reducible exact LeO.refl _)
   | (with_reducible exact LeO.none _)
   | (with_reducible refine LeO.ite ?_ ?_)
   | (with_reducible refine LeO.bind ?_ (fun _ => ?_))
   | exact laws_toFloat64S.mono _ _
   | exact LeO.none _
   | refine LeO.ite ?_ ?_
   | refine LeO.bind ?_ (fun _ => ?_)
set_option maxHeartbeats 8000000 in
set_option maxRecDepth 100000 in
theorem laws_toBox.calls (k : Nat) (A0_0 : Option Addr) (c0_0 : Nat) (l0_0 : List Nat) (A0_1 : Option Addr) (c0_1 : Nat) (l0_1 : List Nat) (r1 : List Nat) (r2 : List Nat) (w : World) (hr0_0 : Kd.C Kd.flt w A0_0 l0_0.length l0_0) (hc0_0 : l0_0.length ≤ c0_0) (hr0_1 : Kd.C Kd.flt w A0_1 l0_1.length l0_1) (hc0_1 : l0_1.length ≤ c0_1) (h : laws_toBox.f k l0_0 l0_1 = some (r1, r2)) :
  Calls Try.prog 8 #[.agg #[.slice A0_0 l0_0.length c0_0, .slice A0_1 l0_1.length c0_1]] w fun e w' => ∃ v0_ v1_ : Value, e = .returned (.agg #[v0_, v1_]) ∧ Kd.R Kd.flt 39 w' w.heap.size (fun k_ => N_ v1_ k_) v0_ r1 ∧ Kd.R Kd.flt 39 w' w.heap.size (fun k_ => N_ v0_ k_) v1_ r2 ∧ Below w.heap.size w w' := by
 have hu24 := Try.underlying24
 have hu26 := Try.underlying26
 have HR0_0 := Aside0.mk hr0_0
 have HC0_0 := Aside0.mk hc0_0
 clear hr0_0 hc0_0
 have HR0_1 := Aside0.mk hr0_1
 have HC0_1 := Aside0.mk hc0_1
 clear hr0_1 hc0_1
 have HB := a_ (Below.refl w.heap.size w)
 have H : ((laws_toFloat64S.f k l0_0).bind fun t165 => ((laws_toFloat64S.f k l0_1).bind fun t168 => (some (t165, t168)))) = some (r1, r2) := h
 clear h
 replace H := Option.bind_eq_some_iff.mp H
 obtain ⟨t165, A20, H⟩ := H
 replace H : ((laws_toFloat64S.f k l0_1).bind fun t168 => (some (t165, t168))) = some (r1, r2) := H
 have A2 := Aside0.mk A20
 clear A20
 replace H := Option.bind_eq_some_iff.mp H
 obtain ⟨t168, A30, H⟩ := H
 replace H : (some (t165, t168)) = some (r1, r2) := H
 have A3 := Aside0.mk A30
 clear A30
 simp only [Option.some.injEq, Prod.mk.injEq] at H
 obtain ⟨rfl, rfl⟩ := H
 go_enter Try.func8, Try.ntmps8
 go_wp2_with (first | ((with_reducible refine gate_dst (N := 1) rfl ?_); refine box_event ?hg (N := 1) ?hd (cs := #[.slice A0_0 l0_0.length c0_0, .slice A0_1 l0_1.length c0_1]) (t := 24) ?hr ?_; (case hd => rfl); (case hg => rfl); (case hr => first | (go_simp; done) | (go_simp; rfl)); intro gb162 hg w4 hbox hb; have BK162 := a_ (hbox); have GW162 := a_ (bsg hg HB.out); have GE162 := a_ (bsg hg HB.out); replace HB := a_ (below_step (un HB.out) hb); clear hb hbox hg) | ((with_reducible refine gate_dst (N := 2) rfl ?_); refine box_event ?hg (N := 2) ?hd (cs := #[.slice none 0 0, .slice none 0 0]) (t := 26) ?hr ?_; (case hd => rfl); (case hg => rfl); (case hr => first | (go_simp; done) | (go_simp; rfl)); intro gb163 hg w5 hbox hb; have BK163 := a_ (hbox); have GW163 := a_ (bsg hg HB.out); have GE163 := a_ (bsg hg HB.out); replace HB := a_ (below_step (by repeat first | (with_reducible first | exact HB.out | refine bz ?_ (by assumption) | apply bA | apply bN | apply bD) | exact HB.out) hb); have NB162_163 := a_ (nel hg BK162.out); have NB163_162 := a_ (nle hg BK162.out); replace BK162 := a_ (blk_below (pk BK162.out) hb); clear hb hbox hg) | ((with_reducible refine gate_dst (N := 3) rfl ?_); refine box_event ?hg (N := 3) ?hd (cs := #[.slice none 0 0, .slice none 0 0]) (t := 26) ?hr ?_; (case hd => rfl); (case hg => rfl); (case hr => first | (go_simp; done) | (go_simp; rfl)); intro gb164 hg w6 hbox hb; have BK164 := a_ (hbox); have GW164 := a_ (bsg hg HB.out); have GE164 := a_ (bsg hg HB.out); replace HB := a_ (below_step (by repeat first | (with_reducible first | exact HB.out | refine bz ?_ (by assumption) | apply bA | apply bN | apply bD) | exact HB.out) hb); have NB162_164 := a_ (nel hg BK162.out); have NB164_162 := a_ (nle hg BK162.out); replace BK162 := a_ (blk_below (pk BK162.out) hb); have NB163_164 := a_ (nel hg BK163.out); have NB164_163 := a_ (nle hg BK163.out); replace BK163 := a_ (blk_below (pk BK163.out) hb); clear hb hbox hg; have hnb7 := NB162_163.out; have hnc7 := NB163_162.out; have hnb8 := NB162_164.out; have hnc8 := NB164_162.out; have hcz9_0 : _ = some (Value.slice A0_0 l0_0.length c0_0) := (blk_cell BK162.out 0).trans rfl; have hcz9_1 : _ = some (Value.slice A0_1 l0_1.length c0_1) := (blk_cell BK162.out 1).trans rfl; have hfz9_0 := blk_frozen BK162.out 0; have hfz9_1 := blk_frozen BK162.out 1) | ((with_reducible refine gate_callee (f := 20) rfl ?_); refine goesL_ (some 6) rfl rfl Try.func20 (by kernel_rfl) rfl #[.slice A0_0 l0_0.length c0_0] rfl (by (try simp only [lA, lB, lC]); first | done | rfl | (simp only [lD, lE]; rfl)) ?_; (with_reducible refine (laws_toFloat64S.calls k _ _ l0_0 t165 _ ?side1 ?side2 A2.out).mono ?_); (case side1 => exact Kd.C_below HR0_0.out (un HB.out)); (case side2 => exact HC0_0.out); rintro e w10 ⟨v166, rfl, ho0, hb⟩; refine ⟨_, rfl, ?_⟩; have HO167 := a_ (Kd.R_lower ho0 (bs HB.out)); replace BK162 := a_ (blk_below (pk BK162.out) hb); replace BK163 := a_ (blk_below (pk BK163.out) hb); replace BK164 := a_ (blk_below (pk BK164.out) hb); replace HB := a_ (below_step (by repeat first | (with_reducible first | exact HB.out | refine bz ?_ (by assumption) | apply bA | apply bN | apply bD) | exact HB.out) hb); clear hb ho0; obtain ⟨Ao11, co11, eo11⟩ := Kd.R_slice HO167.out; subst eo11; have hnb12 := NB164_163.out; have hnc12 := NB163_164.out; have hcz13_0 : _ = some (Value.slice none 0 0) := (blk_cell BK164.out 0).trans rfl; have hcz13_1 : _ = some (Value.slice none 0 0) := (blk_cell BK164.out 1).trans rfl; have hfz13_0 := blk_frozen BK164.out 0; have hfz13_1 := blk_frozen BK164.out 1; have hcz14_0 : _ = some (Value.slice A0_0 l0_0.length c0_0) := (blk_cell BK162.out 0).trans rfl; have hcz14_1 : _ = some (Value.slice A0_1 l0_1.length c0_1) := (blk_cell BK162.out 1).trans rfl; have hfz14_0 := blk_frozen BK162.out 0; have hfz14_1 := blk_frozen BK162.out 1) | ((with_reducible refine gate_callee (f := 20) rfl ?_); refine goesL_ (some 10) rfl rfl Try.func20 (by kernel_rfl) rfl #[.slice A0_1 l0_1.length c0_1] rfl (by (try simp only [lA, lB, lC]); first | done | rfl | (simp only [lD, lE]; rfl)) ?_; (with_reducible refine (laws_toFloat64S.calls k _ _ l0_1 t168 _ ?side1 ?side2 A3.out).mono ?_); (case side1 => exact Kd.C_below HR0_1.out (by repeat first | (with_reducible first | exact HB.out | refine bz ?_ (by assumption) | apply bA | apply bN | apply bD) | exact HB.out)); (case side2 => exact HC0_1.out); rintro e w15 ⟨v169, rfl, ho0, hb⟩; refine ⟨_, rfl, ?_⟩; have HO170 := a_ (Kd.R_lower (nw ho0 HO167.out) (bs HB.out)); replace HO167 := a_ (Kd.R_elder' (rk (Kd.R_mono (fr1 HO167.out BK164.out (by decide) 0 (.slice Ao11 t165.length co11)) (fun _ h_ => h_.1))) (Kd.R_base ho0) hb); replace BK162 := a_ (blk_below (g := gb162) (o := .cells #[.slice A0_0 l0_0.length c0_0, .slice A0_1 l0_1.length c0_1] 24 (0, 0)) (by refine pk ?_; refine blk_far ?_ NB162_164.out _; refine pk ?_; exact BK162.out) hb); replace BK163 := a_ (blk_below (g := gb163) (o := .cells #[.slice none 0 0, .slice none 0 0] 26 (0, 0)) (by refine pk ?_; refine blk_far ?_ NB163_164.out _; refine pk ?_; exact BK163.out) hb); replace BK164 := a_ (blk_below (g := gb164) (o := .cells #[.slice Ao11 t165.length co11, .slice none 0 0] 26 (0, 0)) (by refine pk ?_; refine blk_put (cs := #[.slice none 0 0, .slice none 0 0]) ?_ 0 _ rfl; refine pk ?_; exact BK164.out) hb); replace HB := a_ (below_step (by repeat first | (with_reducible first | exact HB.out | refine bz ?_ (by assumption) | apply bA | apply bN | apply bD) | exact HB.out) hb); clear hb ho0; obtain ⟨Ao16, co16, eo16⟩ := Kd.R_slice HO170.out; subst eo16; have hcz17_0 : _ = some (Value.slice Ao11 t165.length co11) := (blk_cell BK164.out 0).trans rfl; have hcz17_1 : _ = some (Value.slice none 0 0) := (blk_cell BK164.out 1).trans rfl; have hfz17_0 := blk_frozen BK164.out 0; have hfz17_1 := blk_frozen BK164.out 1; have hcz18_0 : _ = some (Value.slice none 0 0) := (blk_cell BK163.out 0).trans rfl; have hcz18_1 : _ = some (Value.slice none 0 0) := (blk_cell BK163.out 1).trans rfl; have hfz18_0 := blk_frozen BK163.out 0; have hfz18_1 := blk_frozen BK163.out 1))
 refine bodyPost_ret (results_cell_row rfl _ _ gb163 26 #[.slice Ao11 t165.length co11, .slice Ao16 t168.length co16] (0, 0) _ rfl (by refine pk ?_; refine blk_put (cs := #[.slice Ao11 t165.length co11, .slice none 0 0]) ?_ 1 _ rfl; refine pk ?_; refine blk_put (cs := #[.slice none 0 0, .slice none 0 0]) ?_ 0 _ rfl; refine pk ?_; refine blk_far ?_ NB163_164.out _; refine pk ?_; exact BK163.out) Try.underlying26 rfl (by kernel_rfl)) rfl ?_
 exact ⟨_, _, by first | rfl | (simp [errW_none, errW_some] <;> rfl) | (simp [*, errW_none, errW_some] <;> rfl), by refine rk ?_; exact Kd.R_mono (Kd.R_far (p := ⟨gb163, 1, none⟩) (Kd.R_far (p := ⟨gb163, 0, none⟩) (Kd.R_far (p := ⟨gb164, 1, none⟩) (Kd.R_types (Kd.R_types HO167.out BK164.out (by decide)) BK163.out (by decide)) (fun _ hk => hk.1.2) (.slice Ao16 t168.length co16)) (fun _ hk => hk.2) (.slice Ao11 t165.length co11)) (fun _ hk => hk.2) (.slice Ao16 t168.length co16)) (fun _ hk => hk.1.1.2), by refine rk ?_; exact Kd.R_mono (Kd.R_far (p := ⟨gb163, 1, none⟩) (Kd.R_far (p := ⟨gb163, 0, none⟩) (Kd.R_far (p := ⟨gb164, 1, none⟩) (Kd.R_types (Kd.R_types HO170.out BK164.out (by decide)) BK163.out (by decide)) (fun _ hk => hk.1.2) (.slice Ao16 t168.length co16)) (fun _ hk => hk.2) (.slice Ao11 t165.length co11)) (fun _ hk => hk.2) (.slice Ao16 t168.length co16)) (fun _ hk => hk.1.1.2), by repeat first | (with_reducible first | exact HB.out | refine bz ?_ (by assumption) | apply bA | apply bN | apply bD) | exact HB.out⟩

/-! ### impl_finite: function 43 -/
def impl_finite.f (a0 : Nat) : Option (Bool) := (math_IsNaN.f a0).bind fun t171 => (if t171 = true then (some false) else ((math_IsInf.f a0 0).bind fun t172 => (some (!t172))))
set_option maxHeartbeats 8000000 in
set_option maxRecDepth 100000 in
theorem impl_finite.calls (a0 : Nat) (r : Bool) (w : World) (h : impl_finite.f a0 = some r) :
  Calls Try.prog 43 #[.float .f64 a0] w fun e w' => e = .returned (.bool r) ∧ Drawn0 w w' := by
 have H : ((math_IsNaN.f a0).bind fun t171 => (if t171 = true then (some false) else ((math_IsInf.f a0 0).bind fun t172 => (some (!t172))))) = some r := h
 clear h
 replace H := Option.bind_eq_some_iff.mp H
 obtain ⟨t171, A20, H⟩ := H
 have A2 := Aside0.mk A20
 clear A20
 by_cases c3 : t171 = true
 ·subst c3
  have H1 : (some false) = some r := by rw [if_pos rfl] at H; exact H
  clear H
  have H := H1
  clear H1
  obtain rfl := Option.some.inj H
  go_enter Try.func43, Try.ntmps43
  go_wp2_with (first | ((with_reducible refine gate_callee (f := 40) rfl ?_); refine goesL_ (some 4) rfl rfl Try.func40 (by kernel_rfl) rfl #[.float .f64 a0] rfl (by (try simp only [lA, lB, lC]); first | done | rfl | (simp only [lD, lE]; rfl)) ?_; (with_reducible refine (math_IsNaN.calls a0 true _ A2.out).mono ?_); rintro e w' ⟨rfl, ⟨nd, rfl⟩⟩; refine ⟨_, rfl, ?_⟩))
  go_ret
  exact ⟨by first | rfl | (simp; done) | (simp [*]; done), by repeat (first | exact Drawn0.refl _ | apply Drawn0.step)⟩
 ·replace c3 := Bool.eq_false_iff.mpr c3
  subst c3
  have H1 : ((math_IsInf.f a0 0).bind fun t172 => (some (!t172))) = some r := by rw [if_neg (show ¬ (false = true) by decide)] at H; exact H
  clear H
  have H := H1
  clear H1
  replace H := Option.bind_eq_some_iff.mp H
  obtain ⟨t172, A40, H⟩ := H
  have A4 := Aside0.mk A40
  clear A40
  obtain rfl := Option.some.inj H
  go_enter Try.func43, Try.ntmps43
  go_wp2_with (first | ((with_reducible refine gate_callee (f := 40) rfl ?_); refine goesL_ (some 4) rfl rfl Try.func40 (by kernel_rfl) rfl #[.float .f64 a0] rfl (by (try simp only [lA, lB, lC]); first | done | rfl | (simp only [lD, lE]; rfl)) ?_; (with_reducible refine (math_IsNaN.calls a0 false _ A2.out).mono ?_); rintro e w' ⟨rfl, ⟨nd, rfl⟩⟩; refine ⟨_, rfl, ?_⟩) | (go_at_call 41; (with_reducible refine (math_IsInf.calls a0 0 t172 _ A4.out).mono ?_); rintro e w' ⟨rfl, ⟨nd, rfl⟩⟩))
  go_ret
  exact ⟨by first | rfl | (simp; done) | (simp [*]; done), by repeat (first | exact Drawn0.refl _ | apply Drawn0.step)⟩

/-! ### impl_GoodReal: function 34 -/
def impl_GoodReal.f (a0 : Nat) : Option (Bool) := (impl_finite.f a0).bind fun t173 => (if t173 = true then (if (FloatKind.f64.format.order a0 (0 : Nat) == some Ordering.eq) = true then ((math_Signbit.f a0).bind fun t174 => (some (!t174))) else (some (!false))) else (some false))
set_option maxHeartbeats 8000000 in
set_option maxRecDepth 100000 in
theorem impl_GoodReal.calls (a0 : Nat) (r : Bool) (w : World) (h : impl_GoodReal.f a0 = some r) :
  Calls Try.prog 34 #[.float .f64 a0] w fun e w' => e = .returned (.bool r) ∧ Drawn0 w w' := by
 have H : ((impl_finite.f a0).bind fun t173 => (if t173 = true then (if (FloatKind.f64.format.order a0 (0 : Nat) == some Ordering.eq) = true then ((math_Signbit.f a0).bind fun t174 => (some (!t174))) else (some (!false))) else (some false))) = some r := h
 clear h
 replace H := Option.bind_eq_some_iff.mp H
 obtain ⟨t173, A20, H⟩ := H
 have A2 := Aside0.mk A20
 clear A20
 by_cases c3 : t173 = true
 ·subst c3
  have H1 : (if (FloatKind.f64.format.order a0 (0 : Nat) == some Ordering.eq) = true then ((math_Signbit.f a0).bind fun t174 => (some (!t174))) else (some (!false))) = some r := by rw [if_pos rfl] at H; exact H
  clear H
  have H := H1
  clear H1
  by_cases c4 : (FloatKind.f64.format.order a0 (0 : Nat) == some Ordering.eq) = true
  ·rw [if_pos c4] at H
   have c4b0 : (FloatKind.f64.format.order a0 (0 : Nat) == some Ordering.eq) = true := c4
   (try (have c4b1 : decide (FloatKind.f64.format.order a0 (0 : Nat) = some Ordering.eq) = true := by simpa using c4))
   (try (have c4b2 : (FloatKind.f64.format.order a0 (0 : Nat) == some Ordering.eq) = true := by simpa using c4))
   clear c4
   replace H := Option.bind_eq_some_iff.mp H
   obtain ⟨t174, A50, H⟩ := H
   have A5 := Aside0.mk A50
   clear A50
   obtain rfl := Option.some.inj H
   go_enter Try.func34, Try.ntmps34
   go_wp2_with (first | ((with_reducible refine gate_callee (f := 43) rfl ?_); refine goesL_ (some 4) rfl rfl Try.func43 (by kernel_rfl) rfl #[.float .f64 a0] rfl (by (try simp only [lA, lB, lC]); first | done | rfl | (simp only [lD, lE]; rfl)) ?_; (with_reducible refine (impl_finite.calls a0 true _ A2.out).mono ?_); rintro e w' ⟨rfl, ⟨nd, rfl⟩⟩; refine ⟨_, rfl, ?_⟩) | (go_at_call 42; (with_reducible refine (math_Signbit.calls a0 t174 _ A5.out).mono ?_); rintro e w' ⟨rfl, ⟨nd, rfl⟩⟩))
   go_ret
   exact ⟨by first | rfl | (simp; done) | (simp [*]; done), by repeat (first | exact Drawn0.refl _ | apply Drawn0.step)⟩
  ·rw [if_neg c4] at H
   have c4b0 : (FloatKind.f64.format.order a0 (0 : Nat) == some Ordering.eq) = false := by simpa using c4
   (try (have c4b1 : decide (FloatKind.f64.format.order a0 (0 : Nat) = some Ordering.eq) = false := by simpa using c4))
   (try (have c4b2 : (FloatKind.f64.format.order a0 (0 : Nat) == some Ordering.eq) = false := by simpa using c4))
   (try (have c4b3 : ¬ (FloatKind.f64.format.order a0 (0 : Nat) = some Ordering.eq) := by simpa using c4))
   clear c4
   obtain rfl := Option.some.inj H
   go_enter Try.func34, Try.ntmps34
   go_wp2_with (first | ((with_reducible refine gate_callee (f := 43) rfl ?_); refine goesL_ (some 4) rfl rfl Try.func43 (by kernel_rfl) rfl #[.float .f64 a0] rfl (by (try simp only [lA, lB, lC]); first | done | rfl | (simp only [lD, lE]; rfl)) ?_; (with_reducible refine (impl_finite.calls a0 true _ A2.out).mono ?_); rintro e w' ⟨rfl, ⟨nd, rfl⟩⟩; refine ⟨_, rfl, ?_⟩))
   go_ret
   exact ⟨by first | rfl | (simp; done) | (simp [*]; done), by repeat (first | exact Drawn0.refl _ | apply Drawn0.step)⟩
 ·replace c3 := Bool.eq_false_iff.mpr c3
  subst c3
  have H1 : (some false) = some r := by rw [if_neg (show ¬ (false = true) by decide)] at H; exact H
  clear H
  have H := H1
  clear H1
  obtain rfl := Option.some.inj H
  go_enter Try.func34, Try.ntmps34
  go_wp2_with (first | ((with_reducible refine gate_callee (f := 43) rfl ?_); refine goesL_ (some 4) rfl rfl Try.func43 (by kernel_rfl) rfl #[.float .f64 a0] rfl (by (try simp only [lA, lB, lC]); first | done | rfl | (simp only [lD, lE]; rfl)) ?_; (with_reducible refine (impl_finite.calls a0 false _ A2.out).mono ?_); rintro e w' ⟨rfl, ⟨nd, rfl⟩⟩; refine ⟨_, rfl, ?_⟩))
  go_ret
  exact ⟨by first | rfl | (simp; done) | (simp [*]; done), by repeat (first | exact Drawn0.refl _ | apply Drawn0.step)⟩

end Go.Proofs.Ytacdmlnhpjnonaa.PFnExactBoxHull
