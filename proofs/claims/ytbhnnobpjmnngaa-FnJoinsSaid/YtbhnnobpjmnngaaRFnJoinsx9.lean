-- Written by a program of this session out of the loaded functions' print; helper lemmas as print.sh lays them.
import Derived.Test.YtbhnnobpjmnngaaUp2
import Derived.Test.YtbhnnobpjmnngaaUp
import Derived.Test.YtbhnnobpjmnngaaRFnJoinsx0
namespace Go.Proofs.Ytbhnnobpjmnngaa.PFnJoins
open Go.RowKit Go.Proofs.YtbhnnobpjmnngaaW.PrintWords Go.Proofs.YtbhnnobpjmnngaaW.PrintLast Go.Proofs.YtbhnnobpjmnngaaW.PrintMore
attribute [local go_sem] max2_int min2_int max_two min_two max_three min_three max_four min_four go_fstore go_fneg go_fadd go_fsub go_fmul go_fquo go_fmax go_fmin go_fconv go_bits go_frombits  -- for this text's walks alone
set_option linter.unusedVariables false
set_option linter.unusedSimpArgs false

/-! ### laws_zEdges: function 8 -/
mutual
def laws_zEdges.j0 : Nat → Bool → List Nat → List Nat → List Nat → List Nat → List Nat → List Nat → Option (Bool)
 | 0, _, _, _, _, _, _, _ => none
 | k + 1, x24, x405000, x405001, x406000, x406001, x407000, x407001 => if x24 = true then (some false) else (laws_zEdges.l0 k x407000 (x407000.length : Int) 0 x405000 x405001 x406000 x406001 x407000 x407001)
def laws_zEdges.l0 : Nat → List Nat → Int → Int → List Nat → List Nat → List Nat → List Nat → List Nat → List Nat → Option (Bool)
 | 0, _, _, _, _, _, _, _, _, _ => none
 | k + 1, x26, x27, x28, x405000, x405001, x406000, x406001, x407000, x407001 => if x28 < x27 then (if 0 ≤ x28 then (if x28 < (x26.length : Int) then (if x28 < (x405000.length : Int) then (if (FloatKind.f64.format.order (rdOf (0 : Nat) x26 x28) (rdOf (0 : Nat) x405000 x28) != some Ordering.eq) = true then (if x28 < (x406000.length : Int) then (if (FloatKind.f64.format.order (rdOf (0 : Nat) x26 x28) (rdOf (0 : Nat) x406000 x28) != some Ordering.eq) = true then (some false) else (if x28 < (x407001.length : Int) then (if x28 < (x405001.length : Int) then (if (FloatKind.f64.format.order (rdOf (0 : Nat) x407001 x28) (rdOf (0 : Nat) x405001 x28) != some Ordering.eq) = true then (if x28 < (x406001.length : Int) then (if (FloatKind.f64.format.order (rdOf (0 : Nat) x407001 x28) (rdOf (0 : Nat) x406001 x28) != some Ordering.eq) = true then (some false) else (laws_zEdges.l0 k x26 x27 (wrap64 (x28 + 1)) x405000 x405001 x406000 x406001 x407000 x407001)) else (none)) else (laws_zEdges.l0 k x26 x27 (wrap64 (x28 + 1)) x405000 x405001 x406000 x406001 x407000 x407001)) else (none)) else (none))) else (none)) else (if x28 < (x407001.length : Int) then (if x28 < (x405001.length : Int) then (if (FloatKind.f64.format.order (rdOf (0 : Nat) x407001 x28) (rdOf (0 : Nat) x405001 x28) != some Ordering.eq) = true then (if x28 < (x406001.length : Int) then (if (FloatKind.f64.format.order (rdOf (0 : Nat) x407001 x28) (rdOf (0 : Nat) x406001 x28) != some Ordering.eq) = true then (some false) else (laws_zEdges.l0 k x26 x27 (wrap64 (x28 + 1)) x405000 x405001 x406000 x406001 x407000 x407001)) else (none)) else (laws_zEdges.l0 k x26 x27 (wrap64 (x28 + 1)) x405000 x405001 x406000 x406001 x407000 x407001)) else (none)) else (none))) else (none)) else (none)) else (none)) else (some true)
end
def laws_zEdges.f (k : Nat) (l0_0 : List Nat) (l0_1 : List Nat) (l1_0 : List Nat) (l1_1 : List Nat) (l2_0 : List Nat) (l2_1 : List Nat) : Option (Bool) := if (l2_0.length : Int) = (l0_0.length : Int) then (laws_zEdges.j0 k ((l2_1.length : Int) != (l0_1.length : Int)) l0_0 l0_1 l1_0 l1_1 l2_0 l2_1) else (laws_zEdges.j0 k true l0_0 l0_1 l1_0 l1_1 l2_0 l2_1)
theorem laws_zEdges.mono_l : ∀ k, (∀ y0 y1 y2 y3 y4 y5 y6, LeO (laws_zEdges.j0 k y0 y1 y2 y3 y4 y5 y6) (laws_zEdges.j0 (k + 1) y0 y1 y2 y3 y4 y5 y6)) ∧ (∀ y0 y1 y2 y3 y4 y5 y6 y7 y8, LeO (laws_zEdges.l0 k y0 y1 y2 y3 y4 y5 y6 y7 y8) (laws_zEdges.l0 (k + 1) y0 y1 y2 y3 y4 y5 y6 y7 y8))
 | 0 => ⟨fun _ _ _ _ _ _ _ r h => by simp [laws_zEdges.j0] at h, fun _ _ _ _ _ _ _ _ _ r h => by simp [laws_zEdges.l0] at h⟩
 | k + 1 => by
  obtain ⟨ih0, ih1⟩ := laws_zEdges.mono_l k
  refine ⟨?_, ?_⟩
  ·intro y0 y1 y2 y3 y4 y5 y6
   unfold laws_zEdges.j0
   repeat' first
   | (with_reducible exact ih0 _ _ _ _ _ _ _)
   | (with_reducible exact ih1 _ _ _ _ _ _ _ _ _)
   | (with_reducible exact LeO.refl _)
   | (with_reducible exact LeO.none _)
   | (with_reducible refine LeO.ite ?_ ?_)
   | (with_reducible refine LeO.bind ?_ (fun _ => ?_))
   | exact ih0 _ _ _ _ _ _ _
   | exact ih1 _ _ _ _ _ _ _ _ _
   | exact LeO.none _
   | refine LeO.ite ?_ ?_
   | refine LeO.bind ?_ (fun _ => ?_)
  ·intro y0 y1 y2 y3 y4 y5 y6 y7 y8
   unfold laws_zEdges.l0
   repeat' first
   | (with_reducible exact ih0 _ _ _ _ _ _ _)
   | (with_reducible exact ih1 _ _ _ _ _ _ _ _ _)
   | (with_reducible exact LeO.refl _)
   | (with_reducible exact LeO.none _)
   | (with_reducible refine LeO.ite ?_ ?_)
   | (with_reducible refine LeO.bind ?_ (fun _ => ?_))
   | exact ih0 _ _ _ _ _ _ _
   | exact ih1 _ _ _ _ _ _ _ _ _
   | exact LeO.none _
   | refine LeO.ite ?_ ?_
   | refine LeO.bind ?_ (fun _ => ?_)
theorem laws_zEdges.mono : ∀ a0 a1 a2 a3 a4 a5 k, LeO (laws_zEdges.f k a0 a1 a2 a3 a4 a5) (laws_zEdges.f (k + 1) a0 a1 a2 a3 a4 a5) := by
 intro a0 a1 a2 a3 a4 a5 k
 obtain ⟨ih0, ih1⟩ := laws_zEdges.mono_l k
 unfold laws_zEdges.f
 repeat' first
   | (with_reducible exact ih0 _ _ _ _ _ _ _)
   | (with_reducible exact ih1 _ _ _ _ _ _ _ _ _)
   | (with_reducible exact LeO.refl _)
   | (with_reducible exact LeO.none _)
   | (with_reducible refine LeO.ite ?_ ?_)
   | (with_reducible refine LeO.bind ?_ (fun _ => ?_))
   | exact ih0 _ _ _ _ _ _ _
   | exact ih1 _ _ _ _ _ _ _ _ _
   | exact LeO.none _
   | refine LeO.ite ?_ ?_
   | refine LeO.bind ?_ (fun _ => ?_)
set_option maxHeartbeats 8000000 in
set_option maxRecDepth 100000 in
theorem laws_zEdges.calls (k : Nat) (A0_0 : Option Addr) (c0_0 : Nat) (l0_0 : List Nat) (A0_1 : Option Addr) (c0_1 : Nat) (l0_1 : List Nat) (A1_0 : Option Addr) (c1_0 : Nat) (l1_0 : List Nat) (A1_1 : Option Addr) (c1_1 : Nat) (l1_1 : List Nat) (A2_0 : Option Addr) (c2_0 : Nat) (l2_0 : List Nat) (A2_1 : Option Addr) (c2_1 : Nat) (l2_1 : List Nat) (r : Bool) (w : World) (hr0_0 : Kd.C Kd.flt w A0_0 l0_0.length l0_0) (hc0_0 : l0_0.length ≤ c0_0) (hr0_1 : Kd.C Kd.flt w A0_1 l0_1.length l0_1) (hc0_1 : l0_1.length ≤ c0_1) (hr1_0 : Kd.C Kd.flt w A1_0 l1_0.length l1_0) (hc1_0 : l1_0.length ≤ c1_0) (hr1_1 : Kd.C Kd.flt w A1_1 l1_1.length l1_1) (hc1_1 : l1_1.length ≤ c1_1) (hr2_0 : Kd.C Kd.flt w A2_0 l2_0.length l2_0) (hc2_0 : l2_0.length ≤ c2_0) (hr2_1 : Kd.C Kd.flt w A2_1 l2_1.length l2_1) (hc2_1 : l2_1.length ≤ c2_1) (h : laws_zEdges.f k l0_0 l0_1 l1_0 l1_1 l2_0 l2_1 = some r) :
  Calls Try.prog 8 #[.agg #[.slice A0_0 l0_0.length c0_0, .slice A0_1 l0_1.length c0_1], .agg #[.slice A1_0 l1_0.length c1_0, .slice A1_1 l1_1.length c1_1], .agg #[.slice A2_0 l2_0.length c2_0, .slice A2_1 l2_1.length c2_1]] w fun e w' => e = .returned (.bool r) ∧ Below w.heap.size w w' := by
 have hu25 := Try.underlying25
 have HR0_0 := Aside0.mk hr0_0
 have HC0_0 := Aside0.mk hc0_0
 clear hr0_0 hc0_0
 have HR0_1 := Aside0.mk hr0_1
 have HC0_1 := Aside0.mk hc0_1
 clear hr0_1 hc0_1
 have HR1_0 := Aside0.mk hr1_0
 have HC1_0 := Aside0.mk hc1_0
 clear hr1_0 hc1_0
 have HR1_1 := Aside0.mk hr1_1
 have HC1_1 := Aside0.mk hc1_1
 clear hr1_1 hc1_1
 have HR2_0 := Aside0.mk hr2_0
 have HC2_0 := Aside0.mk hc2_0
 clear hr2_0 hc2_0
 have HR2_1 := Aside0.mk hr2_1
 have HC2_1 := Aside0.mk hc2_1
 clear hr2_1 hc2_1
 have HB := a_ (Below.refl w.heap.size w)
 have H : (if (l2_0.length : Int) = (l0_0.length : Int) then (laws_zEdges.j0 k ((l2_1.length : Int) != (l0_1.length : Int)) l0_0 l0_1 l1_0 l1_1 l2_0 l2_1) else (laws_zEdges.j0 k true l0_0 l0_1 l1_0 l1_1 l2_0 l2_1)) = some r := h
 clear h
 have HC4 := Aside0.mk H
 clear H
 go_enter Try.func8, Try.ntmps8
 go_upto_region 1 with (first | ((with_reducible refine gate_dst (N := 3) rfl ?_); (try (refine gate_guard (by rfl) ?_; dsimp only)); refine box_event ?hg (N := 3) ?hd (cs := #[.slice A0_0 l0_0.length c0_0, .slice A0_1 l0_1.length c0_1]) (t := 25) ?hr ?_; (case hd => rfl); (case hg => rfl); (case hr => first | (go_simp; done) | (go_simp; rfl)); intro gb404 hg w5 hbox hb; have BK404 := a_ (hbox); have GW404 := a_ (bsg hg HB.out); have GE404 := a_ (bsg hg HB.out); replace HB := a_ (below_step (un HB.out) hb); clear hb hbox hg) | ((with_reducible refine gate_dst (N := 4) rfl ?_); (try (refine gate_guard (by rfl) ?_; dsimp only)); refine box_event ?hg (N := 4) ?hd (cs := #[.slice A1_0 l1_0.length c1_0, .slice A1_1 l1_1.length c1_1]) (t := 25) ?hr ?_; (case hd => rfl); (case hg => rfl); (case hr => first | (go_simp; done) | (go_simp; rfl)); intro gb405 hg w6 hbox hb; have BK405 := a_ (hbox); have GW405 := a_ (bsg hg HB.out); have GE405 := a_ (bsg hg HB.out); replace HB := a_ (below_step (by repeat (with_reducible first | exact HB.out | refine bz ?_ (by assumption) | apply bA | apply bN | apply bD)) hb); have NB404_405 := a_ (nel hg BK404.out); have NB405_404 := a_ (nle hg BK404.out); replace BK404 := a_ (blk_below (pk BK404.out) hb); clear hb hbox hg) | ((with_reducible refine gate_dst (N := 5) rfl ?_); (try (refine gate_guard (by rfl) ?_; dsimp only)); refine box_event ?hg (N := 5) ?hd (cs := #[.slice A2_0 l2_0.length c2_0, .slice A2_1 l2_1.length c2_1]) (t := 25) ?hr ?_; (case hd => rfl); (case hg => rfl); (case hr => first | (go_simp; done) | (go_simp; rfl)); intro gb406 hg w7 hbox hb; have BK406 := a_ (hbox); have GW406 := a_ (bsg hg HB.out); have GE406 := a_ (bsg hg HB.out); replace HB := a_ (below_step (by repeat (with_reducible first | exact HB.out | refine bz ?_ (by assumption) | apply bA | apply bN | apply bD)) hb); have NB404_406 := a_ (nel hg BK404.out); have NB406_404 := a_ (nle hg BK404.out); replace BK404 := a_ (blk_below (pk BK404.out) hb); have NB405_406 := a_ (nel hg BK405.out); have NB406_405 := a_ (nle hg BK405.out); replace BK405 := a_ (blk_below (pk BK405.out) hb); clear hb hbox hg))
 repeat (go_quiet (first | ((with_reducible refine gate_dst (N := 3) rfl ?_); (try (refine gate_guard (by rfl) ?_; dsimp only)); refine box_event ?hg (N := 3) ?hd (cs := #[.slice A0_0 l0_0.length c0_0, .slice A0_1 l0_1.length c0_1]) (t := 25) ?hr ?_; (case hd => rfl); (case hg => rfl); (case hr => first | (go_simp; done) | (go_simp; rfl)); intro gb404 hg w5 hbox hb; have BK404 := a_ (hbox); have GW404 := a_ (bsg hg HB.out); have GE404 := a_ (bsg hg HB.out); replace HB := a_ (below_step (un HB.out) hb); clear hb hbox hg) | ((with_reducible refine gate_dst (N := 4) rfl ?_); (try (refine gate_guard (by rfl) ?_; dsimp only)); refine box_event ?hg (N := 4) ?hd (cs := #[.slice A1_0 l1_0.length c1_0, .slice A1_1 l1_1.length c1_1]) (t := 25) ?hr ?_; (case hd => rfl); (case hg => rfl); (case hr => first | (go_simp; done) | (go_simp; rfl)); intro gb405 hg w6 hbox hb; have BK405 := a_ (hbox); have GW405 := a_ (bsg hg HB.out); have GE405 := a_ (bsg hg HB.out); replace HB := a_ (below_step (by repeat (with_reducible first | exact HB.out | refine bz ?_ (by assumption) | apply bA | apply bN | apply bD)) hb); have NB404_405 := a_ (nel hg BK404.out); have NB405_404 := a_ (nle hg BK404.out); replace BK404 := a_ (blk_below (pk BK404.out) hb); clear hb hbox hg) | ((with_reducible refine gate_dst (N := 5) rfl ?_); (try (refine gate_guard (by rfl) ?_; dsimp only)); refine box_event ?hg (N := 5) ?hd (cs := #[.slice A2_0 l2_0.length c2_0, .slice A2_1 l2_1.length c2_1]) (t := 25) ?hr ?_; (case hd => rfl); (case hg => rfl); (case hr => first | (go_simp; done) | (go_simp; rfl)); intro gb406 hg w7 hbox hb; have BK406 := a_ (hbox); have GW406 := a_ (bsg hg HB.out); have GE406 := a_ (bsg hg HB.out); replace HB := a_ (below_step (by repeat (with_reducible first | exact HB.out | refine bz ?_ (by assumption) | apply bA | apply bN | apply bD)) hb); have NB404_406 := a_ (nel hg BK404.out); have NB406_404 := a_ (nle hg BK404.out); replace BK404 := a_ (blk_below (pk BK404.out) hb); have NB405_406 := a_ (nel hg BK405.out); have NB406_405 := a_ (nle hg BK405.out); replace BK405 := a_ (blk_below (pk BK405.out) hb); clear hb hbox hg)); go_upto_region 1 with (first | ((with_reducible refine gate_dst (N := 3) rfl ?_); (try (refine gate_guard (by rfl) ?_; dsimp only)); refine box_event ?hg (N := 3) ?hd (cs := #[.slice A0_0 l0_0.length c0_0, .slice A0_1 l0_1.length c0_1]) (t := 25) ?hr ?_; (case hd => rfl); (case hg => rfl); (case hr => first | (go_simp; done) | (go_simp; rfl)); intro gb404 hg w5 hbox hb; have BK404 := a_ (hbox); have GW404 := a_ (bsg hg HB.out); have GE404 := a_ (bsg hg HB.out); replace HB := a_ (below_step (un HB.out) hb); clear hb hbox hg) | ((with_reducible refine gate_dst (N := 4) rfl ?_); (try (refine gate_guard (by rfl) ?_; dsimp only)); refine box_event ?hg (N := 4) ?hd (cs := #[.slice A1_0 l1_0.length c1_0, .slice A1_1 l1_1.length c1_1]) (t := 25) ?hr ?_; (case hd => rfl); (case hg => rfl); (case hr => first | (go_simp; done) | (go_simp; rfl)); intro gb405 hg w6 hbox hb; have BK405 := a_ (hbox); have GW405 := a_ (bsg hg HB.out); have GE405 := a_ (bsg hg HB.out); replace HB := a_ (below_step (by repeat (with_reducible first | exact HB.out | refine bz ?_ (by assumption) | apply bA | apply bN | apply bD)) hb); have NB404_405 := a_ (nel hg BK404.out); have NB405_404 := a_ (nle hg BK404.out); replace BK404 := a_ (blk_below (pk BK404.out) hb); clear hb hbox hg) | ((with_reducible refine gate_dst (N := 5) rfl ?_); (try (refine gate_guard (by rfl) ?_; dsimp only)); refine box_event ?hg (N := 5) ?hd (cs := #[.slice A2_0 l2_0.length c2_0, .slice A2_1 l2_1.length c2_1]) (t := 25) ?hr ?_; (case hd => rfl); (case hg => rfl); (case hr => first | (go_simp; done) | (go_simp; rfl)); intro gb406 hg w7 hbox hb; have BK406 := a_ (hbox); have GW406 := a_ (bsg hg HB.out); have GE406 := a_ (bsg hg HB.out); replace HB := a_ (below_step (by repeat (with_reducible first | exact HB.out | refine bz ?_ (by assumption) | apply bA | apply bN | apply bD)) hb); have NB404_406 := a_ (nel hg BK404.out); have NB406_404 := a_ (nle hg BK404.out); replace BK404 := a_ (blk_below (pk BK404.out) hb); have NB405_406 := a_ (nel hg BK405.out); have NB406_405 := a_ (nle hg BK405.out); replace BK405 := a_ (blk_below (pk BK405.out) hb); clear hb hbox hg)))
 (try simp only [Act.put, sB, sC, sD])
 go_cut [24] (fun v24 wc => ∃ (kq : Nat) (x24_3 : Bool), v24 = .bool x24_3 ∧ Aside0 (laws_zEdges.j0 kq x24_3 l0_0 l0_1 l1_0 l1_1 l2_0 l2_1 = some r) ∧ Aside0 (kq ≤ k) ∧ Aside0 (wc.heap[gb404]? = some (.cells #[(.slice A0_0 l0_0.length c0_0), (.slice A0_1 l0_1.length c0_1)] 25 (0, 0))) ∧ Aside0 (wc.heap[gb405]? = some (.cells #[(.slice A1_0 l1_0.length c1_0), (.slice A1_1 l1_1.length c1_1)] 25 (0, 0))) ∧ Aside0 (wc.heap[gb406]? = some (.cells #[(.slice A2_0 l2_0.length c2_0), (.slice A2_1 l2_1.length c2_1)] 25 (0, 0))) ∧ Aside0 (Below w.heap.size w wc))
 case first =>
  have H := HC4.out
  clear HC4
  by_cases c8 : (l2_0.length : Int) = (l0_0.length : Int)
  ·rw [if_pos c8] at H
   have c8b0 : ((l2_0.length : Int) == (l0_0.length : Int)) = true := beq_iff_eq.mpr c8
   have c8b1 : ((l2_0.length : Int) != (l0_0.length : Int)) = false := bne_eq_false_iff_eq.mpr c8
   have c8b2 : (l2_0.length == l0_0.length) = true := by first | simpa using c8 | (simp at c8 ⊢; omega)
   clear c8
   (first | rw [c8b0] | (simp only [i64_w, i32_w]; rw [c8b0]) | skip)
   have H' := Aside0.mk H
   clear H
   have hnb9 := NB406_404.out
   have hnc9 := NB404_406.out
   have hnb10 := NB406_405.out
   have hnc10 := NB405_406.out
   have hcz11_0 : _ = some (Value.slice A2_0 l2_0.length c2_0) := (blk_cell BK406.out 0).trans rfl
   have hcz11_1 : _ = some (Value.slice A2_1 l2_1.length c2_1) := (blk_cell BK406.out 1).trans rfl
   have hfz11_0 := blk_frozen BK406.out 0
   have hfz11_1 := blk_frozen BK406.out 1
   have hnb12 := NB404_405.out
   have hnc12 := NB405_404.out
   have hcz13_0 : _ = some (Value.slice A0_0 l0_0.length c0_0) := (blk_cell BK404.out 0).trans rfl
   have hcz13_1 : _ = some (Value.slice A0_1 l0_1.length c0_1) := (blk_cell BK404.out 1).trans rfl
   have hfz13_0 := blk_frozen BK404.out 0
   have hfz13_1 := blk_frozen BK404.out 1
   go_wp2
   repeat (go_quiet (fail); try go_wp2)
   go_meet
   case rel => exact ⟨_, (((l2_1.length : Int) != (l0_1.length : Int))), (by first | rfl | (simp; done) | (simp [*]; done)), H', ⟨by first | omega | exact Nat.le_refl _⟩, ⟨pk BK404.out⟩, ⟨pk BK405.out⟩, ⟨pk BK406.out⟩, ⟨by repeat (with_reducible first | exact HB.out | refine bz ?_ (by assumption) | apply bA | apply bN | apply bD)⟩⟩
  ·rw [if_neg c8] at H
   have c8b0 : ((l2_0.length : Int) == (l0_0.length : Int)) = false := beq_eq_false_iff_ne.mpr c8
   have c8b1 : ((l2_0.length : Int) != (l0_0.length : Int)) = true := bne_iff_ne.mpr c8
   have c8b2 : (l2_0.length == l0_0.length) = false := by first | simpa using c8 | (simp at c8 ⊢; omega)
   (first | rw [c8b0] | (simp only [i64_w, i32_w]; rw [c8b0]) | skip)
   have H' := Aside0.mk H
   clear H
   have hnb14 := NB406_404.out
   have hnc14 := NB404_406.out
   have hnb15 := NB406_405.out
   have hnc15 := NB405_406.out
   have hcz16_0 : _ = some (Value.slice A2_0 l2_0.length c2_0) := (blk_cell BK406.out 0).trans rfl
   have hcz16_1 : _ = some (Value.slice A2_1 l2_1.length c2_1) := (blk_cell BK406.out 1).trans rfl
   have hfz16_0 := blk_frozen BK406.out 0
   have hfz16_1 := blk_frozen BK406.out 1
   have hnb17 := NB404_405.out
   have hnc17 := NB405_404.out
   have hcz18_0 : _ = some (Value.slice A0_0 l0_0.length c0_0) := (blk_cell BK404.out 0).trans rfl
   have hcz18_1 : _ = some (Value.slice A0_1 l0_1.length c0_1) := (blk_cell BK404.out 1).trans rfl
   have hfz18_0 := blk_frozen BK404.out 0
   have hfz18_1 := blk_frozen BK404.out 1
   go_wp2
   repeat (go_quiet (fail); try go_wp2)
   go_meet
   case rel => exact ⟨_, (true), (by first | rfl | (simp; done) | (simp [*]; done)), H', ⟨by first | omega | exact Nat.le_refl _⟩, ⟨pk BK404.out⟩, ⟨pk BK405.out⟩, ⟨pk BK406.out⟩, ⟨by repeat (with_reducible first | exact HB.out | refine bz ?_ (by assumption) | apply bA | apply bN | apply bD)⟩⟩
 case rest =>
  clear HC4
  try clear c1; try clear c2; try clear p2; try clear c8; try clear c8b0; try clear c8b1; try clear c8b2; try clear c9; try clear c10; try clear c12; try clear c14; try clear c15; try clear c17; try clear hcz11_0; try clear hcz11_1; try clear hcz13_0; try clear hcz13_1; try clear hcz16_0; try clear hcz16_1; try clear hcz18_0; try clear hcz18_1; try clear hfz11_0; try clear hfz11_1; try clear hfz13_0; try clear hfz13_1; try clear hfz16_0; try clear hfz16_1; try clear hfz18_0; try clear hfz18_1
  obtain ⟨kq, x24_3, rfl, HA, HJ3, BK404, BK405, BK406, HB⟩ := hcut
  cases kq with
  | zero => exact absurd HA.out (by simp [laws_zEdges.j0])
  | succ kj3 =>
   have H := HA.out
   clear HA
   simp only [laws_zEdges.j0] at H
   by_cases c19 : x24_3 = true
   ·subst c19
    have H1 : (some false) = some r := by rw [if_pos rfl] at H; exact H
    clear H
    have H := H1
    clear H1
    obtain rfl := Option.some.inj H
    go_wp2
    repeat (go_quiet (fail); try go_wp2)
    go_ret
    exact ⟨by first | rfl | (simp [errW_none, errW_some] <;> rfl) | (simp [*, errW_none, errW_some] <;> rfl), by repeat (with_reducible first | exact HB.out | refine bz ?_ (by assumption) | apply bA | apply bN | apply bD)⟩
   ·replace c19 := Bool.eq_false_iff.mpr c19
    subst c19
    have H1 : (laws_zEdges.l0 kj3 l2_0 (l2_0.length : Int) 0 l0_0 l0_1 l1_0 l1_1 l2_0 l2_1) = some r := by rw [if_neg (show ¬ (false = true) by decide)] at H; exact H
    clear H
    have H := H1
    clear H1
    have H' := Aside0.mk H
    clear H
    have hnb20 := NB406_404.out
    have hnc20 := NB404_406.out
    have hnb21 := NB406_405.out
    have hnc21 := NB405_406.out
    have hcz22_0 : wc.cell? ⟨gb406, 0, none⟩ = some (.slice A2_0 l2_0.length c2_0) := (blk_cell BK406.out 0).trans rfl
    have hcz22_1 : wc.cell? ⟨gb406, 1, none⟩ = some (.slice A2_1 l2_1.length c2_1) := (blk_cell BK406.out 1).trans rfl
    have hfz22_0 := blk_frozen BK406.out 0
    have hfz22_1 := blk_frozen BK406.out 1
    go_wp2
    repeat (go_quiet (fail); try go_wp2)
    go_loopg [28] kj3 (fun kq v28 w' => ∃ (x28_2 : Int), v28 = .int .i64 x28_2 ∧ Aside0 (laws_zEdges.l0 kq l2_0 (l2_0.length : Int) x28_2 l0_0 l0_1 l1_0 l1_1 l2_0 l2_1 = some r) ∧ Aside0 (kq ≤ kj3) ∧ Aside0 (w'.heap[gb404]? = some (.cells #[(.slice A0_0 l0_0.length c0_0), (.slice A0_1 l0_1.length c0_1)] 25 (0, 0))) ∧ Aside0 (w'.heap[gb405]? = some (.cells #[(.slice A1_0 l1_0.length c1_0), (.slice A1_1 l1_1.length c1_1)] 25 (0, 0))) ∧ Aside0 (w'.heap[gb406]? = some (.cells #[(.slice A2_0 l2_0.length c2_0), (.slice A2_1 l2_1.length c2_1)] 25 (0, 0))) ∧ Aside0 (Below w.heap.size w w'))
    case atStart => exact ⟨(0), (by first | rfl | (simp; done) | (simp [*]; done)), H', ⟨Nat.le_refl _⟩, ⟨pk BK404.out⟩, ⟨pk BK405.out⟩, ⟨pk BK406.out⟩, ⟨by repeat (with_reducible first | exact HB.out | refine bz ?_ (by assumption) | apply bA | apply bN | apply bD)⟩⟩
    case round =>
     clear H'
     try clear c1; try clear c2; try clear p2; try clear c8; try clear c8b0; try clear c8b1; try clear c8b2; try clear c9; try clear c10; try clear c12; try clear c14; try clear c15; try clear c17; try clear c19; try clear c20; try clear c21; try clear hcz11_0; try clear hcz11_1; try clear hcz13_0; try clear hcz13_1; try clear hcz16_0; try clear hcz16_1; try clear hcz18_0; try clear hcz18_1; try clear hcz22_0; try clear hcz22_1; try clear hfz11_0; try clear hfz11_1; try clear hfz13_0; try clear hfz13_1; try clear hfz16_0; try clear hfz16_1; try clear hfz18_0; try clear hfz18_1; try clear hfz22_0; try clear hfz22_1; try clear p2
     obtain ⟨x28_2, rfl, HA, HK2, BK404, BK405, BK406, HB⟩ := hrel
     cases gk with
     | zero => exact absurd HA.out (by simp [laws_zEdges.l0])
     | succ k2 =>
      have H := HA.out
      clear HA
      simp only [laws_zEdges.l0] at H
      by_cases c23 : x28_2 < (l2_0.length : Int)
      ·rw [if_pos c23] at H
       have c23b0 : decide (x28_2 < (l2_0.length : Int)) = true := decide_eq_true c23
       clear c23
       by_cases c24 : 0 ≤ x28_2
       ·rw [if_pos c24] at H
        have c24b0 : decide (0 ≤ x28_2) = true := decide_eq_true c24
        clear c24
        by_cases c25 : x28_2 < (l2_0.length : Int)
        ·rw [if_pos c25] at H
         have c25b0 : decide (x28_2 < (l2_0.length : Int)) = true := decide_eq_true c25
         clear c25
         by_cases c26 : x28_2 < (l0_0.length : Int)
         ·rw [if_pos c26] at H
          have c26b0 : decide (x28_2 < (l0_0.length : Int)) = true := decide_eq_true c26
          clear c26
          by_cases c27 : (FloatKind.f64.format.order (rdOf (0 : Nat) l2_0 x28_2) (rdOf (0 : Nat) l0_0 x28_2) != some Ordering.eq) = true
          ·rw [if_pos c27] at H
           have c27b0 : (FloatKind.f64.format.order (rdOf (0 : Nat) l2_0 x28_2) (rdOf (0 : Nat) l0_0 x28_2) != some Ordering.eq) = true := c27
           (try (have c27b1 : decide (FloatKind.f64.format.order (rdOf (0 : Nat) l2_0 x28_2) (rdOf (0 : Nat) l0_0 x28_2) = some Ordering.eq) = false := by simpa using c27))
           (try (have c27b2 : (FloatKind.f64.format.order (rdOf (0 : Nat) l2_0 x28_2) (rdOf (0 : Nat) l0_0 x28_2) == some Ordering.eq) = false := by simpa using c27))
           (try (have c27b3 : ¬ (FloatKind.f64.format.order (rdOf (0 : Nat) l2_0 x28_2) (rdOf (0 : Nat) l0_0 x28_2) = some Ordering.eq) := by simpa using c27))
           clear c27
           by_cases c28 : x28_2 < (l1_0.length : Int)
           ·rw [if_pos c28] at H
            have c28b0 : decide (x28_2 < (l1_0.length : Int)) = true := decide_eq_true c28
            clear c28
            by_cases c29 : (FloatKind.f64.format.order (rdOf (0 : Nat) l2_0 x28_2) (rdOf (0 : Nat) l1_0 x28_2) != some Ordering.eq) = true
            ·rw [if_pos c29] at H
             have c29b0 : (FloatKind.f64.format.order (rdOf (0 : Nat) l2_0 x28_2) (rdOf (0 : Nat) l1_0 x28_2) != some Ordering.eq) = true := c29
             (try (have c29b1 : decide (FloatKind.f64.format.order (rdOf (0 : Nat) l2_0 x28_2) (rdOf (0 : Nat) l1_0 x28_2) = some Ordering.eq) = false := by simpa using c29))
             (try (have c29b2 : (FloatKind.f64.format.order (rdOf (0 : Nat) l2_0 x28_2) (rdOf (0 : Nat) l1_0 x28_2) == some Ordering.eq) = false := by simpa using c29))
             (try (have c29b3 : ¬ (FloatKind.f64.format.order (rdOf (0 : Nat) l2_0 x28_2) (rdOf (0 : Nat) l1_0 x28_2) = some Ordering.eq) := by simpa using c29))
             clear c29
             obtain rfl := Option.some.inj H
             have p407 : 0 ≤ (x28_2 : Int) := of_decide_eq_true (by first | (with_reducible assumption) | assumption)
             have q407 : x28_2 < (l2_0.length : Int) := of_decide_eq_true (by first | (with_reducible assumption) | assumption)
             obtain ⟨ad407, e407, hx407_0⟩ := Kd.at_flt HR2_0.out x28_2 p407 q407
             cases e407
             replace hx407_0 := (HB.out.cell (World.block_lt_of_cell? w _ hx407_0)).trans hx407_0
             replace p407 := eq_true p407
             replace q407 := eq_true q407
             have hnb30 := NB404_405.out
             have hnc30 := NB405_404.out
             have hnb31 := NB404_406.out
             have hnc31 := NB406_404.out
             have hcz32_0 : wr.cell? ⟨gb404, 0, none⟩ = some (.slice A0_0 l0_0.length c0_0) := (blk_cell BK404.out 0).trans rfl
             have hcz32_1 : wr.cell? ⟨gb404, 1, none⟩ = some (.slice A0_1 l0_1.length c0_1) := (blk_cell BK404.out 1).trans rfl
             have hfz32_0 := blk_frozen BK404.out 0
             have hfz32_1 := blk_frozen BK404.out 1
             have p408 : 0 ≤ (x28_2 : Int) := of_decide_eq_true (by first | (with_reducible assumption) | assumption)
             have q408 : x28_2 < (l0_0.length : Int) := of_decide_eq_true (by first | (with_reducible assumption) | assumption)
             obtain ⟨ad408, e408, hx408_0⟩ := Kd.at_flt HR0_0.out x28_2 p408 q408
             cases e408
             replace hx408_0 := (HB.out.cell (World.block_lt_of_cell? w _ hx408_0)).trans hx408_0
             replace p408 := eq_true p408
             replace q408 := eq_true q408
             have hnb33 := NB405_406.out
             have hnc33 := NB406_405.out
             have hcz34_0 : wr.cell? ⟨gb405, 0, none⟩ = some (.slice A1_0 l1_0.length c1_0) := (blk_cell BK405.out 0).trans rfl
             have hcz34_1 : wr.cell? ⟨gb405, 1, none⟩ = some (.slice A1_1 l1_1.length c1_1) := (blk_cell BK405.out 1).trans rfl
             have hfz34_0 := blk_frozen BK405.out 0
             have hfz34_1 := blk_frozen BK405.out 1
             have p409 : 0 ≤ (x28_2 : Int) := of_decide_eq_true (by first | (with_reducible assumption) | assumption)
             have q409 : x28_2 < (l1_0.length : Int) := of_decide_eq_true (by first | (with_reducible assumption) | assumption)
             obtain ⟨ad409, e409, hx409_0⟩ := Kd.at_flt HR1_0.out x28_2 p409 q409
             cases e409
             replace hx409_0 := (HB.out.cell (World.block_lt_of_cell? w _ hx409_0)).trans hx409_0
             replace p409 := eq_true p409
             replace q409 := eq_true q409
             go_wp2
             repeat (go_quiet (fail); try go_wp2)
             go_ret
             exact ⟨by first | rfl | (simp [errW_none, errW_some] <;> rfl) | (simp [*, errW_none, errW_some] <;> rfl), by repeat (with_reducible first | exact HB.out | refine bz ?_ (by assumption) | apply bA | apply bN | apply bD)⟩
            ·rw [if_neg c29] at H
             have c29b0 : (FloatKind.f64.format.order (rdOf (0 : Nat) l2_0 x28_2) (rdOf (0 : Nat) l1_0 x28_2) != some Ordering.eq) = false := by simpa using c29
             (try (have c29b1 : decide (FloatKind.f64.format.order (rdOf (0 : Nat) l2_0 x28_2) (rdOf (0 : Nat) l1_0 x28_2) = some Ordering.eq) = true := by simpa using c29))
             (try (have c29b2 : (FloatKind.f64.format.order (rdOf (0 : Nat) l2_0 x28_2) (rdOf (0 : Nat) l1_0 x28_2) == some Ordering.eq) = true := by simpa using c29))
             clear c29
             by_cases c35 : x28_2 < (l2_1.length : Int)
             ·rw [if_pos c35] at H
              have c35b0 : decide (x28_2 < (l2_1.length : Int)) = true := decide_eq_true c35
              clear c35
              by_cases c36 : x28_2 < (l0_1.length : Int)
              ·rw [if_pos c36] at H
               have c36b0 : decide (x28_2 < (l0_1.length : Int)) = true := decide_eq_true c36
               clear c36
               by_cases c37 : (FloatKind.f64.format.order (rdOf (0 : Nat) l2_1 x28_2) (rdOf (0 : Nat) l0_1 x28_2) != some Ordering.eq) = true
               ·rw [if_pos c37] at H
                have c37b0 : (FloatKind.f64.format.order (rdOf (0 : Nat) l2_1 x28_2) (rdOf (0 : Nat) l0_1 x28_2) != some Ordering.eq) = true := c37
                (try (have c37b1 : decide (FloatKind.f64.format.order (rdOf (0 : Nat) l2_1 x28_2) (rdOf (0 : Nat) l0_1 x28_2) = some Ordering.eq) = false := by simpa using c37))
                (try (have c37b2 : (FloatKind.f64.format.order (rdOf (0 : Nat) l2_1 x28_2) (rdOf (0 : Nat) l0_1 x28_2) == some Ordering.eq) = false := by simpa using c37))
                (try (have c37b3 : ¬ (FloatKind.f64.format.order (rdOf (0 : Nat) l2_1 x28_2) (rdOf (0 : Nat) l0_1 x28_2) = some Ordering.eq) := by simpa using c37))
                clear c37
                by_cases c38 : x28_2 < (l1_1.length : Int)
                ·rw [if_pos c38] at H
                 have c38b0 : decide (x28_2 < (l1_1.length : Int)) = true := decide_eq_true c38
                 clear c38
                 by_cases c39 : (FloatKind.f64.format.order (rdOf (0 : Nat) l2_1 x28_2) (rdOf (0 : Nat) l1_1 x28_2) != some Ordering.eq) = true
                 ·rw [if_pos c39] at H
                  have c39b0 : (FloatKind.f64.format.order (rdOf (0 : Nat) l2_1 x28_2) (rdOf (0 : Nat) l1_1 x28_2) != some Ordering.eq) = true := c39
                  (try (have c39b1 : decide (FloatKind.f64.format.order (rdOf (0 : Nat) l2_1 x28_2) (rdOf (0 : Nat) l1_1 x28_2) = some Ordering.eq) = false := by simpa using c39))
                  (try (have c39b2 : (FloatKind.f64.format.order (rdOf (0 : Nat) l2_1 x28_2) (rdOf (0 : Nat) l1_1 x28_2) == some Ordering.eq) = false := by simpa using c39))
                  (try (have c39b3 : ¬ (FloatKind.f64.format.order (rdOf (0 : Nat) l2_1 x28_2) (rdOf (0 : Nat) l1_1 x28_2) = some Ordering.eq) := by simpa using c39))
                  clear c39
                  obtain rfl := Option.some.inj H
                  have p407 : 0 ≤ (x28_2 : Int) := of_decide_eq_true (by first | (with_reducible assumption) | assumption)
                  have q407 : x28_2 < (l2_0.length : Int) := of_decide_eq_true (by first | (with_reducible assumption) | assumption)
                  obtain ⟨ad407, e407, hx407_0⟩ := Kd.at_flt HR2_0.out x28_2 p407 q407
                  cases e407
                  replace hx407_0 := (HB.out.cell (World.block_lt_of_cell? w _ hx407_0)).trans hx407_0
                  replace p407 := eq_true p407
                  replace q407 := eq_true q407
                  have hnb40 := NB404_405.out
                  have hnc40 := NB405_404.out
                  have hnb41 := NB404_406.out
                  have hnc41 := NB406_404.out
                  have hcz42_0 : wr.cell? ⟨gb404, 0, none⟩ = some (.slice A0_0 l0_0.length c0_0) := (blk_cell BK404.out 0).trans rfl
                  have hcz42_1 : wr.cell? ⟨gb404, 1, none⟩ = some (.slice A0_1 l0_1.length c0_1) := (blk_cell BK404.out 1).trans rfl
                  have hfz42_0 := blk_frozen BK404.out 0
                  have hfz42_1 := blk_frozen BK404.out 1
                  have p408 : 0 ≤ (x28_2 : Int) := of_decide_eq_true (by first | (with_reducible assumption) | assumption)
                  have q408 : x28_2 < (l0_0.length : Int) := of_decide_eq_true (by first | (with_reducible assumption) | assumption)
                  obtain ⟨ad408, e408, hx408_0⟩ := Kd.at_flt HR0_0.out x28_2 p408 q408
                  cases e408
                  replace hx408_0 := (HB.out.cell (World.block_lt_of_cell? w _ hx408_0)).trans hx408_0
                  replace p408 := eq_true p408
                  replace q408 := eq_true q408
                  have hnb43 := NB405_406.out
                  have hnc43 := NB406_405.out
                  have hcz44_0 : wr.cell? ⟨gb405, 0, none⟩ = some (.slice A1_0 l1_0.length c1_0) := (blk_cell BK405.out 0).trans rfl
                  have hcz44_1 : wr.cell? ⟨gb405, 1, none⟩ = some (.slice A1_1 l1_1.length c1_1) := (blk_cell BK405.out 1).trans rfl
                  have hfz44_0 := blk_frozen BK405.out 0
                  have hfz44_1 := blk_frozen BK405.out 1
                  have p409 : 0 ≤ (x28_2 : Int) := of_decide_eq_true (by first | (with_reducible assumption) | assumption)
                  have q409 : x28_2 < (l1_0.length : Int) := of_decide_eq_true (by first | (with_reducible assumption) | assumption)
                  obtain ⟨ad409, e409, hx409_0⟩ := Kd.at_flt HR1_0.out x28_2 p409 q409
                  cases e409
                  replace hx409_0 := (HB.out.cell (World.block_lt_of_cell? w _ hx409_0)).trans hx409_0
                  replace p409 := eq_true p409
                  replace q409 := eq_true q409
                  have hcz45_0 : wr.cell? ⟨gb406, 0, none⟩ = some (.slice (some ad407) l2_0.length c2_0) := (blk_cell BK406.out 0).trans rfl
                  have hcz45_1 : wr.cell? ⟨gb406, 1, none⟩ = some (.slice A2_1 l2_1.length c2_1) := (blk_cell BK406.out 1).trans rfl
                  have hfz45_0 := blk_frozen BK406.out 0
                  have hfz45_1 := blk_frozen BK406.out 1
                  have p410 : 0 ≤ (x28_2 : Int) := of_decide_eq_true (by first | (with_reducible assumption) | assumption)
                  have q410 : x28_2 < (l2_1.length : Int) := of_decide_eq_true (by first | (with_reducible assumption) | assumption)
                  obtain ⟨ad410, e410, hx410_0⟩ := Kd.at_flt HR2_1.out x28_2 p410 q410
                  cases e410
                  replace hx410_0 := (HB.out.cell (World.block_lt_of_cell? w _ hx410_0)).trans hx410_0
                  replace p410 := eq_true p410
                  replace q410 := eq_true q410
                  have p411 : 0 ≤ (x28_2 : Int) := of_decide_eq_true (by first | (with_reducible assumption) | assumption)
                  have q411 : x28_2 < (l0_1.length : Int) := of_decide_eq_true (by first | (with_reducible assumption) | assumption)
                  obtain ⟨ad411, e411, hx411_0⟩ := Kd.at_flt HR0_1.out x28_2 p411 q411
                  cases e411
                  replace hx411_0 := (HB.out.cell (World.block_lt_of_cell? w _ hx411_0)).trans hx411_0
                  replace p411 := eq_true p411
                  replace q411 := eq_true q411
                  have p412 : 0 ≤ (x28_2 : Int) := of_decide_eq_true (by first | (with_reducible assumption) | assumption)
                  have q412 : x28_2 < (l2_1.length : Int) := of_decide_eq_true (by first | (with_reducible assumption) | assumption)
                  obtain ⟨ad412, e412, hx412_0⟩ := Kd.at_flt HR2_1.out x28_2 p412 q412
                  obtain rfl : ad410 = ad412 := (by injection e412)
                  replace hx412_0 := (HB.out.cell (World.block_lt_of_cell? w _ hx412_0)).trans hx412_0
                  replace p412 := eq_true p412
                  replace q412 := eq_true q412
                  have p413 : 0 ≤ (x28_2 : Int) := of_decide_eq_true (by first | (with_reducible assumption) | assumption)
                  have q413 : x28_2 < (l1_1.length : Int) := of_decide_eq_true (by first | (with_reducible assumption) | assumption)
                  obtain ⟨ad413, e413, hx413_0⟩ := Kd.at_flt HR1_1.out x28_2 p413 q413
                  cases e413
                  replace hx413_0 := (HB.out.cell (World.block_lt_of_cell? w _ hx413_0)).trans hx413_0
                  replace p413 := eq_true p413
                  replace q413 := eq_true q413
                  go_wp2
                  repeat (go_quiet (fail); try go_wp2)
                  go_ret
                  exact ⟨by first | rfl | (simp [errW_none, errW_some] <;> rfl) | (simp [*, errW_none, errW_some] <;> rfl), by repeat (with_reducible first | exact HB.out | refine bz ?_ (by assumption) | apply bA | apply bN | apply bD)⟩
                 ·rw [if_neg c39] at H
                  have c39b0 : (FloatKind.f64.format.order (rdOf (0 : Nat) l2_1 x28_2) (rdOf (0 : Nat) l1_1 x28_2) != some Ordering.eq) = false := by simpa using c39
                  (try (have c39b1 : decide (FloatKind.f64.format.order (rdOf (0 : Nat) l2_1 x28_2) (rdOf (0 : Nat) l1_1 x28_2) = some Ordering.eq) = true := by simpa using c39))
                  (try (have c39b2 : (FloatKind.f64.format.order (rdOf (0 : Nat) l2_1 x28_2) (rdOf (0 : Nat) l1_1 x28_2) == some Ordering.eq) = true := by simpa using c39))
                  clear c39
                  have H' := Aside0.mk H
                  clear H
                  have p407 : 0 ≤ (x28_2 : Int) := of_decide_eq_true (by first | (with_reducible assumption) | assumption)
                  have q407 : x28_2 < (l2_0.length : Int) := of_decide_eq_true (by first | (with_reducible assumption) | assumption)
                  obtain ⟨ad407, e407, hx407_0⟩ := Kd.at_flt HR2_0.out x28_2 p407 q407
                  cases e407
                  replace hx407_0 := (HB.out.cell (World.block_lt_of_cell? w _ hx407_0)).trans hx407_0
                  replace p407 := eq_true p407
                  replace q407 := eq_true q407
                  have hnb46 := NB404_405.out
                  have hnc46 := NB405_404.out
                  have hnb47 := NB404_406.out
                  have hnc47 := NB406_404.out
                  have hcz48_0 : wr.cell? ⟨gb404, 0, none⟩ = some (.slice A0_0 l0_0.length c0_0) := (blk_cell BK404.out 0).trans rfl
                  have hcz48_1 : wr.cell? ⟨gb404, 1, none⟩ = some (.slice A0_1 l0_1.length c0_1) := (blk_cell BK404.out 1).trans rfl
                  have hfz48_0 := blk_frozen BK404.out 0
                  have hfz48_1 := blk_frozen BK404.out 1
                  have p408 : 0 ≤ (x28_2 : Int) := of_decide_eq_true (by first | (with_reducible assumption) | assumption)
                  have q408 : x28_2 < (l0_0.length : Int) := of_decide_eq_true (by first | (with_reducible assumption) | assumption)
                  obtain ⟨ad408, e408, hx408_0⟩ := Kd.at_flt HR0_0.out x28_2 p408 q408
                  cases e408
                  replace hx408_0 := (HB.out.cell (World.block_lt_of_cell? w _ hx408_0)).trans hx408_0
                  replace p408 := eq_true p408
                  replace q408 := eq_true q408
                  have hnb49 := NB405_406.out
                  have hnc49 := NB406_405.out
                  have hcz50_0 : wr.cell? ⟨gb405, 0, none⟩ = some (.slice A1_0 l1_0.length c1_0) := (blk_cell BK405.out 0).trans rfl
                  have hcz50_1 : wr.cell? ⟨gb405, 1, none⟩ = some (.slice A1_1 l1_1.length c1_1) := (blk_cell BK405.out 1).trans rfl
                  have hfz50_0 := blk_frozen BK405.out 0
                  have hfz50_1 := blk_frozen BK405.out 1
                  have p409 : 0 ≤ (x28_2 : Int) := of_decide_eq_true (by first | (with_reducible assumption) | assumption)
                  have q409 : x28_2 < (l1_0.length : Int) := of_decide_eq_true (by first | (with_reducible assumption) | assumption)
                  obtain ⟨ad409, e409, hx409_0⟩ := Kd.at_flt HR1_0.out x28_2 p409 q409
                  cases e409
                  replace hx409_0 := (HB.out.cell (World.block_lt_of_cell? w _ hx409_0)).trans hx409_0
                  replace p409 := eq_true p409
                  replace q409 := eq_true q409
                  have hcz51_0 : wr.cell? ⟨gb406, 0, none⟩ = some (.slice (some ad407) l2_0.length c2_0) := (blk_cell BK406.out 0).trans rfl
                  have hcz51_1 : wr.cell? ⟨gb406, 1, none⟩ = some (.slice A2_1 l2_1.length c2_1) := (blk_cell BK406.out 1).trans rfl
                  have hfz51_0 := blk_frozen BK406.out 0
                  have hfz51_1 := blk_frozen BK406.out 1
                  have p410 : 0 ≤ (x28_2 : Int) := of_decide_eq_true (by first | (with_reducible assumption) | assumption)
                  have q410 : x28_2 < (l2_1.length : Int) := of_decide_eq_true (by first | (with_reducible assumption) | assumption)
                  obtain ⟨ad410, e410, hx410_0⟩ := Kd.at_flt HR2_1.out x28_2 p410 q410
                  cases e410
                  replace hx410_0 := (HB.out.cell (World.block_lt_of_cell? w _ hx410_0)).trans hx410_0
                  replace p410 := eq_true p410
                  replace q410 := eq_true q410
                  have p411 : 0 ≤ (x28_2 : Int) := of_decide_eq_true (by first | (with_reducible assumption) | assumption)
                  have q411 : x28_2 < (l0_1.length : Int) := of_decide_eq_true (by first | (with_reducible assumption) | assumption)
                  obtain ⟨ad411, e411, hx411_0⟩ := Kd.at_flt HR0_1.out x28_2 p411 q411
                  cases e411
                  replace hx411_0 := (HB.out.cell (World.block_lt_of_cell? w _ hx411_0)).trans hx411_0
                  replace p411 := eq_true p411
                  replace q411 := eq_true q411
                  have p412 : 0 ≤ (x28_2 : Int) := of_decide_eq_true (by first | (with_reducible assumption) | assumption)
                  have q412 : x28_2 < (l2_1.length : Int) := of_decide_eq_true (by first | (with_reducible assumption) | assumption)
                  obtain ⟨ad412, e412, hx412_0⟩ := Kd.at_flt HR2_1.out x28_2 p412 q412
                  obtain rfl : ad410 = ad412 := (by injection e412)
                  replace hx412_0 := (HB.out.cell (World.block_lt_of_cell? w _ hx412_0)).trans hx412_0
                  replace p412 := eq_true p412
                  replace q412 := eq_true q412
                  have p413 : 0 ≤ (x28_2 : Int) := of_decide_eq_true (by first | (with_reducible assumption) | assumption)
                  have q413 : x28_2 < (l1_1.length : Int) := of_decide_eq_true (by first | (with_reducible assumption) | assumption)
                  obtain ⟨ad413, e413, hx413_0⟩ := Kd.at_flt HR1_1.out x28_2 p413 q413
                  cases e413
                  replace hx413_0 := (HB.out.cell (World.block_lt_of_cell? w _ hx413_0)).trans hx413_0
                  replace p413 := eq_true p413
                  replace q413 := eq_true q413
                  go_wp2
                  repeat (go_quiet (fail); try go_wp2)
                  go_roundg k2
                  case measure => have := HJ3.out; have := HK2.out; omega
                  case rel => exact ⟨(wrap64 (x28_2 + 1)), (by first | rfl | (simp; done) | (simp [*]; done)), H', ⟨by have := HJ3.out; have := HK2.out; omega⟩, ⟨pk BK404.out⟩, ⟨pk BK405.out⟩, ⟨pk BK406.out⟩, ⟨by repeat (with_reducible first | exact HB.out | refine bz ?_ (by assumption) | apply bA | apply bN | apply bD)⟩⟩
                ·rw [if_neg c38] at H
                 exact absurd H (by simp)
               ·rw [if_neg c37] at H
                have c37b0 : (FloatKind.f64.format.order (rdOf (0 : Nat) l2_1 x28_2) (rdOf (0 : Nat) l0_1 x28_2) != some Ordering.eq) = false := by simpa using c37
                (try (have c37b1 : decide (FloatKind.f64.format.order (rdOf (0 : Nat) l2_1 x28_2) (rdOf (0 : Nat) l0_1 x28_2) = some Ordering.eq) = true := by simpa using c37))
                (try (have c37b2 : (FloatKind.f64.format.order (rdOf (0 : Nat) l2_1 x28_2) (rdOf (0 : Nat) l0_1 x28_2) == some Ordering.eq) = true := by simpa using c37))
                clear c37
                have H' := Aside0.mk H
                clear H
                have p407 : 0 ≤ (x28_2 : Int) := of_decide_eq_true (by first | (with_reducible assumption) | assumption)
                have q407 : x28_2 < (l2_0.length : Int) := of_decide_eq_true (by first | (with_reducible assumption) | assumption)
                obtain ⟨ad407, e407, hx407_0⟩ := Kd.at_flt HR2_0.out x28_2 p407 q407
                cases e407
                replace hx407_0 := (HB.out.cell (World.block_lt_of_cell? w _ hx407_0)).trans hx407_0
                replace p407 := eq_true p407
                replace q407 := eq_true q407
                have hnb52 := NB404_405.out
                have hnc52 := NB405_404.out
                have hnb53 := NB404_406.out
                have hnc53 := NB406_404.out
                have hcz54_0 : wr.cell? ⟨gb404, 0, none⟩ = some (.slice A0_0 l0_0.length c0_0) := (blk_cell BK404.out 0).trans rfl
                have hcz54_1 : wr.cell? ⟨gb404, 1, none⟩ = some (.slice A0_1 l0_1.length c0_1) := (blk_cell BK404.out 1).trans rfl
                have hfz54_0 := blk_frozen BK404.out 0
                have hfz54_1 := blk_frozen BK404.out 1
                have p408 : 0 ≤ (x28_2 : Int) := of_decide_eq_true (by first | (with_reducible assumption) | assumption)
                have q408 : x28_2 < (l0_0.length : Int) := of_decide_eq_true (by first | (with_reducible assumption) | assumption)
                obtain ⟨ad408, e408, hx408_0⟩ := Kd.at_flt HR0_0.out x28_2 p408 q408
                cases e408
                replace hx408_0 := (HB.out.cell (World.block_lt_of_cell? w _ hx408_0)).trans hx408_0
                replace p408 := eq_true p408
                replace q408 := eq_true q408
                have hnb55 := NB405_406.out
                have hnc55 := NB406_405.out
                have hcz56_0 : wr.cell? ⟨gb405, 0, none⟩ = some (.slice A1_0 l1_0.length c1_0) := (blk_cell BK405.out 0).trans rfl
                have hcz56_1 : wr.cell? ⟨gb405, 1, none⟩ = some (.slice A1_1 l1_1.length c1_1) := (blk_cell BK405.out 1).trans rfl
                have hfz56_0 := blk_frozen BK405.out 0
                have hfz56_1 := blk_frozen BK405.out 1
                have p409 : 0 ≤ (x28_2 : Int) := of_decide_eq_true (by first | (with_reducible assumption) | assumption)
                have q409 : x28_2 < (l1_0.length : Int) := of_decide_eq_true (by first | (with_reducible assumption) | assumption)
                obtain ⟨ad409, e409, hx409_0⟩ := Kd.at_flt HR1_0.out x28_2 p409 q409
                cases e409
                replace hx409_0 := (HB.out.cell (World.block_lt_of_cell? w _ hx409_0)).trans hx409_0
                replace p409 := eq_true p409
                replace q409 := eq_true q409
                have hcz57_0 : wr.cell? ⟨gb406, 0, none⟩ = some (.slice (some ad407) l2_0.length c2_0) := (blk_cell BK406.out 0).trans rfl
                have hcz57_1 : wr.cell? ⟨gb406, 1, none⟩ = some (.slice A2_1 l2_1.length c2_1) := (blk_cell BK406.out 1).trans rfl
                have hfz57_0 := blk_frozen BK406.out 0
                have hfz57_1 := blk_frozen BK406.out 1
                have p410 : 0 ≤ (x28_2 : Int) := of_decide_eq_true (by first | (with_reducible assumption) | assumption)
                have q410 : x28_2 < (l2_1.length : Int) := of_decide_eq_true (by first | (with_reducible assumption) | assumption)
                obtain ⟨ad410, e410, hx410_0⟩ := Kd.at_flt HR2_1.out x28_2 p410 q410
                cases e410
                replace hx410_0 := (HB.out.cell (World.block_lt_of_cell? w _ hx410_0)).trans hx410_0
                replace p410 := eq_true p410
                replace q410 := eq_true q410
                have p411 : 0 ≤ (x28_2 : Int) := of_decide_eq_true (by first | (with_reducible assumption) | assumption)
                have q411 : x28_2 < (l0_1.length : Int) := of_decide_eq_true (by first | (with_reducible assumption) | assumption)
                obtain ⟨ad411, e411, hx411_0⟩ := Kd.at_flt HR0_1.out x28_2 p411 q411
                cases e411
                replace hx411_0 := (HB.out.cell (World.block_lt_of_cell? w _ hx411_0)).trans hx411_0
                replace p411 := eq_true p411
                replace q411 := eq_true q411
                go_wp2
                repeat (go_quiet (fail); try go_wp2)
                go_roundg k2
                case measure => have := HJ3.out; have := HK2.out; omega
                case rel => exact ⟨(wrap64 (x28_2 + 1)), (by first | rfl | (simp; done) | (simp [*]; done)), H', ⟨by have := HJ3.out; have := HK2.out; omega⟩, ⟨pk BK404.out⟩, ⟨pk BK405.out⟩, ⟨pk BK406.out⟩, ⟨by repeat (with_reducible first | exact HB.out | refine bz ?_ (by assumption) | apply bA | apply bN | apply bD)⟩⟩
              ·rw [if_neg c36] at H
               exact absurd H (by simp)
             ·rw [if_neg c35] at H
              exact absurd H (by simp)
           ·rw [if_neg c28] at H
            exact absurd H (by simp)
          ·rw [if_neg c27] at H
           have c27b0 : (FloatKind.f64.format.order (rdOf (0 : Nat) l2_0 x28_2) (rdOf (0 : Nat) l0_0 x28_2) != some Ordering.eq) = false := by simpa using c27
           (try (have c27b1 : decide (FloatKind.f64.format.order (rdOf (0 : Nat) l2_0 x28_2) (rdOf (0 : Nat) l0_0 x28_2) = some Ordering.eq) = true := by simpa using c27))
           (try (have c27b2 : (FloatKind.f64.format.order (rdOf (0 : Nat) l2_0 x28_2) (rdOf (0 : Nat) l0_0 x28_2) == some Ordering.eq) = true := by simpa using c27))
           clear c27
           by_cases c58 : x28_2 < (l2_1.length : Int)
           ·rw [if_pos c58] at H
            have c58b0 : decide (x28_2 < (l2_1.length : Int)) = true := decide_eq_true c58
            clear c58
            by_cases c59 : x28_2 < (l0_1.length : Int)
            ·rw [if_pos c59] at H
             have c59b0 : decide (x28_2 < (l0_1.length : Int)) = true := decide_eq_true c59
             clear c59
             by_cases c60 : (FloatKind.f64.format.order (rdOf (0 : Nat) l2_1 x28_2) (rdOf (0 : Nat) l0_1 x28_2) != some Ordering.eq) = true
             ·rw [if_pos c60] at H
              have c60b0 : (FloatKind.f64.format.order (rdOf (0 : Nat) l2_1 x28_2) (rdOf (0 : Nat) l0_1 x28_2) != some Ordering.eq) = true := c60
              (try (have c60b1 : decide (FloatKind.f64.format.order (rdOf (0 : Nat) l2_1 x28_2) (rdOf (0 : Nat) l0_1 x28_2) = some Ordering.eq) = false := by simpa using c60))
              (try (have c60b2 : (FloatKind.f64.format.order (rdOf (0 : Nat) l2_1 x28_2) (rdOf (0 : Nat) l0_1 x28_2) == some Ordering.eq) = false := by simpa using c60))
              (try (have c60b3 : ¬ (FloatKind.f64.format.order (rdOf (0 : Nat) l2_1 x28_2) (rdOf (0 : Nat) l0_1 x28_2) = some Ordering.eq) := by simpa using c60))
              clear c60
              by_cases c61 : x28_2 < (l1_1.length : Int)
              ·rw [if_pos c61] at H
               have c61b0 : decide (x28_2 < (l1_1.length : Int)) = true := decide_eq_true c61
               clear c61
               by_cases c62 : (FloatKind.f64.format.order (rdOf (0 : Nat) l2_1 x28_2) (rdOf (0 : Nat) l1_1 x28_2) != some Ordering.eq) = true
               ·rw [if_pos c62] at H
                have c62b0 : (FloatKind.f64.format.order (rdOf (0 : Nat) l2_1 x28_2) (rdOf (0 : Nat) l1_1 x28_2) != some Ordering.eq) = true := c62
                (try (have c62b1 : decide (FloatKind.f64.format.order (rdOf (0 : Nat) l2_1 x28_2) (rdOf (0 : Nat) l1_1 x28_2) = some Ordering.eq) = false := by simpa using c62))
                (try (have c62b2 : (FloatKind.f64.format.order (rdOf (0 : Nat) l2_1 x28_2) (rdOf (0 : Nat) l1_1 x28_2) == some Ordering.eq) = false := by simpa using c62))
                (try (have c62b3 : ¬ (FloatKind.f64.format.order (rdOf (0 : Nat) l2_1 x28_2) (rdOf (0 : Nat) l1_1 x28_2) = some Ordering.eq) := by simpa using c62))
                clear c62
                obtain rfl := Option.some.inj H
                have p407 : 0 ≤ (x28_2 : Int) := of_decide_eq_true (by first | (with_reducible assumption) | assumption)
                have q407 : x28_2 < (l2_0.length : Int) := of_decide_eq_true (by first | (with_reducible assumption) | assumption)
                obtain ⟨ad407, e407, hx407_0⟩ := Kd.at_flt HR2_0.out x28_2 p407 q407
                cases e407
                replace hx407_0 := (HB.out.cell (World.block_lt_of_cell? w _ hx407_0)).trans hx407_0
                replace p407 := eq_true p407
                replace q407 := eq_true q407
                have hnb63 := NB404_405.out
                have hnc63 := NB405_404.out
                have hnb64 := NB404_406.out
                have hnc64 := NB406_404.out
                have hcz65_0 : wr.cell? ⟨gb404, 0, none⟩ = some (.slice A0_0 l0_0.length c0_0) := (blk_cell BK404.out 0).trans rfl
                have hcz65_1 : wr.cell? ⟨gb404, 1, none⟩ = some (.slice A0_1 l0_1.length c0_1) := (blk_cell BK404.out 1).trans rfl
                have hfz65_0 := blk_frozen BK404.out 0
                have hfz65_1 := blk_frozen BK404.out 1
                have p408 : 0 ≤ (x28_2 : Int) := of_decide_eq_true (by first | (with_reducible assumption) | assumption)
                have q408 : x28_2 < (l0_0.length : Int) := of_decide_eq_true (by first | (with_reducible assumption) | assumption)
                obtain ⟨ad408, e408, hx408_0⟩ := Kd.at_flt HR0_0.out x28_2 p408 q408
                cases e408
                replace hx408_0 := (HB.out.cell (World.block_lt_of_cell? w _ hx408_0)).trans hx408_0
                replace p408 := eq_true p408
                replace q408 := eq_true q408
                have hnb66 := NB406_405.out
                have hnc66 := NB405_406.out
                have hcz67_0 : wr.cell? ⟨gb406, 0, none⟩ = some (.slice (some ad407) l2_0.length c2_0) := (blk_cell BK406.out 0).trans rfl
                have hcz67_1 : wr.cell? ⟨gb406, 1, none⟩ = some (.slice A2_1 l2_1.length c2_1) := (blk_cell BK406.out 1).trans rfl
                have hfz67_0 := blk_frozen BK406.out 0
                have hfz67_1 := blk_frozen BK406.out 1
                have p414 : 0 ≤ (x28_2 : Int) := of_decide_eq_true (by first | (with_reducible assumption) | assumption)
                have q414 : x28_2 < (l2_1.length : Int) := of_decide_eq_true (by first | (with_reducible assumption) | assumption)
                obtain ⟨ad414, e414, hx414_0⟩ := Kd.at_flt HR2_1.out x28_2 p414 q414
                cases e414
                replace hx414_0 := (HB.out.cell (World.block_lt_of_cell? w _ hx414_0)).trans hx414_0
                replace p414 := eq_true p414
                replace q414 := eq_true q414
                have p415 : 0 ≤ (x28_2 : Int) := of_decide_eq_true (by first | (with_reducible assumption) | assumption)
                have q415 : x28_2 < (l0_1.length : Int) := of_decide_eq_true (by first | (with_reducible assumption) | assumption)
                obtain ⟨ad415, e415, hx415_0⟩ := Kd.at_flt HR0_1.out x28_2 p415 q415
                cases e415
                replace hx415_0 := (HB.out.cell (World.block_lt_of_cell? w _ hx415_0)).trans hx415_0
                replace p415 := eq_true p415
                replace q415 := eq_true q415
                have p416 : 0 ≤ (x28_2 : Int) := of_decide_eq_true (by first | (with_reducible assumption) | assumption)
                have q416 : x28_2 < (l2_1.length : Int) := of_decide_eq_true (by first | (with_reducible assumption) | assumption)
                obtain ⟨ad416, e416, hx416_0⟩ := Kd.at_flt HR2_1.out x28_2 p416 q416
                obtain rfl : ad414 = ad416 := (by injection e416)
                replace hx416_0 := (HB.out.cell (World.block_lt_of_cell? w _ hx416_0)).trans hx416_0
                replace p416 := eq_true p416
                replace q416 := eq_true q416
                have hcz68_0 : wr.cell? ⟨gb405, 0, none⟩ = some (.slice A1_0 l1_0.length c1_0) := (blk_cell BK405.out 0).trans rfl
                have hcz68_1 : wr.cell? ⟨gb405, 1, none⟩ = some (.slice A1_1 l1_1.length c1_1) := (blk_cell BK405.out 1).trans rfl
                have hfz68_0 := blk_frozen BK405.out 0
                have hfz68_1 := blk_frozen BK405.out 1
                have p417 : 0 ≤ (x28_2 : Int) := of_decide_eq_true (by first | (with_reducible assumption) | assumption)
                have q417 : x28_2 < (l1_1.length : Int) := of_decide_eq_true (by first | (with_reducible assumption) | assumption)
                obtain ⟨ad417, e417, hx417_0⟩ := Kd.at_flt HR1_1.out x28_2 p417 q417
                cases e417
                replace hx417_0 := (HB.out.cell (World.block_lt_of_cell? w _ hx417_0)).trans hx417_0
                replace p417 := eq_true p417
                replace q417 := eq_true q417
                go_wp2
                repeat (go_quiet (fail); try go_wp2)
                go_ret
                exact ⟨by first | rfl | (simp [errW_none, errW_some] <;> rfl) | (simp [*, errW_none, errW_some] <;> rfl), by repeat (with_reducible first | exact HB.out | refine bz ?_ (by assumption) | apply bA | apply bN | apply bD)⟩
               ·rw [if_neg c62] at H
                have c62b0 : (FloatKind.f64.format.order (rdOf (0 : Nat) l2_1 x28_2) (rdOf (0 : Nat) l1_1 x28_2) != some Ordering.eq) = false := by simpa using c62
                (try (have c62b1 : decide (FloatKind.f64.format.order (rdOf (0 : Nat) l2_1 x28_2) (rdOf (0 : Nat) l1_1 x28_2) = some Ordering.eq) = true := by simpa using c62))
                (try (have c62b2 : (FloatKind.f64.format.order (rdOf (0 : Nat) l2_1 x28_2) (rdOf (0 : Nat) l1_1 x28_2) == some Ordering.eq) = true := by simpa using c62))
                clear c62
                have H' := Aside0.mk H
                clear H
                have p407 : 0 ≤ (x28_2 : Int) := of_decide_eq_true (by first | (with_reducible assumption) | assumption)
                have q407 : x28_2 < (l2_0.length : Int) := of_decide_eq_true (by first | (with_reducible assumption) | assumption)
                obtain ⟨ad407, e407, hx407_0⟩ := Kd.at_flt HR2_0.out x28_2 p407 q407
                cases e407
                replace hx407_0 := (HB.out.cell (World.block_lt_of_cell? w _ hx407_0)).trans hx407_0
                replace p407 := eq_true p407
                replace q407 := eq_true q407
                have hnb69 := NB404_405.out
                have hnc69 := NB405_404.out
                have hnb70 := NB404_406.out
                have hnc70 := NB406_404.out
                have hcz71_0 : wr.cell? ⟨gb404, 0, none⟩ = some (.slice A0_0 l0_0.length c0_0) := (blk_cell BK404.out 0).trans rfl
                have hcz71_1 : wr.cell? ⟨gb404, 1, none⟩ = some (.slice A0_1 l0_1.length c0_1) := (blk_cell BK404.out 1).trans rfl
                have hfz71_0 := blk_frozen BK404.out 0
                have hfz71_1 := blk_frozen BK404.out 1
                have p408 : 0 ≤ (x28_2 : Int) := of_decide_eq_true (by first | (with_reducible assumption) | assumption)
                have q408 : x28_2 < (l0_0.length : Int) := of_decide_eq_true (by first | (with_reducible assumption) | assumption)
                obtain ⟨ad408, e408, hx408_0⟩ := Kd.at_flt HR0_0.out x28_2 p408 q408
                cases e408
                replace hx408_0 := (HB.out.cell (World.block_lt_of_cell? w _ hx408_0)).trans hx408_0
                replace p408 := eq_true p408
                replace q408 := eq_true q408
                have hnb72 := NB406_405.out
                have hnc72 := NB405_406.out
                have hcz73_0 : wr.cell? ⟨gb406, 0, none⟩ = some (.slice (some ad407) l2_0.length c2_0) := (blk_cell BK406.out 0).trans rfl
                have hcz73_1 : wr.cell? ⟨gb406, 1, none⟩ = some (.slice A2_1 l2_1.length c2_1) := (blk_cell BK406.out 1).trans rfl
                have hfz73_0 := blk_frozen BK406.out 0
                have hfz73_1 := blk_frozen BK406.out 1
                have p414 : 0 ≤ (x28_2 : Int) := of_decide_eq_true (by first | (with_reducible assumption) | assumption)
                have q414 : x28_2 < (l2_1.length : Int) := of_decide_eq_true (by first | (with_reducible assumption) | assumption)
                obtain ⟨ad414, e414, hx414_0⟩ := Kd.at_flt HR2_1.out x28_2 p414 q414
                cases e414
                replace hx414_0 := (HB.out.cell (World.block_lt_of_cell? w _ hx414_0)).trans hx414_0
                replace p414 := eq_true p414
                replace q414 := eq_true q414
                have p415 : 0 ≤ (x28_2 : Int) := of_decide_eq_true (by first | (with_reducible assumption) | assumption)
                have q415 : x28_2 < (l0_1.length : Int) := of_decide_eq_true (by first | (with_reducible assumption) | assumption)
                obtain ⟨ad415, e415, hx415_0⟩ := Kd.at_flt HR0_1.out x28_2 p415 q415
                cases e415
                replace hx415_0 := (HB.out.cell (World.block_lt_of_cell? w _ hx415_0)).trans hx415_0
                replace p415 := eq_true p415
                replace q415 := eq_true q415
                have p416 : 0 ≤ (x28_2 : Int) := of_decide_eq_true (by first | (with_reducible assumption) | assumption)
                have q416 : x28_2 < (l2_1.length : Int) := of_decide_eq_true (by first | (with_reducible assumption) | assumption)
                obtain ⟨ad416, e416, hx416_0⟩ := Kd.at_flt HR2_1.out x28_2 p416 q416
                obtain rfl : ad414 = ad416 := (by injection e416)
                replace hx416_0 := (HB.out.cell (World.block_lt_of_cell? w _ hx416_0)).trans hx416_0
                replace p416 := eq_true p416
                replace q416 := eq_true q416
                have hcz74_0 : wr.cell? ⟨gb405, 0, none⟩ = some (.slice A1_0 l1_0.length c1_0) := (blk_cell BK405.out 0).trans rfl
                have hcz74_1 : wr.cell? ⟨gb405, 1, none⟩ = some (.slice A1_1 l1_1.length c1_1) := (blk_cell BK405.out 1).trans rfl
                have hfz74_0 := blk_frozen BK405.out 0
                have hfz74_1 := blk_frozen BK405.out 1
                have p417 : 0 ≤ (x28_2 : Int) := of_decide_eq_true (by first | (with_reducible assumption) | assumption)
                have q417 : x28_2 < (l1_1.length : Int) := of_decide_eq_true (by first | (with_reducible assumption) | assumption)
                obtain ⟨ad417, e417, hx417_0⟩ := Kd.at_flt HR1_1.out x28_2 p417 q417
                cases e417
                replace hx417_0 := (HB.out.cell (World.block_lt_of_cell? w _ hx417_0)).trans hx417_0
                replace p417 := eq_true p417
                replace q417 := eq_true q417
                go_wp2
                repeat (go_quiet (fail); try go_wp2)
                go_roundg k2
                case measure => have := HJ3.out; have := HK2.out; omega
                case rel => exact ⟨(wrap64 (x28_2 + 1)), (by first | rfl | (simp; done) | (simp [*]; done)), H', ⟨by have := HJ3.out; have := HK2.out; omega⟩, ⟨pk BK404.out⟩, ⟨pk BK405.out⟩, ⟨pk BK406.out⟩, ⟨by repeat (with_reducible first | exact HB.out | refine bz ?_ (by assumption) | apply bA | apply bN | apply bD)⟩⟩
              ·rw [if_neg c61] at H
               exact absurd H (by simp)
             ·rw [if_neg c60] at H
              have c60b0 : (FloatKind.f64.format.order (rdOf (0 : Nat) l2_1 x28_2) (rdOf (0 : Nat) l0_1 x28_2) != some Ordering.eq) = false := by simpa using c60
              (try (have c60b1 : decide (FloatKind.f64.format.order (rdOf (0 : Nat) l2_1 x28_2) (rdOf (0 : Nat) l0_1 x28_2) = some Ordering.eq) = true := by simpa using c60))
              (try (have c60b2 : (FloatKind.f64.format.order (rdOf (0 : Nat) l2_1 x28_2) (rdOf (0 : Nat) l0_1 x28_2) == some Ordering.eq) = true := by simpa using c60))
              clear c60
              have H' := Aside0.mk H
              clear H
              have p407 : 0 ≤ (x28_2 : Int) := of_decide_eq_true (by first | (with_reducible assumption) | assumption)
              have q407 : x28_2 < (l2_0.length : Int) := of_decide_eq_true (by first | (with_reducible assumption) | assumption)
              obtain ⟨ad407, e407, hx407_0⟩ := Kd.at_flt HR2_0.out x28_2 p407 q407
              cases e407
              replace hx407_0 := (HB.out.cell (World.block_lt_of_cell? w _ hx407_0)).trans hx407_0
              replace p407 := eq_true p407
              replace q407 := eq_true q407
              have hnb75 := NB404_405.out
              have hnc75 := NB405_404.out
              have hnb76 := NB404_406.out
              have hnc76 := NB406_404.out
              have hcz77_0 : wr.cell? ⟨gb404, 0, none⟩ = some (.slice A0_0 l0_0.length c0_0) := (blk_cell BK404.out 0).trans rfl
              have hcz77_1 : wr.cell? ⟨gb404, 1, none⟩ = some (.slice A0_1 l0_1.length c0_1) := (blk_cell BK404.out 1).trans rfl
              have hfz77_0 := blk_frozen BK404.out 0
              have hfz77_1 := blk_frozen BK404.out 1
              have p408 : 0 ≤ (x28_2 : Int) := of_decide_eq_true (by first | (with_reducible assumption) | assumption)
              have q408 : x28_2 < (l0_0.length : Int) := of_decide_eq_true (by first | (with_reducible assumption) | assumption)
              obtain ⟨ad408, e408, hx408_0⟩ := Kd.at_flt HR0_0.out x28_2 p408 q408
              cases e408
              replace hx408_0 := (HB.out.cell (World.block_lt_of_cell? w _ hx408_0)).trans hx408_0
              replace p408 := eq_true p408
              replace q408 := eq_true q408
              have hnb78 := NB406_405.out
              have hnc78 := NB405_406.out
              have hcz79_0 : wr.cell? ⟨gb406, 0, none⟩ = some (.slice (some ad407) l2_0.length c2_0) := (blk_cell BK406.out 0).trans rfl
              have hcz79_1 : wr.cell? ⟨gb406, 1, none⟩ = some (.slice A2_1 l2_1.length c2_1) := (blk_cell BK406.out 1).trans rfl
              have hfz79_0 := blk_frozen BK406.out 0
              have hfz79_1 := blk_frozen BK406.out 1
              have p414 : 0 ≤ (x28_2 : Int) := of_decide_eq_true (by first | (with_reducible assumption) | assumption)
              have q414 : x28_2 < (l2_1.length : Int) := of_decide_eq_true (by first | (with_reducible assumption) | assumption)
              obtain ⟨ad414, e414, hx414_0⟩ := Kd.at_flt HR2_1.out x28_2 p414 q414
              cases e414
              replace hx414_0 := (HB.out.cell (World.block_lt_of_cell? w _ hx414_0)).trans hx414_0
              replace p414 := eq_true p414
              replace q414 := eq_true q414
              have p415 : 0 ≤ (x28_2 : Int) := of_decide_eq_true (by first | (with_reducible assumption) | assumption)
              have q415 : x28_2 < (l0_1.length : Int) := of_decide_eq_true (by first | (with_reducible assumption) | assumption)
              obtain ⟨ad415, e415, hx415_0⟩ := Kd.at_flt HR0_1.out x28_2 p415 q415
              cases e415
              replace hx415_0 := (HB.out.cell (World.block_lt_of_cell? w _ hx415_0)).trans hx415_0
              replace p415 := eq_true p415
              replace q415 := eq_true q415
              go_wp2
              repeat (go_quiet (fail); try go_wp2)
              go_roundg k2
              case measure => have := HJ3.out; have := HK2.out; omega
              case rel => exact ⟨(wrap64 (x28_2 + 1)), (by first | rfl | (simp; done) | (simp [*]; done)), H', ⟨by have := HJ3.out; have := HK2.out; omega⟩, ⟨pk BK404.out⟩, ⟨pk BK405.out⟩, ⟨pk BK406.out⟩, ⟨by repeat (with_reducible first | exact HB.out | refine bz ?_ (by assumption) | apply bA | apply bN | apply bD)⟩⟩
            ·rw [if_neg c59] at H
             exact absurd H (by simp)
           ·rw [if_neg c58] at H
            exact absurd H (by simp)
         ·rw [if_neg c26] at H
          exact absurd H (by simp)
        ·rw [if_neg c25] at H
         exact absurd H (by simp)
       ·rw [if_neg c24] at H
        exact absurd H (by simp)
      ·rw [if_neg c23] at H
       have c23b0 : decide (x28_2 < (l2_0.length : Int)) = false := decide_eq_false c23
       clear c23
       obtain rfl := Option.some.inj H
       go_wp2
       repeat (go_quiet (fail); try go_wp2)
       go_ret
       exact ⟨by first | rfl | (simp [errW_none, errW_some] <;> rfl) | (simp [*, errW_none, errW_some] <;> rfl), by repeat (with_reducible first | exact HB.out | refine bz ?_ (by assumption) | apply bA | apply bN | apply bD)⟩

end Go.Proofs.Ytbhnnobpjmnngaa.PFnJoins
