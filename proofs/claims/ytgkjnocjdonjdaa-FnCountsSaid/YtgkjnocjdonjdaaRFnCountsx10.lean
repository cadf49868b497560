-- Written by a program of this session out of the loaded functions' print; helper lemmas as print.sh lays them.
import Derived.Test.YtgkjnocjdonjdaaUp2
import Derived.Test.YtgkjnocjdonjdaaUp
import Derived.Test.YtgkjnocjdonjdaaRFnCountsx0
import Derived.Test.YtgkjnocjdonjdaaRFnCountsx3
import Derived.Test.YtgkjnocjdonjdaaRFnCountsx6
import Derived.Test.YtgkjnocjdonjdaaRFnCountsx9
namespace Go.Proofs.Ytgkjnocjdonjdaa.PFnCounts
open Go.RowKit Go.Proofs.YtgkjnocjdonjdaaW.PrintWords Go.Proofs.YtgkjnocjdonjdaaW.PrintLast Go.Proofs.YtgkjnocjdonjdaaW.PrintMore
attribute [local go_sem] max2_int min2_int max_two min_two max_three min_three max_four min_four  -- for this text's walks alone
set_option linter.unusedVariables false
set_option linter.unusedSimpArgs false

/-! ### spec_SameCounts: function 20 -/
mutual
def spec_SameCounts.j0 : Nat → Bool → Int → List Int → List Int → Int → List Int → List Int → Option (Bool)
 | 0, _, _, _, _, _, _, _ => none
 | k + 1, x28, x312000, x312001, x312002, x313000, x313001, x313002 => if x28 = true then (some false) else (spec_SameCounts.l0 k (x312001.length : Int) 0 x312000 x312001 x312002 x313000 x313001 x313002)
def spec_SameCounts.l0 : Nat → Int → Int → Int → List Int → List Int → Int → List Int → List Int → Option (Bool)
 | 0, _, _, _, _, _, _, _, _ => none
 | k + 1, x31, x32, x312000, x312001, x312002, x313000, x313001, x313002 => if x32 < x31 then (if 0 ≤ x32 then (if x32 < (x312001.length : Int) then (if x32 < (x313001.length : Int) then (if (rd x312001 x32) = (rd x313001 x32) then (if x32 < (x312002.length : Int) then (if x32 < (x313002.length : Int) then (if (rd x312002 x32) = (rd x313002 x32) then (spec_SameCounts.l0 k x31 (wrap64 (x32 + 1)) x312000 x312001 x312002 x313000 x313001 x313002) else (some false)) else (none)) else (none)) else (some false)) else (none)) else (none)) else (none)) else (some true)
end
def spec_SameCounts.f (k : Nat) (a0_0 : Int) (l0_1 : List Int) (l0_2 : List Int) (a1_0 : Int) (l1_1 : List Int) (l1_2 : List Int) : Option (Bool) := if a0_0 = a1_0 then (if (l0_1.length : Int) = (l1_1.length : Int) then (spec_SameCounts.j0 k ((l0_2.length : Int) != (l1_2.length : Int)) a0_0 l0_1 l0_2 a1_0 l1_1 l1_2) else (spec_SameCounts.j0 k true a0_0 l0_1 l0_2 a1_0 l1_1 l1_2)) else (spec_SameCounts.j0 k true a0_0 l0_1 l0_2 a1_0 l1_1 l1_2)
theorem spec_SameCounts.mono_l : ∀ k, (∀ y0 y1 y2 y3 y4 y5 y6, LeO (spec_SameCounts.j0 k y0 y1 y2 y3 y4 y5 y6) (spec_SameCounts.j0 (k + 1) y0 y1 y2 y3 y4 y5 y6)) ∧ (∀ y0 y1 y2 y3 y4 y5 y6 y7, LeO (spec_SameCounts.l0 k y0 y1 y2 y3 y4 y5 y6 y7) (spec_SameCounts.l0 (k + 1) y0 y1 y2 y3 y4 y5 y6 y7))
 | 0 => ⟨fun _ _ _ _ _ _ _ r h => by simp [spec_SameCounts.j0] at h, fun _ _ _ _ _ _ _ _ r h => by simp [spec_SameCounts.l0] at h⟩
 | k + 1 => by
  obtain ⟨ih0, ih1⟩ := spec_SameCounts.mono_l k
  refine ⟨?_, ?_⟩
  ·intro y0 y1 y2 y3 y4 y5 y6
   unfold spec_SameCounts.j0
   repeat' first
   | (with_reducible exact ih0 _ _ _ _ _ _ _)
   | (with_reducible exact ih1 _ _ _ _ _ _ _ _)
   | (with_reducible exact LeO.refl _)
   | (with_reducible exact LeO.none _)
   | (with_reducible refine LeO.ite ?_ ?_)
   | (with_reducible refine LeO.bind ?_ (fun _ => ?_))
   | exact ih0 _ _ _ _ _ _ _
   | exact ih1 _ _ _ _ _ _ _ _
   | exact LeO.none _
   | refine LeO.ite ?_ ?_
   | refine LeO.bind ?_ (fun _ => ?_)
  ·intro y0 y1 y2 y3 y4 y5 y6 y7
   unfold spec_SameCounts.l0
   repeat' first
   | (with_reducible exact ih0 _ _ _ _ _ _ _)
   | (with_reducible exact ih1 _ _ _ _ _ _ _ _)
   | (with_reducible exact LeO.refl _)
   | (with_reducible exact LeO.none _)
   | (with_reducible refine LeO.ite ?_ ?_)
   | (with_reducible refine LeO.bind ?_ (fun _ => ?_))
   | exact ih0 _ _ _ _ _ _ _
   | exact ih1 _ _ _ _ _ _ _ _
   | exact LeO.none _
   | refine LeO.ite ?_ ?_
   | refine LeO.bind ?_ (fun _ => ?_)
theorem spec_SameCounts.mono : ∀ a0 a1 a2 a3 a4 a5 k, LeO (spec_SameCounts.f k a0 a1 a2 a3 a4 a5) (spec_SameCounts.f (k + 1) a0 a1 a2 a3 a4 a5) := by
 intro a0 a1 a2 a3 a4 a5 k
 obtain ⟨ih0, ih1⟩ := spec_SameCounts.mono_l k
 unfold spec_SameCounts.f
 repeat' first
   | (with_reducible exact ih0 _ _ _ _ _ _ _)
   | (with_reducible exact ih1 _ _ _ _ _ _ _ _)
   | (with_reducible exact LeO.refl _)
   | (with_reducible exact LeO.none _)
   | (with_reducible refine LeO.ite ?_ ?_)
   | (with_reducible refine LeO.bind ?_ (fun _ => ?_))
   | exact ih0 _ _ _ _ _ _ _
   | exact ih1 _ _ _ _ _ _ _ _
   | exact LeO.none _
   | refine LeO.ite ?_ ?_
   | refine LeO.bind ?_ (fun _ => ?_)
set_option maxHeartbeats 8000000 in
set_option maxRecDepth 100000 in
theorem spec_SameCounts.calls (k : Nat) (a0_0 : Int) (A0_1 : Option Addr) (c0_1 : Nat) (l0_1 : List Int) (A0_2 : Option Addr) (c0_2 : Nat) (l0_2 : List Int) (a1_0 : Int) (A1_1 : Option Addr) (c1_1 : Nat) (l1_1 : List Int) (A1_2 : Option Addr) (c1_2 : Nat) (l1_2 : List Int) (r : Bool) (w : World) (hr0_1 : Kd.C (Kd.int .i64) w A0_1 l0_1.length l0_1) (hc0_1 : l0_1.length ≤ c0_1) (hr0_2 : Kd.C (Kd.int .i64) w A0_2 l0_2.length l0_2) (hc0_2 : l0_2.length ≤ c0_2) (hr1_1 : Kd.C (Kd.int .i64) w A1_1 l1_1.length l1_1) (hc1_1 : l1_1.length ≤ c1_1) (hr1_2 : Kd.C (Kd.int .i64) w A1_2 l1_2.length l1_2) (hc1_2 : l1_2.length ≤ c1_2) (h : spec_SameCounts.f k a0_0 l0_1 l0_2 a1_0 l1_1 l1_2 = some r) :
  Calls Try.prog 20 #[.agg #[.int .i64 a0_0, .slice A0_1 l0_1.length c0_1, .slice A0_2 l0_2.length c0_2], .agg #[.int .i64 a1_0, .slice A1_1 l1_1.length c1_1, .slice A1_2 l1_2.length c1_2]] w fun e w' => e = .returned (.bool r) ∧ Below w.heap.size w w' := by
 have hu31 := Try.underlying31
 have HR0_1 := Aside0.mk hr0_1
 have HC0_1 := Aside0.mk hc0_1
 clear hr0_1 hc0_1
 have HR0_2 := Aside0.mk hr0_2
 have HC0_2 := Aside0.mk hc0_2
 clear hr0_2 hc0_2
 have HR1_1 := Aside0.mk hr1_1
 have HC1_1 := Aside0.mk hc1_1
 clear hr1_1 hc1_1
 have HR1_2 := Aside0.mk hr1_2
 have HC1_2 := Aside0.mk hc1_2
 clear hr1_2 hc1_2
 have HB := a_ (Below.refl w.heap.size w)
 have H : (if a0_0 = a1_0 then (if (l0_1.length : Int) = (l1_1.length : Int) then (spec_SameCounts.j0 k ((l0_2.length : Int) != (l1_2.length : Int)) a0_0 l0_1 l0_2 a1_0 l1_1 l1_2) else (spec_SameCounts.j0 k true a0_0 l0_1 l0_2 a1_0 l1_1 l1_2)) else (spec_SameCounts.j0 k true a0_0 l0_1 l0_2 a1_0 l1_1 l1_2)) = some r := h
 clear h
 have HC3 := Aside0.mk H
 clear H
 go_enter Try.func20, Try.ntmps20
 go_upto_region 1 with (first | ((with_reducible refine gate_dst (N := 2) rfl ?_); (try (refine gate_guard (by rfl) ?_; dsimp only)); refine box_event ?hg (N := 2) ?hd (cs := #[.int .i64 a0_0, .slice A0_1 l0_1.length c0_1, .slice A0_2 l0_2.length c0_2]) (t := 31) ?hr ?_; (case hd => rfl); (case hg => rfl); (case hr => first | (go_simp; done) | (go_simp; rfl)); intro gb311 hg w4 hbox hb; have BK311 := a_ (hbox); have GW311 := a_ (bsg hg HB.out); have GE311 := a_ (bsg hg HB.out); replace HB := a_ (below_step (un HB.out) hb); clear hb hbox hg) | ((with_reducible refine gate_dst (N := 3) rfl ?_); (try (refine gate_guard (by rfl) ?_; dsimp only)); refine box_event ?hg (N := 3) ?hd (cs := #[.int .i64 a1_0, .slice A1_1 l1_1.length c1_1, .slice A1_2 l1_2.length c1_2]) (t := 31) ?hr ?_; (case hd => rfl); (case hg => rfl); (case hr => first | (go_simp; done) | (go_simp; rfl)); intro gb312 hg w5 hbox hb; have BK312 := a_ (hbox); have GW312 := a_ (bsg hg HB.out); have GE312 := a_ (bsg hg HB.out); replace HB := a_ (below_step (by repeat (with_reducible first | exact HB.out | refine bz ?_ (by assumption) | apply bA | apply bN | apply bD)) hb); have NB311_312 := a_ (nel hg BK311.out); have NB312_311 := a_ (nle hg BK311.out); replace BK311 := a_ (blk_below (pk BK311.out) hb); clear hb hbox hg))
 repeat (go_quiet (first | ((with_reducible refine gate_dst (N := 2) rfl ?_); (try (refine gate_guard (by rfl) ?_; dsimp only)); refine box_event ?hg (N := 2) ?hd (cs := #[.int .i64 a0_0, .slice A0_1 l0_1.length c0_1, .slice A0_2 l0_2.length c0_2]) (t := 31) ?hr ?_; (case hd => rfl); (case hg => rfl); (case hr => first | (go_simp; done) | (go_simp; rfl)); intro gb311 hg w4 hbox hb; have BK311 := a_ (hbox); have GW311 := a_ (bsg hg HB.out); have GE311 := a_ (bsg hg HB.out); replace HB := a_ (below_step (un HB.out) hb); clear hb hbox hg) | ((with_reducible refine gate_dst (N := 3) rfl ?_); (try (refine gate_guard (by rfl) ?_; dsimp only)); refine box_event ?hg (N := 3) ?hd (cs := #[.int .i64 a1_0, .slice A1_1 l1_1.length c1_1, .slice A1_2 l1_2.length c1_2]) (t := 31) ?hr ?_; (case hd => rfl); (case hg => rfl); (case hr => first | (go_simp; done) | (go_simp; rfl)); intro gb312 hg w5 hbox hb; have BK312 := a_ (hbox); have GW312 := a_ (bsg hg HB.out); have GE312 := a_ (bsg hg HB.out); replace HB := a_ (below_step (by repeat (with_reducible first | exact HB.out | refine bz ?_ (by assumption) | apply bA | apply bN | apply bD)) hb); have NB311_312 := a_ (nel hg BK311.out); have NB312_311 := a_ (nle hg BK311.out); replace BK311 := a_ (blk_below (pk BK311.out) hb); clear hb hbox hg)); go_upto_region 1 with (first | ((with_reducible refine gate_dst (N := 2) rfl ?_); (try (refine gate_guard (by rfl) ?_; dsimp only)); refine box_event ?hg (N := 2) ?hd (cs := #[.int .i64 a0_0, .slice A0_1 l0_1.length c0_1, .slice A0_2 l0_2.length c0_2]) (t := 31) ?hr ?_; (case hd => rfl); (case hg => rfl); (case hr => first | (go_simp; done) | (go_simp; rfl)); intro gb311 hg w4 hbox hb; have BK311 := a_ (hbox); have GW311 := a_ (bsg hg HB.out); have GE311 := a_ (bsg hg HB.out); replace HB := a_ (below_step (un HB.out) hb); clear hb hbox hg) | ((with_reducible refine gate_dst (N := 3) rfl ?_); (try (refine gate_guard (by rfl) ?_; dsimp only)); refine box_event ?hg (N := 3) ?hd (cs := #[.int .i64 a1_0, .slice A1_1 l1_1.length c1_1, .slice A1_2 l1_2.length c1_2]) (t := 31) ?hr ?_; (case hd => rfl); (case hg => rfl); (case hr => first | (go_simp; done) | (go_simp; rfl)); intro gb312 hg w5 hbox hb; have BK312 := a_ (hbox); have GW312 := a_ (bsg hg HB.out); have GE312 := a_ (bsg hg HB.out); replace HB := a_ (below_step (by repeat (with_reducible first | exact HB.out | refine bz ?_ (by assumption) | apply bA | apply bN | apply bD)) hb); have NB311_312 := a_ (nel hg BK311.out); have NB312_311 := a_ (nle hg BK311.out); replace BK311 := a_ (blk_below (pk BK311.out) hb); clear hb hbox hg)))
 (try simp only [Act.put, sB, sC, sD])
 go_cut [28] (fun v28 wc => ∃ (kq : Nat) (x28_2 : Bool), v28 = .bool x28_2 ∧ Aside0 (spec_SameCounts.j0 kq x28_2 a0_0 l0_1 l0_2 a1_0 l1_1 l1_2 = some r) ∧ Aside0 (kq ≤ k) ∧ Aside0 (wc.heap[gb311]? = some (.cells #[.int .i64 a0_0, (.slice A0_1 l0_1.length c0_1), (.slice A0_2 l0_2.length c0_2)] 31 (0, 0))) ∧ Aside0 (wc.heap[gb312]? = some (.cells #[.int .i64 a1_0, (.slice A1_1 l1_1.length c1_1), (.slice A1_2 l1_2.length c1_2)] 31 (0, 0))) ∧ Aside0 (Below w.heap.size w wc))
 case first =>
  have H := HC3.out
  clear HC3
  by_cases c6 : a0_0 = a1_0
  ·rw [if_pos c6] at H
   have c6b0 : (a0_0 == a1_0) = true := beq_iff_eq.mpr c6
   have c6b1 : (a0_0 != a1_0) = false := bne_eq_false_iff_eq.mpr c6
   clear c6
   (first | rw [c6b0] | (simp only [i64_w, i32_w]; rw [c6b0]) | skip)
   by_cases c7 : (l0_1.length : Int) = (l1_1.length : Int)
   ·rw [if_pos c7] at H
    have c7b0 : ((l0_1.length : Int) == (l1_1.length : Int)) = true := beq_iff_eq.mpr c7
    have c7b1 : ((l0_1.length : Int) != (l1_1.length : Int)) = false := bne_eq_false_iff_eq.mpr c7
    have c7b2 : (l0_1.length == l1_1.length) = true := by first | simpa using c7 | (simp at c7 ⊢; omega)
    clear c7
    have H' := Aside0.mk H
    clear H
    have hnb8 := NB311_312.out
    have hnc8 := NB312_311.out
    have hcz9_0 : _ = some (Value.int .i64 a0_0) := (blk_cell BK311.out 0).trans rfl
    have hcz9_1 : _ = some (Value.slice A0_1 l0_1.length c0_1) := (blk_cell BK311.out 1).trans rfl
    have hcz9_2 : _ = some (Value.slice A0_2 l0_2.length c0_2) := (blk_cell BK311.out 2).trans rfl
    have hfz9_0 := blk_frozen BK311.out 0
    have hfz9_1 := blk_frozen BK311.out 1
    have hfz9_2 := blk_frozen BK311.out 2
    have hcz10_0 : _ = some (Value.int .i64 a1_0) := (blk_cell BK312.out 0).trans rfl
    have hcz10_1 : _ = some (Value.slice A1_1 l1_1.length c1_1) := (blk_cell BK312.out 1).trans rfl
    have hcz10_2 : _ = some (Value.slice A1_2 l1_2.length c1_2) := (blk_cell BK312.out 2).trans rfl
    have hfz10_0 := blk_frozen BK312.out 0
    have hfz10_1 := blk_frozen BK312.out 1
    have hfz10_2 := blk_frozen BK312.out 2
    go_wp2
    repeat (go_quiet (fail); try go_wp2)
    go_meet
    case rel => exact ⟨_, (((l0_2.length : Int) != (l1_2.length : Int))), (by first | rfl | (simp; done) | (simp [*]; done)), H', ⟨by first | omega | exact Nat.le_refl _⟩, ⟨pk BK311.out⟩, ⟨pk BK312.out⟩, ⟨by repeat (with_reducible first | exact HB.out | refine bz ?_ (by assumption) | apply bA | apply bN | apply bD)⟩⟩
   ·rw [if_neg c7] at H
    have c7b0 : ((l0_1.length : Int) == (l1_1.length : Int)) = false := beq_eq_false_iff_ne.mpr c7
    have c7b1 : ((l0_1.length : Int) != (l1_1.length : Int)) = true := bne_iff_ne.mpr c7
    have c7b2 : (l0_1.length == l1_1.length) = false := by first | simpa using c7 | (simp at c7 ⊢; omega)
    have H' := Aside0.mk H
    clear H
    have hnb11 := NB311_312.out
    have hnc11 := NB312_311.out
    have hcz12_0 : _ = some (Value.int .i64 a0_0) := (blk_cell BK311.out 0).trans rfl
    have hcz12_1 : _ = some (Value.slice A0_1 l0_1.length c0_1) := (blk_cell BK311.out 1).trans rfl
    have hcz12_2 : _ = some (Value.slice A0_2 l0_2.length c0_2) := (blk_cell BK311.out 2).trans rfl
    have hfz12_0 := blk_frozen BK311.out 0
    have hfz12_1 := blk_frozen BK311.out 1
    have hfz12_2 := blk_frozen BK311.out 2
    have hcz13_0 : _ = some (Value.int .i64 a1_0) := (blk_cell BK312.out 0).trans rfl
    have hcz13_1 : _ = some (Value.slice A1_1 l1_1.length c1_1) := (blk_cell BK312.out 1).trans rfl
    have hcz13_2 : _ = some (Value.slice A1_2 l1_2.length c1_2) := (blk_cell BK312.out 2).trans rfl
    have hfz13_0 := blk_frozen BK312.out 0
    have hfz13_1 := blk_frozen BK312.out 1
    have hfz13_2 := blk_frozen BK312.out 2
    go_wp2
    repeat (go_quiet (fail); try go_wp2)
    go_meet
    case rel => exact ⟨_, (true), (by first | rfl | (simp; done) | (simp [*]; done)), H', ⟨by first | omega | exact Nat.le_refl _⟩, ⟨pk BK311.out⟩, ⟨pk BK312.out⟩, ⟨by repeat (with_reducible first | exact HB.out | refine bz ?_ (by assumption) | apply bA | apply bN | apply bD)⟩⟩
  ·rw [if_neg c6] at H
   have c6b0 : (a0_0 == a1_0) = false := beq_eq_false_iff_ne.mpr c6
   have c6b1 : (a0_0 != a1_0) = true := bne_iff_ne.mpr c6
   (first | rw [c6b0] | (simp only [i64_w, i32_w]; rw [c6b0]) | skip)
   have H' := Aside0.mk H
   clear H
   have hnb14 := NB311_312.out
   have hnc14 := NB312_311.out
   have hcz15_0 : _ = some (Value.int .i64 a0_0) := (blk_cell BK311.out 0).trans rfl
   have hcz15_1 : _ = some (Value.slice A0_1 l0_1.length c0_1) := (blk_cell BK311.out 1).trans rfl
   have hcz15_2 : _ = some (Value.slice A0_2 l0_2.length c0_2) := (blk_cell BK311.out 2).trans rfl
   have hfz15_0 := blk_frozen BK311.out 0
   have hfz15_1 := blk_frozen BK311.out 1
   have hfz15_2 := blk_frozen BK311.out 2
   have hcz16_0 : _ = some (Value.int .i64 a1_0) := (blk_cell BK312.out 0).trans rfl
   have hcz16_1 : _ = some (Value.slice A1_1 l1_1.length c1_1) := (blk_cell BK312.out 1).trans rfl
   have hcz16_2 : _ = some (Value.slice A1_2 l1_2.length c1_2) := (blk_cell BK312.out 2).trans rfl
   have hfz16_0 := blk_frozen BK312.out 0
   have hfz16_1 := blk_frozen BK312.out 1
   have hfz16_2 := blk_frozen BK312.out 2
   go_wp2
   repeat (go_quiet (fail); try go_wp2)
   go_meet
   case rel => exact ⟨_, (true), (by first | rfl | (simp; done) | (simp [*]; done)), H', ⟨by first | omega | exact Nat.le_refl _⟩, ⟨pk BK311.out⟩, ⟨pk BK312.out⟩, ⟨by repeat (with_reducible first | exact HB.out | refine bz ?_ (by assumption) | apply bA | apply bN | apply bD)⟩⟩
 case rest =>
  clear HC3
  try clear c1; try clear c2; try clear p2; try clear c6; try clear c6b0; try clear c6b1; try clear c7; try clear c7b0; try clear c7b1; try clear c7b2; try clear c8; try clear c11; try clear c14; try clear hcz10_0; try clear hcz10_1; try clear hcz10_2; try clear hcz12_0; try clear hcz12_1; try clear hcz12_2; try clear hcz13_0; try clear hcz13_1; try clear hcz13_2; try clear hcz15_0; try clear hcz15_1; try clear hcz15_2; try clear hcz16_0; try clear hcz16_1; try clear hcz16_2; try clear hcz9_0; try clear hcz9_1; try clear hcz9_2; try clear hfz10_0; try clear hfz10_1; try clear hfz10_2; try clear hfz12_0; try clear hfz12_1; try clear hfz12_2; try clear hfz13_0; try clear hfz13_1; try clear hfz13_2; try clear hfz15_0; try clear hfz15_1; try clear hfz15_2; try clear hfz16_0; try clear hfz16_1; try clear hfz16_2; try clear hfz9_0; try clear hfz9_1; try clear hfz9_2
  obtain ⟨kq, x28_2, rfl, HA, HJ2, BK311, BK312, HB⟩ := hcut
  cases kq with
  | zero => exact absurd HA.out (by simp [spec_SameCounts.j0])
  | succ kj2 =>
   have H := HA.out
   clear HA
   simp only [spec_SameCounts.j0] at H
   by_cases c17 : x28_2 = true
   ·subst c17
    have H1 : (some false) = some r := by rw [if_pos rfl] at H; exact H
    clear H
    have H := H1
    clear H1
    obtain rfl := Option.some.inj H
    go_wp2
    repeat (go_quiet (fail); try go_wp2)
    go_ret
    exact ⟨by first | rfl | (simp [errW_none, errW_some] <;> rfl) | (simp [*, errW_none, errW_some] <;> rfl), by repeat (with_reducible first | exact HB.out | refine bz ?_ (by assumption) | apply bA | apply bN | apply bD)⟩
   ·replace c17 := Bool.eq_false_iff.mpr c17
    subst c17
    have H1 : (spec_SameCounts.l0 kj2 (l0_1.length : Int) 0 a0_0 l0_1 l0_2 a1_0 l1_1 l1_2) = some r := by rw [if_neg (show ¬ (false = true) by decide)] at H; exact H
    clear H
    have H := H1
    clear H1
    have H' := Aside0.mk H
    clear H
    have hnb18 := NB311_312.out
    have hnc18 := NB312_311.out
    have hcz19_0 : wc.cell? ⟨gb311, 0, none⟩ = some (.int .i64 a0_0) := (blk_cell BK311.out 0).trans rfl
    have hcz19_1 : wc.cell? ⟨gb311, 1, none⟩ = some (.slice A0_1 l0_1.length c0_1) := (blk_cell BK311.out 1).trans rfl
    have hcz19_2 : wc.cell? ⟨gb311, 2, none⟩ = some (.slice A0_2 l0_2.length c0_2) := (blk_cell BK311.out 2).trans rfl
    have hfz19_0 := blk_frozen BK311.out 0
    have hfz19_1 := blk_frozen BK311.out 1
    have hfz19_2 := blk_frozen BK311.out 2
    go_wp2
    repeat (go_quiet (fail); try go_wp2)
    go_loopg [32] kj2 (fun kq v32 w' => ∃ (x32_2 : Int), v32 = .int .i64 x32_2 ∧ Aside0 (spec_SameCounts.l0 kq (l0_1.length : Int) x32_2 a0_0 l0_1 l0_2 a1_0 l1_1 l1_2 = some r) ∧ Aside0 (kq ≤ kj2) ∧ Aside0 (w'.heap[gb311]? = some (.cells #[.int .i64 a0_0, (.slice A0_1 l0_1.length c0_1), (.slice A0_2 l0_2.length c0_2)] 31 (0, 0))) ∧ Aside0 (w'.heap[gb312]? = some (.cells #[.int .i64 a1_0, (.slice A1_1 l1_1.length c1_1), (.slice A1_2 l1_2.length c1_2)] 31 (0, 0))) ∧ Aside0 (Below w.heap.size w w'))
    case atStart => exact ⟨(0), (by first | rfl | (simp; done) | (simp [*]; done)), H', ⟨Nat.le_refl _⟩, ⟨pk BK311.out⟩, ⟨pk BK312.out⟩, ⟨by repeat (with_reducible first | exact HB.out | refine bz ?_ (by assumption) | apply bA | apply bN | apply bD)⟩⟩
    case round =>
     clear H'
     try clear c1; try clear c2; try clear p2; try clear c6; try clear c6b0; try clear c6b1; try clear c7; try clear c7b0; try clear c7b1; try clear c7b2; try clear c8; try clear c11; try clear c14; try clear c17; try clear c18; try clear hcz10_0; try clear hcz10_1; try clear hcz10_2; try clear hcz12_0; try clear hcz12_1; try clear hcz12_2; try clear hcz13_0; try clear hcz13_1; try clear hcz13_2; try clear hcz15_0; try clear hcz15_1; try clear hcz15_2; try clear hcz16_0; try clear hcz16_1; try clear hcz16_2; try clear hcz19_0; try clear hcz19_1; try clear hcz19_2; try clear hcz9_0; try clear hcz9_1; try clear hcz9_2; try clear hfz10_0; try clear hfz10_1; try clear hfz10_2; try clear hfz12_0; try clear hfz12_1; try clear hfz12_2; try clear hfz13_0; try clear hfz13_1; try clear hfz13_2; try clear hfz15_0; try clear hfz15_1; try clear hfz15_2; try clear hfz16_0; try clear hfz16_1; try clear hfz16_2; try clear hfz19_0; try clear hfz19_1; try clear hfz19_2; try clear hfz9_0; try clear hfz9_1; try clear hfz9_2; try clear p2
     obtain ⟨x32_2, rfl, HA, HK2, BK311, BK312, HB⟩ := hrel
     cases gk with
     | zero => exact absurd HA.out (by simp [spec_SameCounts.l0])
     | succ k2 =>
      have H := HA.out
      clear HA
      simp only [spec_SameCounts.l0] at H
      by_cases c20 : x32_2 < (l0_1.length : Int)
      ·rw [if_pos c20] at H
       have c20b0 : decide (x32_2 < (l0_1.length : Int)) = true := decide_eq_true c20
       clear c20
       by_cases c21 : 0 ≤ x32_2
       ·rw [if_pos c21] at H
        have c21b0 : decide (0 ≤ x32_2) = true := decide_eq_true c21
        clear c21
        by_cases c22 : x32_2 < (l0_1.length : Int)
        ·rw [if_pos c22] at H
         have c22b0 : decide (x32_2 < (l0_1.length : Int)) = true := decide_eq_true c22
         clear c22
         by_cases c23 : x32_2 < (l1_1.length : Int)
         ·rw [if_pos c23] at H
          have c23b0 : decide (x32_2 < (l1_1.length : Int)) = true := decide_eq_true c23
          clear c23
          by_cases c24 : (rd l0_1 x32_2) = (rd l1_1 x32_2)
          ·rw [if_pos c24] at H
           have c24b0 : ((rd l0_1 x32_2) == (rd l1_1 x32_2)) = true := beq_iff_eq.mpr c24
           have c24b1 : ((rd l0_1 x32_2) != (rd l1_1 x32_2)) = false := bne_eq_false_iff_eq.mpr c24
           clear c24
           by_cases c25 : x32_2 < (l0_2.length : Int)
           ·rw [if_pos c25] at H
            have c25b0 : decide (x32_2 < (l0_2.length : Int)) = true := decide_eq_true c25
            clear c25
            by_cases c26 : x32_2 < (l1_2.length : Int)
            ·rw [if_pos c26] at H
             have c26b0 : decide (x32_2 < (l1_2.length : Int)) = true := decide_eq_true c26
             clear c26
             by_cases c27 : (rd l0_2 x32_2) = (rd l1_2 x32_2)
             ·rw [if_pos c27] at H
              have c27b0 : ((rd l0_2 x32_2) == (rd l1_2 x32_2)) = true := beq_iff_eq.mpr c27
              have c27b1 : ((rd l0_2 x32_2) != (rd l1_2 x32_2)) = false := bne_eq_false_iff_eq.mpr c27
              clear c27
              have H' := Aside0.mk H
              clear H
              have hnb28 := NB311_312.out
              have hnc28 := NB312_311.out
              have hcz29_0 : wr.cell? ⟨gb311, 0, none⟩ = some (.int .i64 a0_0) := (blk_cell BK311.out 0).trans rfl
              have hcz29_1 : wr.cell? ⟨gb311, 1, none⟩ = some (.slice A0_1 l0_1.length c0_1) := (blk_cell BK311.out 1).trans rfl
              have hcz29_2 : wr.cell? ⟨gb311, 2, none⟩ = some (.slice A0_2 l0_2.length c0_2) := (blk_cell BK311.out 2).trans rfl
              have hfz29_0 := blk_frozen BK311.out 0
              have hfz29_1 := blk_frozen BK311.out 1
              have hfz29_2 := blk_frozen BK311.out 2
              have p313 : 0 ≤ (x32_2 : Int) := of_decide_eq_true (by first | (with_reducible assumption) | assumption)
              have q313 : x32_2 < (l0_1.length : Int) := of_decide_eq_true (by first | (with_reducible assumption) | assumption)
              obtain ⟨ad313, e313, hx313_0⟩ := Kd.at_int HR0_1.out x32_2 p313 q313
              cases e313
              replace hx313_0 := (HB.out.cell (World.block_lt_of_cell? w _ hx313_0)).trans hx313_0
              replace p313 := eq_true p313
              replace q313 := eq_true q313
              have hcz30_0 : wr.cell? ⟨gb312, 0, none⟩ = some (.int .i64 a1_0) := (blk_cell BK312.out 0).trans rfl
              have hcz30_1 : wr.cell? ⟨gb312, 1, none⟩ = some (.slice A1_1 l1_1.length c1_1) := (blk_cell BK312.out 1).trans rfl
              have hcz30_2 : wr.cell? ⟨gb312, 2, none⟩ = some (.slice A1_2 l1_2.length c1_2) := (blk_cell BK312.out 2).trans rfl
              have hfz30_0 := blk_frozen BK312.out 0
              have hfz30_1 := blk_frozen BK312.out 1
              have hfz30_2 := blk_frozen BK312.out 2
              have p314 : 0 ≤ (x32_2 : Int) := of_decide_eq_true (by first | (with_reducible assumption) | assumption)
              have q314 : x32_2 < (l1_1.length : Int) := of_decide_eq_true (by first | (with_reducible assumption) | assumption)
              obtain ⟨ad314, e314, hx314_0⟩ := Kd.at_int HR1_1.out x32_2 p314 q314
              cases e314
              replace hx314_0 := (HB.out.cell (World.block_lt_of_cell? w _ hx314_0)).trans hx314_0
              replace p314 := eq_true p314
              replace q314 := eq_true q314
              have p315 : 0 ≤ (x32_2 : Int) := of_decide_eq_true (by first | (with_reducible assumption) | assumption)
              have q315 : x32_2 < (l0_2.length : Int) := of_decide_eq_true (by first | (with_reducible assumption) | assumption)
              obtain ⟨ad315, e315, hx315_0⟩ := Kd.at_int HR0_2.out x32_2 p315 q315
              cases e315
              replace hx315_0 := (HB.out.cell (World.block_lt_of_cell? w _ hx315_0)).trans hx315_0
              replace p315 := eq_true p315
              replace q315 := eq_true q315
              have p316 : 0 ≤ (x32_2 : Int) := of_decide_eq_true (by first | (with_reducible assumption) | assumption)
              have q316 : x32_2 < (l1_2.length : Int) := of_decide_eq_true (by first | (with_reducible assumption) | assumption)
              obtain ⟨ad316, e316, hx316_0⟩ := Kd.at_int HR1_2.out x32_2 p316 q316
              cases e316
              replace hx316_0 := (HB.out.cell (World.block_lt_of_cell? w _ hx316_0)).trans hx316_0
              replace p316 := eq_true p316
              replace q316 := eq_true q316
              go_wp2
              repeat (go_quiet (fail); try go_wp2)
              go_roundg k2
              case measure => have := HJ2.out; have := HK2.out; omega
              case rel => exact ⟨(wrap64 (x32_2 + 1)), (by first | rfl | (simp; done) | (simp [*]; done)), H', ⟨by have := HJ2.out; have := HK2.out; omega⟩, ⟨pk BK311.out⟩, ⟨pk BK312.out⟩, ⟨by repeat (with_reducible first | exact HB.out | refine bz ?_ (by assumption) | apply bA | apply bN | apply bD)⟩⟩
             ·rw [if_neg c27] at H
              have c27b0 : ((rd l0_2 x32_2) == (rd l1_2 x32_2)) = false := beq_eq_false_iff_ne.mpr c27
              have c27b1 : ((rd l0_2 x32_2) != (rd l1_2 x32_2)) = true := bne_iff_ne.mpr c27
              obtain rfl := Option.some.inj H
              have hnb31 := NB311_312.out
              have hnc31 := NB312_311.out
              have hcz32_0 : wr.cell? ⟨gb311, 0, none⟩ = some (.int .i64 a0_0) := (blk_cell BK311.out 0).trans rfl
              have hcz32_1 : wr.cell? ⟨gb311, 1, none⟩ = some (.slice A0_1 l0_1.length c0_1) := (blk_cell BK311.out 1).trans rfl
              have hcz32_2 : wr.cell? ⟨gb311, 2, none⟩ = some (.slice A0_2 l0_2.length c0_2) := (blk_cell BK311.out 2).trans rfl
              have hfz32_0 := blk_frozen BK311.out 0
              have hfz32_1 := blk_frozen BK311.out 1
              have hfz32_2 := blk_frozen BK311.out 2
              have p313 : 0 ≤ (x32_2 : Int) := of_decide_eq_true (by first | (with_reducible assumption) | assumption)
              have q313 : x32_2 < (l0_1.length : Int) := of_decide_eq_true (by first | (with_reducible assumption) | assumption)
              obtain ⟨ad313, e313, hx313_0⟩ := Kd.at_int HR0_1.out x32_2 p313 q313
              cases e313
              replace hx313_0 := (HB.out.cell (World.block_lt_of_cell? w _ hx313_0)).trans hx313_0
              replace p313 := eq_true p313
              replace q313 := eq_true q313
              have hcz33_0 : wr.cell? ⟨gb312, 0, none⟩ = some (.int .i64 a1_0) := (blk_cell BK312.out 0).trans rfl
              have hcz33_1 : wr.cell? ⟨gb312, 1, none⟩ = some (.slice A1_1 l1_1.length c1_1) := (blk_cell BK312.out 1).trans rfl
              have hcz33_2 : wr.cell? ⟨gb312, 2, none⟩ = some (.slice A1_2 l1_2.length c1_2) := (blk_cell BK312.out 2).trans rfl
              have hfz33_0 := blk_frozen BK312.out 0
              have hfz33_1 := blk_frozen BK312.out 1
              have hfz33_2 := blk_frozen BK312.out 2
              have p314 : 0 ≤ (x32_2 : Int) := of_decide_eq_true (by first | (with_reducible assumption) | assumption)
              have q314 : x32_2 < (l1_1.length : Int) := of_decide_eq_true (by first | (with_reducible assumption) | assumption)
              obtain ⟨ad314, e314, hx314_0⟩ := Kd.at_int HR1_1.out x32_2 p314 q314
              cases e314
              replace hx314_0 := (HB.out.cell (World.block_lt_of_cell? w _ hx314_0)).trans hx314_0
              replace p314 := eq_true p314
              replace q314 := eq_true q314
              have p315 : 0 ≤ (x32_2 : Int) := of_decide_eq_true (by first | (with_reducible assumption) | assumption)
              have q315 : x32_2 < (l0_2.length : Int) := of_decide_eq_true (by first | (with_reducible assumption) | assumption)
              obtain ⟨ad315, e315, hx315_0⟩ := Kd.at_int HR0_2.out x32_2 p315 q315
              cases e315
              replace hx315_0 := (HB.out.cell (World.block_lt_of_cell? w _ hx315_0)).trans hx315_0
              replace p315 := eq_true p315
              replace q315 := eq_true q315
              have p316 : 0 ≤ (x32_2 : Int) := of_decide_eq_true (by first | (with_reducible assumption) | assumption)
              have q316 : x32_2 < (l1_2.length : Int) := of_decide_eq_true (by first | (with_reducible assumption) | assumption)
              obtain ⟨ad316, e316, hx316_0⟩ := Kd.at_int HR1_2.out x32_2 p316 q316
              cases e316
              replace hx316_0 := (HB.out.cell (World.block_lt_of_cell? w _ hx316_0)).trans hx316_0
              replace p316 := eq_true p316
              replace q316 := eq_true q316
              go_wp2
              repeat (go_quiet (fail); try go_wp2)
              go_ret
              exact ⟨by first | rfl | (simp [errW_none, errW_some] <;> rfl) | (simp [*, errW_none, errW_some] <;> rfl), by repeat (with_reducible first | exact HB.out | refine bz ?_ (by assumption) | apply bA | apply bN | apply bD)⟩
            ·rw [if_neg c26] at H
             exact absurd H (by simp)
           ·rw [if_neg c25] at H
            exact absurd H (by simp)
          ·rw [if_neg c24] at H
           have c24b0 : ((rd l0_1 x32_2) == (rd l1_1 x32_2)) = false := beq_eq_false_iff_ne.mpr c24
           have c24b1 : ((rd l0_1 x32_2) != (rd l1_1 x32_2)) = true := bne_iff_ne.mpr c24
           obtain rfl := Option.some.inj H
           have hnb34 := NB311_312.out
           have hnc34 := NB312_311.out
           have hcz35_0 : wr.cell? ⟨gb311, 0, none⟩ = some (.int .i64 a0_0) := (blk_cell BK311.out 0).trans rfl
           have hcz35_1 : wr.cell? ⟨gb311, 1, none⟩ = some (.slice A0_1 l0_1.length c0_1) := (blk_cell BK311.out 1).trans rfl
           have hcz35_2 : wr.cell? ⟨gb311, 2, none⟩ = some (.slice A0_2 l0_2.length c0_2) := (blk_cell BK311.out 2).trans rfl
           have hfz35_0 := blk_frozen BK311.out 0
           have hfz35_1 := blk_frozen BK311.out 1
           have hfz35_2 := blk_frozen BK311.out 2
           have p313 : 0 ≤ (x32_2 : Int) := of_decide_eq_true (by first | (with_reducible assumption) | assumption)
           have q313 : x32_2 < (l0_1.length : Int) := of_decide_eq_true (by first | (with_reducible assumption) | assumption)
           obtain ⟨ad313, e313, hx313_0⟩ := Kd.at_int HR0_1.out x32_2 p313 q313
           cases e313
           replace hx313_0 := (HB.out.cell (World.block_lt_of_cell? w _ hx313_0)).trans hx313_0
           replace p313 := eq_true p313
           replace q313 := eq_true q313
           have hcz36_0 : wr.cell? ⟨gb312, 0, none⟩ = some (.int .i64 a1_0) := (blk_cell BK312.out 0).trans rfl
           have hcz36_1 : wr.cell? ⟨gb312, 1, none⟩ = some (.slice A1_1 l1_1.length c1_1) := (blk_cell BK312.out 1).trans rfl
           have hcz36_2 : wr.cell? ⟨gb312, 2, none⟩ = some (.slice A1_2 l1_2.length c1_2) := (blk_cell BK312.out 2).trans rfl
           have hfz36_0 := blk_frozen BK312.out 0
           have hfz36_1 := blk_frozen BK312.out 1
           have hfz36_2 := blk_frozen BK312.out 2
           have p314 : 0 ≤ (x32_2 : Int) := of_decide_eq_true (by first | (with_reducible assumption) | assumption)
           have q314 : x32_2 < (l1_1.length : Int) := of_decide_eq_true (by first | (with_reducible assumption) | assumption)
           obtain ⟨ad314, e314, hx314_0⟩ := Kd.at_int HR1_1.out x32_2 p314 q314
           cases e314
           replace hx314_0 := (HB.out.cell (World.block_lt_of_cell? w _ hx314_0)).trans hx314_0
           replace p314 := eq_true p314
           replace q314 := eq_true q314
           go_wp2
           repeat (go_quiet (fail); try go_wp2)
           go_ret
           exact ⟨by first | rfl | (simp [errW_none, errW_some] <;> rfl) | (simp [*, errW_none, errW_some] <;> rfl), by repeat (with_reducible first | exact HB.out | refine bz ?_ (by assumption) | apply bA | apply bN | apply bD)⟩
         ·rw [if_neg c23] at H
          exact absurd H (by simp)
        ·rw [if_neg c22] at H
         exact absurd H (by simp)
       ·rw [if_neg c21] at H
        exact absurd H (by simp)
      ·rw [if_neg c20] at H
       have c20b0 : decide (x32_2 < (l0_1.length : Int)) = false := decide_eq_false c20
       clear c20
       obtain rfl := Option.some.inj H
       go_wp2
       repeat (go_quiet (fail); try go_wp2)
       go_ret
       exact ⟨by first | rfl | (simp [errW_none, errW_some] <;> rfl) | (simp [*, errW_none, errW_some] <;> rfl), by repeat (with_reducible first | exact HB.out | refine bz ?_ (by assumption) | apply bA | apply bN | apply bD)⟩

/-! ### laws_FnCounts: function 5 -/
def laws_FnCounts.j0 : Nat → List Int → List Int → Bool → Option (Bool)
 | 0, _, _, _ => none
 | k + 1, x0, x1, x29 => if x29 = true then (some true) else ((spec_DrawAddRay.f k x0).bind fun bt317 => ((laws_zByte.f x1 0).bind fun t330 => (if (wrap64 (bt317.1 + 1)) = 0 then (none) else ((impl_AddRay.f k bt317.1 bt317.2.1 bt317.2.2.1 bt317.2.2.2.1 bt317.2.2.2.2.1 bt317.2.2.2.2.2.1 bt317.2.2.2.2.2.2.1 bt317.2.2.2.2.2.2.2).bind fun bt331 => ((spec_AddRay.f k bt317.1 bt317.2.1 bt317.2.2.1 bt317.2.2.2.1 bt317.2.2.2.2.1 bt317.2.2.2.2.2.1 bt317.2.2.2.2.2.2.1 bt317.2.2.2.2.2.2.2).bind fun bt340 => (if (bt331.2.2.2 != bt340.2.2.2) = true then (none) else ((impl_AddRay.f k bt331.1 bt331.2.1 bt331.2.2.1 (Int.tmod t330 (wrap64 (bt317.1 + 1))) 0 bt317.2.2.2.1 bt317.2.2.2.2.1 (!bt317.2.2.2.2.2.2.2)).bind fun bt349 => ((impl_AddRay.f k bt317.1 bt317.2.1 bt317.2.2.1 (Int.tmod t330 (wrap64 (bt317.1 + 1))) 0 bt317.2.2.2.1 bt317.2.2.2.2.1 (!bt317.2.2.2.2.2.2.2)).bind fun bt358 => ((impl_AddRay.f k bt358.1 bt358.2.1 bt358.2.2.1 bt317.2.2.2.1 bt317.2.2.2.2.1 bt317.2.2.2.2.2.1 bt317.2.2.2.2.2.2.1 bt317.2.2.2.2.2.2.2).bind fun bt367 => (if bt331.2.2.2 = true then (if bt349.2.2.2 = true then (if bt358.2.2.2 = true then (if bt367.2.2.2 = true then ((spec_SameCounts.f k bt349.1 bt349.2.1 bt349.2.2.1 bt367.1 bt367.2.1 bt367.2.2.1).bind fun t376 => (some t376)) else (some true)) else (some true)) else (some true)) else (some true)))))))))))
def laws_FnCounts.f (k : Nat) (l0 : List Int) (l1 : List Int) : Option (Bool) := if (l0.length : Int) > 1048576 then (laws_FnCounts.j0 k l0 l1 true) else (laws_FnCounts.j0 k l0 l1 (decide ((l1.length : Int) > 1048576)))
theorem laws_FnCounts.mono_l : ∀ k, (∀ y0 y1 y2, LeO (laws_FnCounts.j0 k y0 y1 y2) (laws_FnCounts.j0 (k + 1) y0 y1 y2))
 | 0 => fun _ _ _ r h => by simp [laws_FnCounts.j0] at h
 | k + 1 => by
  have ih0 := laws_FnCounts.mono_l k
  ·intro y0 y1 y2
   unfold laws_FnCounts.j0
   repeat' first
   | (with_reducible exact ih0 _ _ _)
   | (with_reducible exact impl_AddRay.mono _ _ _ _ _ _ _ _ _)
   | (with_reducible exact spec_AddRay.mono _ _ _ _ _ _ _ _ _)
   | (with_reducible exact spec_DrawAddRay.mono _ _)
   | (with_reducible exact spec_SameCounts.mono _ _ _ _ _ _ _)
   | (with_reducible exact LeO.refl _)
   | (with_reducible exact LeO.none _)
   | (with_reducible refine LeO.ite ?_ ?_)
   | (with_reducible refine LeO.bind ?_ (fun _ => ?_))
   | exact ih0 _ _ _
   | exact impl_AddRay.mono _ _ _ _ _ _ _ _ _
   | exact spec_AddRay.mono _ _ _ _ _ _ _ _ _
   | exact spec_DrawAddRay.mono _ _
   | exact spec_SameCounts.mono _ _ _ _ _ _ _
   | exact LeO.none _
   | refine LeO.ite ?_ ?_
   | refine LeO.bind ?_ (fun _ => ?_)
theorem laws_FnCounts.mono : ∀ a0 a1 k, LeO (laws_FnCounts.f k a0 a1) (laws_FnCounts.f (k + 1) a0 a1) := by
 intro a0 a1 k
 have ih0 := laws_FnCounts.mono_l k
 unfold laws_FnCounts.f
 repeat' first
   | (with_reducible exact ih0 _ _ _)
   | (with_reducible exact impl_AddRay.mono _ _ _ _ _ _ _ _ _)
   | (with_reducible exact spec_AddRay.mono _ _ _ _ _ _ _ _ _)
   | (with_reducible exact spec_DrawAddRay.mono _ _)
   | (with_reducible exact spec_SameCounts.mono _ _ _ _ _ _ _)
   | (with_reducible exact LeO.refl _)
   | (with_reducible exact LeO.none _)
   | (with_reducible refine LeO.ite ?_ ?_)
   | (with_reducible refine LeO.bind ?_ (fun _ => ?_))
   | exact ih0 _ _ _
   | exact impl_AddRay.mono _ _ _ _ _ _ _ _ _
   | exact spec_AddRay.mono _ _ _ _ _ _ _ _ _
   | exact spec_DrawAddRay.mono _ _
   | exact spec_SameCounts.mono _ _ _ _ _ _ _
   | exact LeO.none _
   | refine LeO.ite ?_ ?_
   | refine LeO.bind ?_ (fun _ => ?_)
set_option maxHeartbeats 8000000 in
set_option maxRecDepth 100000 in
theorem laws_FnCounts.calls (k : Nat) (A0 : Option Addr) (c0 : Nat) (l0 : List Int) (A1 : Option Addr) (c1 : Nat) (l1 : List Int) (r : Bool) (w : World) (hr0 : Kd.C (Kd.int .u8) w A0 l0.length l0) (hc0 : l0.length ≤ c0) (hr1 : Kd.C (Kd.int .u8) w A1 l1.length l1) (hc1 : l1.length ≤ c1) (h : laws_FnCounts.f k l0 l1 = some r) :
  Calls Try.prog 5 #[.slice A0 l0.length c0, .slice A1 l1.length c1] w fun e w' => e = .returned (.bool r) ∧ Below w.heap.size w w' := by
 have hu31 := Try.underlying31
 have HR0 := Aside0.mk hr0
 have HC0 := Aside0.mk hc0
 clear hr0 hc0
 have HR1 := Aside0.mk hr1
 have HC1 := Aside0.mk hc1
 clear hr1 hc1
 have HB := a_ (Below.refl w.heap.size w)
 have H : (if (l0.length : Int) > 1048576 then (laws_FnCounts.j0 k l0 l1 true) else (laws_FnCounts.j0 k l0 l1 (decide ((l1.length : Int) > 1048576)))) = some r := h
 clear h
 have HC3 := Aside0.mk H
 clear H
 go_enter Try.func5, Try.ntmps5
 go_upto_region 1 with (fail)
 repeat (go_quiet (fail); go_upto_region 1 with (fail))
 go_cut [29] (fun v29 wc => ∃ (kq : Nat) (x29_2 : Bool), v29 = .bool x29_2 ∧ Aside0 (laws_FnCounts.j0 kq l0 l1 x29_2 = some r) ∧ Aside0 (kq ≤ k) ∧ Aside0 (Below w.heap.size w wc))
 case first =>
  have H := HC3.out
  clear HC3
  by_cases c4 : (l0.length : Int) > 1048576
  ·rw [if_pos c4] at H
   have c4b0 : decide (1048576 < (l0.length : Int)) = true := decide_eq_true c4
   have c4b1 : decide (1048576 < l0.length) = true := decide_eq_true (by omega)
   clear c4
   (first | rw [c4b0] | (simp only [i64_w, i32_w]; rw [c4b0]) | skip)
   have H' := Aside0.mk H
   clear H
   go_wp2
   repeat (go_quiet (fail); try go_wp2)
   go_meet
   case rel => exact ⟨_, (true), (by first | rfl | (simp; done) | (simp [*]; done)), H', ⟨by first | omega | exact Nat.le_refl _⟩, ⟨un HB.out⟩⟩
  ·rw [if_neg c4] at H
   have c4b0 : decide (1048576 < (l0.length : Int)) = false := decide_eq_false c4
   have c4b1 : decide (1048576 < l0.length) = false := decide_eq_false (by omega)
   clear c4
   (first | rw [c4b0] | (simp only [i64_w, i32_w]; rw [c4b0]) | skip)
   have H' := Aside0.mk H
   clear H
   go_wp2
   repeat (go_quiet (fail); try go_wp2)
   go_meet
   case rel => exact ⟨_, (decide ((l1.length : Int) > 1048576)), (by first | rfl | (simp; done) | (simp [*]; done)), H', ⟨by first | omega | exact Nat.le_refl _⟩, ⟨un HB.out⟩⟩
 case rest =>
  clear HC3
  try clear c1; try clear p2; try clear c4; try clear c4b0; try clear c4b1
  obtain ⟨kq, x29_2, rfl, HA, HJ2, HB⟩ := hcut
  cases kq with
  | zero => exact absurd HA.out (by simp [laws_FnCounts.j0])
  | succ kj2 =>
   have H := HA.out
   clear HA
   simp only [laws_FnCounts.j0] at H
   by_cases c5 : x29_2 = true
   ·subst c5
    have H1 : (some true) = some r := by rw [if_pos rfl] at H; exact H
    clear H
    have H := H1
    clear H1
    obtain rfl := Option.some.inj H
    go_wp2
    repeat (go_quiet (fail); try go_wp2)
    go_ret
    exact ⟨by first | rfl | (simp [errW_none, errW_some] <;> rfl) | (simp [*, errW_none, errW_some] <;> rfl), un HB.out⟩
   ·replace c5 := Bool.eq_false_iff.mpr c5
    subst c5
    have H1 : ((spec_DrawAddRay.f kj2 l0).bind fun bt317 => ((laws_zByte.f l1 0).bind fun t330 => (if (wrap64 (bt317.1 + 1)) = 0 then (none) else ((impl_AddRay.f kj2 bt317.1 bt317.2.1 bt317.2.2.1 bt317.2.2.2.1 bt317.2.2.2.2.1 bt317.2.2.2.2.2.1 bt317.2.2.2.2.2.2.1 bt317.2.2.2.2.2.2.2).bind fun bt331 => ((spec_AddRay.f kj2 bt317.1 bt317.2.1 bt317.2.2.1 bt317.2.2.2.1 bt317.2.2.2.2.1 bt317.2.2.2.2.2.1 bt317.2.2.2.2.2.2.1 bt317.2.2.2.2.2.2.2).bind fun bt340 => (if (bt331.2.2.2 != bt340.2.2.2) = true then (none) else ((impl_AddRay.f kj2 bt331.1 bt331.2.1 bt331.2.2.1 (Int.tmod t330 (wrap64 (bt317.1 + 1))) 0 bt317.2.2.2.1 bt317.2.2.2.2.1 (!bt317.2.2.2.2.2.2.2)).bind fun bt349 => ((impl_AddRay.f kj2 bt317.1 bt317.2.1 bt317.2.2.1 (Int.tmod t330 (wrap64 (bt317.1 + 1))) 0 bt317.2.2.2.1 bt317.2.2.2.2.1 (!bt317.2.2.2.2.2.2.2)).bind fun bt358 => ((impl_AddRay.f kj2 bt358.1 bt358.2.1 bt358.2.2.1 bt317.2.2.2.1 bt317.2.2.2.2.1 bt317.2.2.2.2.2.1 bt317.2.2.2.2.2.2.1 bt317.2.2.2.2.2.2.2).bind fun bt367 => (if bt331.2.2.2 = true then (if bt349.2.2.2 = true then (if bt358.2.2.2 = true then (if bt367.2.2.2 = true then ((spec_SameCounts.f kj2 bt349.1 bt349.2.1 bt349.2.2.1 bt367.1 bt367.2.1 bt367.2.2.1).bind fun t376 => (some t376)) else (some true)) else (some true)) else (some true)) else (some true))))))))))) = some r := by rw [if_neg (show ¬ (false = true) by decide)] at H; exact H
    clear H
    have H := H1
    clear H1
    replace H := Option.bind_eq_some_iff.mp H
    obtain ⟨⟨t317, t318, t321, t324, t325, t326, t327, t328⟩, A60, H⟩ := H
    replace H : ((laws_zByte.f l1 0).bind fun t330 => (if (wrap64 (t317 + 1)) = 0 then (none) else ((impl_AddRay.f kj2 t317 t318 t321 t324 t325 t326 t327 t328).bind fun bt331 => ((spec_AddRay.f kj2 t317 t318 t321 t324 t325 t326 t327 t328).bind fun bt340 => (if (bt331.2.2.2 != bt340.2.2.2) = true then (none) else ((impl_AddRay.f kj2 bt331.1 bt331.2.1 bt331.2.2.1 (Int.tmod t330 (wrap64 (t317 + 1))) 0 t324 t325 (!t328)).bind fun bt349 => ((impl_AddRay.f kj2 t317 t318 t321 (Int.tmod t330 (wrap64 (t317 + 1))) 0 t324 t325 (!t328)).bind fun bt358 => ((impl_AddRay.f kj2 bt358.1 bt358.2.1 bt358.2.2.1 t324 t325 t326 t327 t328).bind fun bt367 => (if bt331.2.2.2 = true then (if bt349.2.2.2 = true then (if bt358.2.2.2 = true then (if bt367.2.2.2 = true then ((spec_SameCounts.f kj2 bt349.1 bt349.2.1 bt349.2.2.1 bt367.1 bt367.2.1 bt367.2.2.1).bind fun t376 => (some t376)) else (some true)) else (some true)) else (some true)) else (some true)))))))))) = some r := H
    have A6 := Aside0.mk A60
    clear A60
    replace H := Option.bind_eq_some_iff.mp H
    obtain ⟨t330, A70, H⟩ := H
    have A7 := Aside0.mk A70
    clear A70
    by_cases c8 : (wrap64 (t317 + 1)) = 0
    ·rw [if_pos c8] at H
     exact absurd H (by simp)
    ·rw [if_neg c8] at H
     have c8b0 : ((wrap64 (t317 + 1)) == 0) = false := beq_eq_false_iff_ne.mpr c8
     have c8b1 : ((wrap64 (t317 + 1)) != 0) = true := bne_iff_ne.mpr c8
     replace H := Option.bind_eq_some_iff.mp H
     obtain ⟨⟨t331, t332, t335, t338⟩, A90, H⟩ := H
     replace H : ((spec_AddRay.f kj2 t317 t318 t321 t324 t325 t326 t327 t328).bind fun bt340 => (if (t338 != bt340.2.2.2) = true then (none) else ((impl_AddRay.f kj2 t331 t332 t335 (Int.tmod t330 (wrap64 (t317 + 1))) 0 t324 t325 (!t328)).bind fun bt349 => ((impl_AddRay.f kj2 t317 t318 t321 (Int.tmod t330 (wrap64 (t317 + 1))) 0 t324 t325 (!t328)).bind fun bt358 => ((impl_AddRay.f kj2 bt358.1 bt358.2.1 bt358.2.2.1 t324 t325 t326 t327 t328).bind fun bt367 => (if t338 = true then (if bt349.2.2.2 = true then (if bt358.2.2.2 = true then (if bt367.2.2.2 = true then ((spec_SameCounts.f kj2 bt349.1 bt349.2.1 bt349.2.2.1 bt367.1 bt367.2.1 bt367.2.2.1).bind fun t376 => (some t376)) else (some true)) else (some true)) else (some true)) else (some true))))))) = some r := H
     have A9 := Aside0.mk A90
     clear A90
     replace H := Option.bind_eq_some_iff.mp H
     obtain ⟨⟨t340, t341, t344, t347⟩, A100, H⟩ := H
     replace H : (if (t338 != t347) = true then (none) else ((impl_AddRay.f kj2 t331 t332 t335 (Int.tmod t330 (wrap64 (t317 + 1))) 0 t324 t325 (!t328)).bind fun bt349 => ((impl_AddRay.f kj2 t317 t318 t321 (Int.tmod t330 (wrap64 (t317 + 1))) 0 t324 t325 (!t328)).bind fun bt358 => ((impl_AddRay.f kj2 bt358.1 bt358.2.1 bt358.2.2.1 t324 t325 t326 t327 t328).bind fun bt367 => (if t338 = true then (if bt349.2.2.2 = true then (if bt358.2.2.2 = true then (if bt367.2.2.2 = true then ((spec_SameCounts.f kj2 bt349.1 bt349.2.1 bt349.2.2.1 bt367.1 bt367.2.1 bt367.2.2.1).bind fun t376 => (some t376)) else (some true)) else (some true)) else (some true)) else (some true)))))) = some r := H
     have A10 := Aside0.mk A100
     clear A100
     by_cases c11 : (t338 != t347) = true
     ·rw [if_pos c11] at H
      exact absurd H (by simp)
     ·rw [if_neg c11] at H
      have c11b0 : (t338 != t347) = false := by simpa using c11
      (try (have c11b1 : decide (t338 = t347) = true := by simpa using c11))
      (try (have c11b2 : (t338 == t347) = true := by simpa using c11))
      clear c11
      replace H := Option.bind_eq_some_iff.mp H
      obtain ⟨⟨t349, t350, t353, t356⟩, A120, H⟩ := H
      replace H : ((impl_AddRay.f kj2 t317 t318 t321 (Int.tmod t330 (wrap64 (t317 + 1))) 0 t324 t325 (!t328)).bind fun bt358 => ((impl_AddRay.f kj2 bt358.1 bt358.2.1 bt358.2.2.1 t324 t325 t326 t327 t328).bind fun bt367 => (if t338 = true then (if t356 = true then (if bt358.2.2.2 = true then (if bt367.2.2.2 = true then ((spec_SameCounts.f kj2 t349 t350 t353 bt367.1 bt367.2.1 bt367.2.2.1).bind fun t376 => (some t376)) else (some true)) else (some true)) else (some true)) else (some true)))) = some r := H
      have A12 := Aside0.mk A120
      clear A120
      replace H := Option.bind_eq_some_iff.mp H
      obtain ⟨⟨t358, t359, t362, t365⟩, A130, H⟩ := H
      replace H : ((impl_AddRay.f kj2 t358 t359 t362 t324 t325 t326 t327 t328).bind fun bt367 => (if t338 = true then (if t356 = true then (if t365 = true then (if bt367.2.2.2 = true then ((spec_SameCounts.f kj2 t349 t350 t353 bt367.1 bt367.2.1 bt367.2.2.1).bind fun t376 => (some t376)) else (some true)) else (some true)) else (some true)) else (some true))) = some r := H
      have A13 := Aside0.mk A130
      clear A130
      replace H := Option.bind_eq_some_iff.mp H
      obtain ⟨⟨t367, t368, t371, t374⟩, A140, H⟩ := H
      replace H : (if t338 = true then (if t356 = true then (if t365 = true then (if t374 = true then ((spec_SameCounts.f kj2 t349 t350 t353 t367 t368 t371).bind fun t376 => (some t376)) else (some true)) else (some true)) else (some true)) else (some true)) = some r := H
      have A14 := Aside0.mk A140
      clear A140
      have HQ := Aside0.mk H
      clear H
      go_upto_region 4 with (first | (go_at_call 18; (with_reducible refine (spec_DrawAddRay.calls kj2 _ _ l0 t317 t318 t321 t324 t325 t326 t327 t328 _ ?side1 ?side2 A6.out).mono ?_); (case side1 => exact Kd.C_below HR0.out (un HB.out)); (case side2 => exact HC0.out); rintro e w20 ⟨v319, v322, rfl, ho0, ho1, hb⟩; have HO320 := a_ (Kd.R_lower ho0 (bs HB.out)); have HO323 := a_ (Kd.R_lower ho1 (bs HB.out)); replace HB := a_ (below_step (un HB.out) hb); clear hb ho0 ho1) | ((with_reducible refine gate_dst (N := 5) rfl ?_); (try (refine gate_guard (by rfl) ?_; dsimp only)); refine box_event ?hg (N := 5) ?hd (cs := #[.int .i64 0, .slice none 0 0, .slice none 0 0]) (t := 31) ?hr ?_; (case hd => rfl); (case hg => rfl); (case hr => first | (go_simp; done) | (go_simp; rfl)); intro gb329 hg w21 hbox hb; replace HO320 := a_ (Kd.R_below (rk HO320.out) hb); replace HO323 := a_ (Kd.R_below (rk HO323.out) hb); have BK329 := a_ (hbox); have GW329 := a_ (bsg hg HB.out); have GE329 := a_ (bsg hg HB.out); replace HB := a_ (below_step (un HB.out) hb); clear hb hbox hg; have hcz22_0 : _ = some (Value.int .i64 0) := (blk_cell BK329.out 0).trans rfl; have hcz22_1 : _ = some (Value.slice none 0 0) := (blk_cell BK329.out 1).trans rfl; have hcz22_2 : _ = some (Value.slice none 0 0) := (blk_cell BK329.out 2).trans rfl; have hfz22_0 := blk_frozen BK329.out 0; have hfz22_1 := blk_frozen BK329.out 1; have hfz22_2 := blk_frozen BK329.out 2; obtain ⟨Ao23, co23, eo23⟩ := Kd.R_slice HO320.out; subst eo23; obtain ⟨Ao24, co24, eo24⟩ := Kd.R_slice HO323.out; subst eo24))
      go_quiet (first | (go_at_call 19; (with_reducible refine (laws_zByte.calls _ _ l1 0 t330 _ ?side1 ?side2 A7.out).mono ?_); (case side1 => exact Kd.C_below HR1.out (by repeat (with_reducible first | exact HB.out | refine bz ?_ (by assumption) | apply bA | apply bN | apply bD))); (case side2 => exact HC1.out); rintro e w' ⟨rfl, ⟨nd, rfl⟩⟩; (try first | exact ⟨rfl, _, World.drewN_drewN _ _ _⟩ | exact ⟨rfl, _, Eq.trans (World.drewN_drewN _ _ _) (congrArg (World.drewN _) (Nat.add_assoc _ _ _))⟩)))
      go_upto_region 12 with (first | (go_at_call 14; (with_reducible refine (impl_AddRay.calls kj2 t317 _ _ t318 _ _ t321 t324 t325 t326 t327 t328 t331 t332 t335 t338 _ ?side1 ?side2 ?side3 ?side4 A9.out).mono ?_); (case side1 => exact cu (Kd.R_reads' (fr3 HO320.out BK329.out (by decide) 0 (.int .i64 t317) 1 (.slice Ao23 t318.length co23) 2 (.slice Ao24 t321.length co24))).2.2); (case side2 => exact (Kd.R_reads' HO320.out).2.1); (case side3 => exact cu (Kd.R_reads' (fr3 HO323.out BK329.out (by decide) 0 (.int .i64 t317) 1 (.slice Ao23 t318.length co23) 2 (.slice Ao24 t321.length co24))).2.2); (case side4 => exact (Kd.R_reads' HO323.out).2.1); rintro e w25 ⟨v333, v336, rfl, ho0, ho1, hb⟩; have HO334 := a_ (Kd.R_lower (nw (nw ho0 HO320.out) HO323.out) (bs HB.out)); have HO337 := a_ (Kd.R_lower (nw (nw ho1 HO320.out) HO323.out) (bs HB.out)); replace HO320 := a_ (ol2 (Kd.R_mono (fr3 HO320.out BK329.out (by decide) 0 (.int .i64 t317) 1 (.slice Ao23 t318.length co23) 2 (.slice Ao24 t321.length co24)) (fun _ h_ => h_.1)) hb ho0 ho1); replace HO323 := a_ (ol2 (Kd.R_mono (fr3 HO323.out BK329.out (by decide) 0 (.int .i64 t317) 1 (.slice Ao23 t318.length co23) 2 (.slice Ao24 t321.length co24)) (fun _ h_ => h_.1)) hb ho0 ho1); replace BK329 := a_ (blk_below (g := gb329) (o := .cells #[.int .i64 t317, .slice Ao23 t318.length co23, .slice Ao24 t321.length co24] 31 (0, 0)) (by refine pk ?_; refine blk_put (cs := #[.int .i64 t317, .slice Ao23 t318.length co23, .slice none 0 0]) ?_ 2 _ rfl; refine pk ?_; refine blk_put (cs := #[.int .i64 t317, .slice none 0 0, .slice none 0 0]) ?_ 1 _ rfl; refine pk ?_; refine blk_put (cs := #[.int .i64 0, .slice none 0 0, .slice none 0 0]) ?_ 0 _ rfl; refine pk ?_; exact BK329.out) hb); replace HB := a_ (below_step (by repeat (with_reducible first | exact HB.out | refine bz ?_ (by assumption) | apply bA | apply bN | apply bD)) hb); clear hb ho0 ho1) | ((with_reducible refine gate_dst (N := 12) rfl ?_); (try (refine gate_guard (by rfl) ?_; dsimp only)); refine box_event ?hg (N := 12) ?hd (cs := #[.int .i64 0, .slice none 0 0, .slice none 0 0]) (t := 31) ?hr ?_; (case hd => rfl); (case hg => rfl); (case hr => first | (go_simp; done) | (go_simp; rfl)); intro gb339 hg w26 hbox hb; replace HO320 := a_ (Kd.R_below (rk HO320.out) hb); replace HO323 := a_ (Kd.R_below (rk HO323.out) hb); replace HO334 := a_ (Kd.R_below (rk HO334.out) hb); replace HO337 := a_ (Kd.R_below (rk HO337.out) hb); have BK339 := a_ (hbox); have GW339 := a_ (bsg hg HB.out); have GE339 := a_ (bsg hg HB.out); replace HB := a_ (below_step (by repeat (with_reducible first | exact HB.out | refine bz ?_ (by assumption) | apply bA | apply bN | apply bD)) hb); have NB329_339 := a_ (nel hg BK329.out); have NB339_329 := a_ (nle hg BK329.out); replace BK329 := a_ (blk_below (pk BK329.out) hb); clear hb hbox hg; have hnb27 := NB339_329.out; have hnc27 := NB329_339.out; have hcz28_0 : _ = some (Value.int .i64 0) := (blk_cell BK339.out 0).trans rfl; have hcz28_1 : _ = some (Value.slice none 0 0) := (blk_cell BK339.out 1).trans rfl; have hcz28_2 : _ = some (Value.slice none 0 0) := (blk_cell BK339.out 2).trans rfl; have hfz28_0 := blk_frozen BK339.out 0; have hfz28_1 := blk_frozen BK339.out 1; have hfz28_2 := blk_frozen BK339.out 2; obtain ⟨Ao29, co29, eo29⟩ := Kd.R_slice HO334.out; subst eo29; obtain ⟨Ao30, co30, eo30⟩ := Kd.R_slice HO337.out; subst eo30; have hcz31_0 : _ = some (Value.int .i64 t317) := (blk_cell BK329.out 0).trans rfl; have hcz31_1 : _ = some (Value.slice Ao23 t318.length co23) := (blk_cell BK329.out 1).trans rfl; have hcz31_2 : _ = some (Value.slice Ao24 t321.length co24) := (blk_cell BK329.out 2).trans rfl; have hfz31_0 := blk_frozen BK329.out 0; have hfz31_1 := blk_frozen BK329.out 1; have hfz31_2 := blk_frozen BK329.out 2) | (go_at_call 12; (with_reducible refine (spec_AddRay.calls kj2 t317 _ _ t318 _ _ t321 t324 t325 t326 t327 t328 t340 t341 t344 t347 _ ?side1 ?side2 ?side3 ?side4 A10.out).mono ?_); (case side1 => exact cu (Kd.R_reads' (fr3 HO320.out BK339.out (by decide) 0 (.int .i64 t331) 1 (.slice Ao29 t332.length co29) 2 (.slice Ao30 t335.length co30))).2.2); (case side2 => exact (Kd.R_reads' HO320.out).2.1); (case side3 => exact cu (Kd.R_reads' (fr3 HO323.out BK339.out (by decide) 0 (.int .i64 t331) 1 (.slice Ao29 t332.length co29) 2 (.slice Ao30 t335.length co30))).2.2); (case side4 => exact (Kd.R_reads' HO323.out).2.1); rintro e w32 ⟨v342, v345, rfl, ho0, ho1, hb⟩; have HO343 := a_ (Kd.R_lower (nw (nw (nw (nw ho0 HO320.out) HO323.out) HO334.out) HO337.out) (bs HB.out)); have HO346 := a_ (Kd.R_lower (nw (nw (nw (nw ho1 HO320.out) HO323.out) HO334.out) HO337.out) (bs HB.out)); replace HO320 := a_ (ol2 (Kd.R_mono (fr3 HO320.out BK339.out (by decide) 0 (.int .i64 t331) 1 (.slice Ao29 t332.length co29) 2 (.slice Ao30 t335.length co30)) (fun _ h_ => h_.1)) hb ho0 ho1); replace HO323 := a_ (ol2 (Kd.R_mono (fr3 HO323.out BK339.out (by decide) 0 (.int .i64 t331) 1 (.slice Ao29 t332.length co29) 2 (.slice Ao30 t335.length co30)) (fun _ h_ => h_.1)) hb ho0 ho1); replace HO334 := a_ (ol2 (Kd.R_mono (fr3 HO334.out BK339.out (by decide) 0 (.int .i64 t331) 1 (.slice Ao29 t332.length co29) 2 (.slice Ao30 t335.length co30)) (fun _ h_ => h_.1)) hb ho0 ho1); replace HO337 := a_ (ol2 (Kd.R_mono (fr3 HO337.out BK339.out (by decide) 0 (.int .i64 t331) 1 (.slice Ao29 t332.length co29) 2 (.slice Ao30 t335.length co30)) (fun _ h_ => h_.1)) hb ho0 ho1); replace BK329 := a_ (blk_below (g := gb329) (o := .cells #[.int .i64 t317, .slice Ao23 t318.length co23, .slice Ao24 t321.length co24] 31 (0, 0)) (by refine pk ?_; refine blk_far ?_ NB329_339.out _; refine pk ?_; refine blk_far ?_ NB329_339.out _; refine pk ?_; refine blk_far ?_ NB329_339.out _; refine pk ?_; exact BK329.out) hb); replace BK339 := a_ (blk_below (g := gb339) (o := .cells #[.int .i64 t331, .slice Ao29 t332.length co29, .slice Ao30 t335.length co30] 31 (0, 0)) (by refine pk ?_; refine blk_put (cs := #[.int .i64 t331, .slice Ao29 t332.length co29, .slice none 0 0]) ?_ 2 _ rfl; refine pk ?_; refine blk_put (cs := #[.int .i64 t331, .slice none 0 0, .slice none 0 0]) ?_ 1 _ rfl; refine pk ?_; refine blk_put (cs := #[.int .i64 0, .slice none 0 0, .slice none 0 0]) ?_ 0 _ rfl; refine pk ?_; exact BK339.out) hb); replace HB := a_ (below_step (by repeat (with_reducible first | exact HB.out | refine bz ?_ (by assumption) | apply bA | apply bN | apply bD)) hb); clear hb ho0 ho1) | ((with_reducible refine gate_dst (N := 14) rfl ?_); (try (refine gate_guard (by rfl) ?_; dsimp only)); refine box_event ?hg (N := 14) ?hd (cs := #[.int .i64 0, .slice none 0 0, .slice none 0 0]) (t := 31) ?hr ?_; (case hd => rfl); (case hg => rfl); (case hr => first | (go_simp; done) | (go_simp; rfl)); intro gb348 hg w33 hbox hb; replace HO320 := a_ (Kd.R_below (rk HO320.out) hb); replace HO323 := a_ (Kd.R_below (rk HO323.out) hb); replace HO334 := a_ (Kd.R_below (rk HO334.out) hb); replace HO337 := a_ (Kd.R_below (rk HO337.out) hb); replace HO343 := a_ (Kd.R_below (rk HO343.out) hb); replace HO346 := a_ (Kd.R_below (rk HO346.out) hb); have BK348 := a_ (hbox); have GW348 := a_ (bsg hg HB.out); have GE348 := a_ (bsg hg HB.out); replace HB := a_ (below_step (by repeat (with_reducible first | exact HB.out | refine bz ?_ (by assumption) | apply bA | apply bN | apply bD)) hb); have NB329_348 := a_ (nel hg BK329.out); have NB348_329 := a_ (nle hg BK329.out); replace BK329 := a_ (blk_below (pk BK329.out) hb); have NB339_348 := a_ (nel hg BK339.out); have NB348_339 := a_ (nle hg BK339.out); replace BK339 := a_ (blk_below (pk BK339.out) hb); clear hb hbox hg; have hnb34 := NB348_329.out; have hnc34 := NB329_348.out; have hnb35 := NB348_339.out; have hnc35 := NB339_348.out; have hcz36_0 : _ = some (Value.int .i64 0) := (blk_cell BK348.out 0).trans rfl; have hcz36_1 : _ = some (Value.slice none 0 0) := (blk_cell BK348.out 1).trans rfl; have hcz36_2 : _ = some (Value.slice none 0 0) := (blk_cell BK348.out 2).trans rfl; have hfz36_0 := blk_frozen BK348.out 0; have hfz36_1 := blk_frozen BK348.out 1; have hfz36_2 := blk_frozen BK348.out 2; obtain ⟨Ao37, co37, eo37⟩ := Kd.R_slice HO343.out; subst eo37; obtain ⟨Ao38, co38, eo38⟩ := Kd.R_slice HO346.out; subst eo38; have hcz39_0 : _ = some (Value.int .i64 t331) := (blk_cell BK339.out 0).trans rfl; have hcz39_1 : _ = some (Value.slice Ao29 t332.length co29) := (blk_cell BK339.out 1).trans rfl; have hcz39_2 : _ = some (Value.slice Ao30 t335.length co30) := (blk_cell BK339.out 2).trans rfl; have hfz39_0 := blk_frozen BK339.out 0; have hfz39_1 := blk_frozen BK339.out 1; have hfz39_2 := blk_frozen BK339.out 2) | (go_at_call 14; (with_reducible refine (impl_AddRay.calls kj2 t331 _ _ t332 _ _ t335 (Int.tmod t330 (wrap64 (t317 + 1))) 0 t324 t325 (!t328) t349 t350 t353 t356 _ ?side1 ?side2 ?side3 ?side4 A12.out).mono ?_); (case side1 => exact cu (Kd.R_reads' (fr3 HO334.out BK348.out (by decide) 0 (.int .i64 t340) 1 (.slice Ao37 t341.length co37) 2 (.slice Ao38 t344.length co38))).2.2); (case side2 => exact (Kd.R_reads' HO334.out).2.1); (case side3 => exact cu (Kd.R_reads' (fr3 HO337.out BK348.out (by decide) 0 (.int .i64 t340) 1 (.slice Ao37 t341.length co37) 2 (.slice Ao38 t344.length co38))).2.2); (case side4 => exact (Kd.R_reads' HO337.out).2.1); rintro e w40 ⟨v351, v354, rfl, ho0, ho1, hb⟩; have HO352 := a_ (Kd.R_lower (nw (nw (nw (nw (nw (nw ho0 HO320.out) HO323.out) HO334.out) HO337.out) HO343.out) HO346.out) (bs HB.out)); have HO355 := a_ (Kd.R_lower (nw (nw (nw (nw (nw (nw ho1 HO320.out) HO323.out) HO334.out) HO337.out) HO343.out) HO346.out) (bs HB.out)); replace HO320 := a_ (ol2 (Kd.R_mono (fr3 HO320.out BK348.out (by decide) 0 (.int .i64 t340) 1 (.slice Ao37 t341.length co37) 2 (.slice Ao38 t344.length co38)) (fun _ h_ => h_.1)) hb ho0 ho1); replace HO323 := a_ (ol2 (Kd.R_mono (fr3 HO323.out BK348.out (by decide) 0 (.int .i64 t340) 1 (.slice Ao37 t341.length co37) 2 (.slice Ao38 t344.length co38)) (fun _ h_ => h_.1)) hb ho0 ho1); replace HO334 := a_ (ol2 (Kd.R_mono (fr3 HO334.out BK348.out (by decide) 0 (.int .i64 t340) 1 (.slice Ao37 t341.length co37) 2 (.slice Ao38 t344.length co38)) (fun _ h_ => h_.1)) hb ho0 ho1); replace HO337 := a_ (ol2 (Kd.R_mono (fr3 HO337.out BK348.out (by decide) 0 (.int .i64 t340) 1 (.slice Ao37 t341.length co37) 2 (.slice Ao38 t344.length co38)) (fun _ h_ => h_.1)) hb ho0 ho1); replace HO343 := a_ (ol2 (Kd.R_mono (fr3 HO343.out BK348.out (by decide) 0 (.int .i64 t340) 1 (.slice Ao37 t341.length co37) 2 (.slice Ao38 t344.length co38)) (fun _ h_ => h_.1)) hb ho0 ho1); replace HO346 := a_ (ol2 (Kd.R_mono (fr3 HO346.out BK348.out (by decide) 0 (.int .i64 t340) 1 (.slice Ao37 t341.length co37) 2 (.slice Ao38 t344.length co38)) (fun _ h_ => h_.1)) hb ho0 ho1); replace BK329 := a_ (blk_below (g := gb329) (o := .cells #[.int .i64 t317, .slice Ao23 t318.length co23, .slice Ao24 t321.length co24] 31 (0, 0)) (by refine pk ?_; refine blk_far ?_ NB329_348.out _; refine pk ?_; refine blk_far ?_ NB329_348.out _; refine pk ?_; refine blk_far ?_ NB329_348.out _; refine pk ?_; exact BK329.out) hb); replace BK339 := a_ (blk_below (g := gb339) (o := .cells #[.int .i64 t331, .slice Ao29 t332.length co29, .slice Ao30 t335.length co30] 31 (0, 0)) (by refine pk ?_; refine blk_far ?_ NB339_348.out _; refine pk ?_; refine blk_far ?_ NB339_348.out _; refine pk ?_; refine blk_far ?_ NB339_348.out _; refine pk ?_; exact BK339.out) hb); replace BK348 := a_ (blk_below (g := gb348) (o := .cells #[.int .i64 t340, .slice Ao37 t341.length co37, .slice Ao38 t344.length co38] 31 (0, 0)) (by refine pk ?_; refine blk_put (cs := #[.int .i64 t340, .slice Ao37 t341.length co37, .slice none 0 0]) ?_ 2 _ rfl; refine pk ?_; refine blk_put (cs := #[.int .i64 t340, .slice none 0 0, .slice none 0 0]) ?_ 1 _ rfl; refine pk ?_; refine blk_put (cs := #[.int .i64 0, .slice none 0 0, .slice none 0 0]) ?_ 0 _ rfl; refine pk ?_; exact BK348.out) hb); replace HB := a_ (below_step (by repeat (with_reducible first | exact HB.out | refine bz ?_ (by assumption) | apply bA | apply bN | apply bD)) hb); clear hb ho0 ho1) | ((with_reducible refine gate_dst (N := 16) rfl ?_); (try (refine gate_guard (by rfl) ?_; dsimp only)); refine box_event ?hg (N := 16) ?hd (cs := #[.int .i64 0, .slice none 0 0, .slice none 0 0]) (t := 31) ?hr ?_; (case hd => rfl); (case hg => rfl); (case hr => first | (go_simp; done) | (go_simp; rfl)); intro gb357 hg w41 hbox hb; replace HO320 := a_ (Kd.R_below (rk HO320.out) hb); replace HO323 := a_ (Kd.R_below (rk HO323.out) hb); replace HO334 := a_ (Kd.R_below (rk HO334.out) hb); replace HO337 := a_ (Kd.R_below (rk HO337.out) hb); replace HO343 := a_ (Kd.R_below (rk HO343.out) hb); replace HO346 := a_ (Kd.R_below (rk HO346.out) hb); replace HO352 := a_ (Kd.R_below (rk HO352.out) hb); replace HO355 := a_ (Kd.R_below (rk HO355.out) hb); have BK357 := a_ (hbox); have GW357 := a_ (bsg hg HB.out); have GE357 := a_ (bsg hg HB.out); replace HB := a_ (below_step (by repeat (with_reducible first | exact HB.out | refine bz ?_ (by assumption) | apply bA | apply bN | apply bD)) hb); have NB329_357 := a_ (nel hg BK329.out); have NB357_329 := a_ (nle hg BK329.out); replace BK329 := a_ (blk_below (pk BK329.out) hb); have NB339_357 := a_ (nel hg BK339.out); have NB357_339 := a_ (nle hg BK339.out); replace BK339 := a_ (blk_below (pk BK339.out) hb); have NB348_357 := a_ (nel hg BK348.out); have NB357_348 := a_ (nle hg BK348.out); replace BK348 := a_ (blk_below (pk BK348.out) hb); clear hb hbox hg; have hnb42 := NB357_329.out; have hnc42 := NB329_357.out; have hnb43 := NB357_339.out; have hnc43 := NB339_357.out; have hnb44 := NB357_348.out; have hnc44 := NB348_357.out; have hcz45_0 : _ = some (Value.int .i64 0) := (blk_cell BK357.out 0).trans rfl; have hcz45_1 : _ = some (Value.slice none 0 0) := (blk_cell BK357.out 1).trans rfl; have hcz45_2 : _ = some (Value.slice none 0 0) := (blk_cell BK357.out 2).trans rfl; have hfz45_0 := blk_frozen BK357.out 0; have hfz45_1 := blk_frozen BK357.out 1; have hfz45_2 := blk_frozen BK357.out 2; obtain ⟨Ao46, co46, eo46⟩ := Kd.R_slice HO352.out; subst eo46; obtain ⟨Ao47, co47, eo47⟩ := Kd.R_slice HO355.out; subst eo47; have hcz48_0 : _ = some (Value.int .i64 t317) := (blk_cell BK329.out 0).trans rfl; have hcz48_1 : _ = some (Value.slice Ao23 t318.length co23) := (blk_cell BK329.out 1).trans rfl; have hcz48_2 : _ = some (Value.slice Ao24 t321.length co24) := (blk_cell BK329.out 2).trans rfl; have hfz48_0 := blk_frozen BK329.out 0; have hfz48_1 := blk_frozen BK329.out 1; have hfz48_2 := blk_frozen BK329.out 2) | (go_at_call 14; (with_reducible refine (impl_AddRay.calls kj2 t317 _ _ t318 _ _ t321 (Int.tmod t330 (wrap64 (t317 + 1))) 0 t324 t325 (!t328) t358 t359 t362 t365 _ ?side1 ?side2 ?side3 ?side4 A13.out).mono ?_); (case side1 => exact cu (Kd.R_reads' (fr3 HO320.out BK357.out (by decide) 0 (.int .i64 t349) 1 (.slice Ao46 t350.length co46) 2 (.slice Ao47 t353.length co47))).2.2); (case side2 => exact (Kd.R_reads' HO320.out).2.1); (case side3 => exact cu (Kd.R_reads' (fr3 HO323.out BK357.out (by decide) 0 (.int .i64 t349) 1 (.slice Ao46 t350.length co46) 2 (.slice Ao47 t353.length co47))).2.2); (case side4 => exact (Kd.R_reads' HO323.out).2.1); rintro e w49 ⟨v360, v363, rfl, ho0, ho1, hb⟩; have HO361 := a_ (Kd.R_lower (nw (nw (nw (nw (nw (nw (nw (nw ho0 HO320.out) HO323.out) HO334.out) HO337.out) HO343.out) HO346.out) HO352.out) HO355.out) (bs HB.out)); have HO364 := a_ (Kd.R_lower (nw (nw (nw (nw (nw (nw (nw (nw ho1 HO320.out) HO323.out) HO334.out) HO337.out) HO343.out) HO346.out) HO352.out) HO355.out) (bs HB.out)); replace HO320 := a_ (ol2 (Kd.R_mono (fr3 HO320.out BK357.out (by decide) 0 (.int .i64 t349) 1 (.slice Ao46 t350.length co46) 2 (.slice Ao47 t353.length co47)) (fun _ h_ => h_.1)) hb ho0 ho1); replace HO323 := a_ (ol2 (Kd.R_mono (fr3 HO323.out BK357.out (by decide) 0 (.int .i64 t349) 1 (.slice Ao46 t350.length co46) 2 (.slice Ao47 t353.length co47)) (fun _ h_ => h_.1)) hb ho0 ho1); replace HO334 := a_ (ol2 (Kd.R_mono (fr3 HO334.out BK357.out (by decide) 0 (.int .i64 t349) 1 (.slice Ao46 t350.length co46) 2 (.slice Ao47 t353.length co47)) (fun _ h_ => h_.1)) hb ho0 ho1); replace HO337 := a_ (ol2 (Kd.R_mono (fr3 HO337.out BK357.out (by decide) 0 (.int .i64 t349) 1 (.slice Ao46 t350.length co46) 2 (.slice Ao47 t353.length co47)) (fun _ h_ => h_.1)) hb ho0 ho1); replace HO343 := a_ (ol2 (Kd.R_mono (fr3 HO343.out BK357.out (by decide) 0 (.int .i64 t349) 1 (.slice Ao46 t350.length co46) 2 (.slice Ao47 t353.length co47)) (fun _ h_ => h_.1)) hb ho0 ho1); replace HO346 := a_ (ol2 (Kd.R_mono (fr3 HO346.out BK357.out (by decide) 0 (.int .i64 t349) 1 (.slice Ao46 t350.length co46) 2 (.slice Ao47 t353.length co47)) (fun _ h_ => h_.1)) hb ho0 ho1); replace HO352 := a_ (ol2 (Kd.R_mono (fr3 HO352.out BK357.out (by decide) 0 (.int .i64 t349) 1 (.slice Ao46 t350.length co46) 2 (.slice Ao47 t353.length co47)) (fun _ h_ => h_.1)) hb ho0 ho1); replace HO355 := a_ (ol2 (Kd.R_mono (fr3 HO355.out BK357.out (by decide) 0 (.int .i64 t349) 1 (.slice Ao46 t350.length co46) 2 (.slice Ao47 t353.length co47)) (fun _ h_ => h_.1)) hb ho0 ho1); replace BK329 := a_ (blk_below (g := gb329) (o := .cells #[.int .i64 t317, .slice Ao23 t318.length co23, .slice Ao24 t321.length co24] 31 (0, 0)) (by refine pk ?_; refine blk_far ?_ NB329_357.out _; refine pk ?_; refine blk_far ?_ NB329_357.out _; refine pk ?_; refine blk_far ?_ NB329_357.out _; refine pk ?_; exact BK329.out) hb); replace BK339 := a_ (blk_below (g := gb339) (o := .cells #[.int .i64 t331, .slice Ao29 t332.length co29, .slice Ao30 t335.length co30] 31 (0, 0)) (by refine pk ?_; refine blk_far ?_ NB339_357.out _; refine pk ?_; refine blk_far ?_ NB339_357.out _; refine pk ?_; refine blk_far ?_ NB339_357.out _; refine pk ?_; exact BK339.out) hb); replace BK348 := a_ (blk_below (g := gb348) (o := .cells #[.int .i64 t340, .slice Ao37 t341.length co37, .slice Ao38 t344.length co38] 31 (0, 0)) (by refine pk ?_; refine blk_far ?_ NB348_357.out _; refine pk ?_; refine blk_far ?_ NB348_357.out _; refine pk ?_; refine blk_far ?_ NB348_357.out _; refine pk ?_; exact BK348.out) hb); replace BK357 := a_ (blk_below (g := gb357) (o := .cells #[.int .i64 t349, .slice Ao46 t350.length co46, .slice Ao47 t353.length co47] 31 (0, 0)) (by refine pk ?_; refine blk_put (cs := #[.int .i64 t349, .slice Ao46 t350.length co46, .slice none 0 0]) ?_ 2 _ rfl; refine pk ?_; refine blk_put (cs := #[.int .i64 t349, .slice none 0 0, .slice none 0 0]) ?_ 1 _ rfl; refine pk ?_; refine blk_put (cs := #[.int .i64 0, .slice none 0 0, .slice none 0 0]) ?_ 0 _ rfl; refine pk ?_; exact BK357.out) hb); replace HB := a_ (below_step (by repeat (with_reducible first | exact HB.out | refine bz ?_ (by assumption) | apply bA | apply bN | apply bD)) hb); clear hb ho0 ho1) | ((with_reducible refine gate_dst (N := 18) rfl ?_); (try (refine gate_guard (by rfl) ?_; dsimp only)); refine box_event ?hg (N := 18) ?hd (cs := #[.int .i64 0, .slice none 0 0, .slice none 0 0]) (t := 31) ?hr ?_; (case hd => rfl); (case hg => rfl); (case hr => first | (go_simp; done) | (go_simp; rfl)); intro gb366 hg w50 hbox hb; replace HO320 := a_ (Kd.R_below (rk HO320.out) hb); replace HO323 := a_ (Kd.R_below (rk HO323.out) hb); replace HO334 := a_ (Kd.R_below (rk HO334.out) hb); replace HO337 := a_ (Kd.R_below (rk HO337.out) hb); replace HO343 := a_ (Kd.R_below (rk HO343.out) hb); replace HO346 := a_ (Kd.R_below (rk HO346.out) hb); replace HO352 := a_ (Kd.R_below (rk HO352.out) hb); replace HO355 := a_ (Kd.R_below (rk HO355.out) hb); replace HO361 := a_ (Kd.R_below (rk HO361.out) hb); replace HO364 := a_ (Kd.R_below (rk HO364.out) hb); have BK366 := a_ (hbox); have GW366 := a_ (bsg hg HB.out); have GE366 := a_ (bsg hg HB.out); replace HB := a_ (below_step (by repeat (with_reducible first | exact HB.out | refine bz ?_ (by assumption) | apply bA | apply bN | apply bD)) hb); have NB329_366 := a_ (nel hg BK329.out); have NB366_329 := a_ (nle hg BK329.out); replace BK329 := a_ (blk_below (pk BK329.out) hb); have NB339_366 := a_ (nel hg BK339.out); have NB366_339 := a_ (nle hg BK339.out); replace BK339 := a_ (blk_below (pk BK339.out) hb); have NB348_366 := a_ (nel hg BK348.out); have NB366_348 := a_ (nle hg BK348.out); replace BK348 := a_ (blk_below (pk BK348.out) hb); have NB357_366 := a_ (nel hg BK357.out); have NB366_357 := a_ (nle hg BK357.out); replace BK357 := a_ (blk_below (pk BK357.out) hb); clear hb hbox hg; have hnb51 := NB366_329.out; have hnc51 := NB329_366.out; have hnb52 := NB366_339.out; have hnc52 := NB339_366.out; have hnb53 := NB366_348.out; have hnc53 := NB348_366.out; have hnb54 := NB366_357.out; have hnc54 := NB357_366.out; have hcz55_0 : _ = some (Value.int .i64 0) := (blk_cell BK366.out 0).trans rfl; have hcz55_1 : _ = some (Value.slice none 0 0) := (blk_cell BK366.out 1).trans rfl; have hcz55_2 : _ = some (Value.slice none 0 0) := (blk_cell BK366.out 2).trans rfl; have hfz55_0 := blk_frozen BK366.out 0; have hfz55_1 := blk_frozen BK366.out 1; have hfz55_2 := blk_frozen BK366.out 2; obtain ⟨Ao56, co56, eo56⟩ := Kd.R_slice HO361.out; subst eo56; obtain ⟨Ao57, co57, eo57⟩ := Kd.R_slice HO364.out; subst eo57) | (go_at_call 14; (with_reducible refine (impl_AddRay.calls kj2 t358 _ _ t359 _ _ t362 t324 t325 t326 t327 t328 t367 t368 t371 t374 _ ?side1 ?side2 ?side3 ?side4 A14.out).mono ?_); (case side1 => exact cu (Kd.R_reads' (fr3 HO361.out BK366.out (by decide) 0 (.int .i64 t358) 1 (.slice Ao56 t359.length co56) 2 (.slice Ao57 t362.length co57))).2.2); (case side2 => exact (Kd.R_reads' HO361.out).2.1); (case side3 => exact cu (Kd.R_reads' (fr3 HO364.out BK366.out (by decide) 0 (.int .i64 t358) 1 (.slice Ao56 t359.length co56) 2 (.slice Ao57 t362.length co57))).2.2); (case side4 => exact (Kd.R_reads' HO364.out).2.1); rintro e w58 ⟨v369, v372, rfl, ho0, ho1, hb⟩; have HO370 := a_ (Kd.R_lower (nw (nw (nw (nw (nw (nw (nw (nw (nw (nw ho0 HO320.out) HO323.out) HO334.out) HO337.out) HO343.out) HO346.out) HO352.out) HO355.out) HO361.out) HO364.out) (bs HB.out)); have HO373 := a_ (Kd.R_lower (nw (nw (nw (nw (nw (nw (nw (nw (nw (nw ho1 HO320.out) HO323.out) HO334.out) HO337.out) HO343.out) HO346.out) HO352.out) HO355.out) HO361.out) HO364.out) (bs HB.out)); replace HO320 := a_ (ol2 (Kd.R_mono (fr3 HO320.out BK366.out (by decide) 0 (.int .i64 t358) 1 (.slice Ao56 t359.length co56) 2 (.slice Ao57 t362.length co57)) (fun _ h_ => h_.1)) hb ho0 ho1); replace HO323 := a_ (ol2 (Kd.R_mono (fr3 HO323.out BK366.out (by decide) 0 (.int .i64 t358) 1 (.slice Ao56 t359.length co56) 2 (.slice Ao57 t362.length co57)) (fun _ h_ => h_.1)) hb ho0 ho1); replace HO334 := a_ (ol2 (Kd.R_mono (fr3 HO334.out BK366.out (by decide) 0 (.int .i64 t358) 1 (.slice Ao56 t359.length co56) 2 (.slice Ao57 t362.length co57)) (fun _ h_ => h_.1)) hb ho0 ho1); replace HO337 := a_ (ol2 (Kd.R_mono (fr3 HO337.out BK366.out (by decide) 0 (.int .i64 t358) 1 (.slice Ao56 t359.length co56) 2 (.slice Ao57 t362.length co57)) (fun _ h_ => h_.1)) hb ho0 ho1); replace HO343 := a_ (ol2 (Kd.R_mono (fr3 HO343.out BK366.out (by decide) 0 (.int .i64 t358) 1 (.slice Ao56 t359.length co56) 2 (.slice Ao57 t362.length co57)) (fun _ h_ => h_.1)) hb ho0 ho1); replace HO346 := a_ (ol2 (Kd.R_mono (fr3 HO346.out BK366.out (by decide) 0 (.int .i64 t358) 1 (.slice Ao56 t359.length co56) 2 (.slice Ao57 t362.length co57)) (fun _ h_ => h_.1)) hb ho0 ho1); replace HO352 := a_ (ol2 (Kd.R_mono (fr3 HO352.out BK366.out (by decide) 0 (.int .i64 t358) 1 (.slice Ao56 t359.length co56) 2 (.slice Ao57 t362.length co57)) (fun _ h_ => h_.1)) hb ho0 ho1); replace HO355 := a_ (ol2 (Kd.R_mono (fr3 HO355.out BK366.out (by decide) 0 (.int .i64 t358) 1 (.slice Ao56 t359.length co56) 2 (.slice Ao57 t362.length co57)) (fun _ h_ => h_.1)) hb ho0 ho1); replace HO361 := a_ (ol2 (Kd.R_mono (fr3 HO361.out BK366.out (by decide) 0 (.int .i64 t358) 1 (.slice Ao56 t359.length co56) 2 (.slice Ao57 t362.length co57)) (fun _ h_ => h_.1)) hb ho0 ho1); replace HO364 := a_ (ol2 (Kd.R_mono (fr3 HO364.out BK366.out (by decide) 0 (.int .i64 t358) 1 (.slice Ao56 t359.length co56) 2 (.slice Ao57 t362.length co57)) (fun _ h_ => h_.1)) hb ho0 ho1); replace BK329 := a_ (blk_below (g := gb329) (o := .cells #[.int .i64 t317, .slice Ao23 t318.length co23, .slice Ao24 t321.length co24] 31 (0, 0)) (by refine pk ?_; refine blk_far ?_ NB329_366.out _; refine pk ?_; refine blk_far ?_ NB329_366.out _; refine pk ?_; refine blk_far ?_ NB329_366.out _; refine pk ?_; exact BK329.out) hb); replace BK339 := a_ (blk_below (g := gb339) (o := .cells #[.int .i64 t331, .slice Ao29 t332.length co29, .slice Ao30 t335.length co30] 31 (0, 0)) (by refine pk ?_; refine blk_far ?_ NB339_366.out _; refine pk ?_; refine blk_far ?_ NB339_366.out _; refine pk ?_; refine blk_far ?_ NB339_366.out _; refine pk ?_; exact BK339.out) hb); replace BK348 := a_ (blk_below (g := gb348) (o := .cells #[.int .i64 t340, .slice Ao37 t341.length co37, .slice Ao38 t344.length co38] 31 (0, 0)) (by refine pk ?_; refine blk_far ?_ NB348_366.out _; refine pk ?_; refine blk_far ?_ NB348_366.out _; refine pk ?_; refine blk_far ?_ NB348_366.out _; refine pk ?_; exact BK348.out) hb); replace BK357 := a_ (blk_below (g := gb357) (o := .cells #[.int .i64 t349, .slice Ao46 t350.length co46, .slice Ao47 t353.length co47] 31 (0, 0)) (by refine pk ?_; refine blk_far ?_ NB357_366.out _; refine pk ?_; refine blk_far ?_ NB357_366.out _; refine pk ?_; refine blk_far ?_ NB357_366.out _; refine pk ?_; exact BK357.out) hb); replace BK366 := a_ (blk_below (g := gb366) (o := .cells #[.int .i64 t358, .slice Ao56 t359.length co56, .slice Ao57 t362.length co57] 31 (0, 0)) (by refine pk ?_; refine blk_put (cs := #[.int .i64 t358, .slice Ao56 t359.length co56, .slice none 0 0]) ?_ 2 _ rfl; refine pk ?_; refine blk_put (cs := #[.int .i64 t358, .slice none 0 0, .slice none 0 0]) ?_ 1 _ rfl; refine pk ?_; refine blk_put (cs := #[.int .i64 0, .slice none 0 0, .slice none 0 0]) ?_ 0 _ rfl; refine pk ?_; exact BK366.out) hb); replace HB := a_ (below_step (by repeat (with_reducible first | exact HB.out | refine bz ?_ (by assumption) | apply bA | apply bN | apply bD)) hb); clear hb ho0 ho1) | ((with_reducible refine gate_dst (N := 20) rfl ?_); (try (refine gate_guard (by rfl) ?_; dsimp only)); refine box_event ?hg (N := 20) ?hd (cs := #[.int .i64 0, .slice none 0 0, .slice none 0 0]) (t := 31) ?hr ?_; (case hd => rfl); (case hg => rfl); (case hr => first | (go_simp; done) | (go_simp; rfl)); intro gb375 hg w59 hbox hb; replace HO320 := a_ (Kd.R_below (rk HO320.out) hb); replace HO323 := a_ (Kd.R_below (rk HO323.out) hb); replace HO334 := a_ (Kd.R_below (rk HO334.out) hb); replace HO337 := a_ (Kd.R_below (rk HO337.out) hb); replace HO343 := a_ (Kd.R_below (rk HO343.out) hb); replace HO346 := a_ (Kd.R_below (rk HO346.out) hb); replace HO352 := a_ (Kd.R_below (rk HO352.out) hb); replace HO355 := a_ (Kd.R_below (rk HO355.out) hb); replace HO361 := a_ (Kd.R_below (rk HO361.out) hb); replace HO364 := a_ (Kd.R_below (rk HO364.out) hb); replace HO370 := a_ (Kd.R_below (rk HO370.out) hb); replace HO373 := a_ (Kd.R_below (rk HO373.out) hb); have BK375 := a_ (hbox); have GW375 := a_ (bsg hg HB.out); have GE375 := a_ (bsg hg HB.out); replace HB := a_ (below_step (by repeat (with_reducible first | exact HB.out | refine bz ?_ (by assumption) | apply bA | apply bN | apply bD)) hb); have NB329_375 := a_ (nel hg BK329.out); have NB375_329 := a_ (nle hg BK329.out); replace BK329 := a_ (blk_below (pk BK329.out) hb); have NB339_375 := a_ (nel hg BK339.out); have NB375_339 := a_ (nle hg BK339.out); replace BK339 := a_ (blk_below (pk BK339.out) hb); have NB348_375 := a_ (nel hg BK348.out); have NB375_348 := a_ (nle hg BK348.out); replace BK348 := a_ (blk_below (pk BK348.out) hb); have NB357_375 := a_ (nel hg BK357.out); have NB375_357 := a_ (nle hg BK357.out); replace BK357 := a_ (blk_below (pk BK357.out) hb); have NB366_375 := a_ (nel hg BK366.out); have NB375_366 := a_ (nle hg BK366.out); replace BK366 := a_ (blk_below (pk BK366.out) hb); clear hb hbox hg; have hnb60 := NB375_329.out; have hnc60 := NB329_375.out; have hnb61 := NB375_339.out; have hnc61 := NB339_375.out; have hnb62 := NB375_348.out; have hnc62 := NB348_375.out; have hnb63 := NB375_357.out; have hnc63 := NB357_375.out; have hnb64 := NB375_366.out; have hnc64 := NB366_375.out; have hcz65_0 : _ = some (Value.int .i64 0) := (blk_cell BK375.out 0).trans rfl; have hcz65_1 : _ = some (Value.slice none 0 0) := (blk_cell BK375.out 1).trans rfl; have hcz65_2 : _ = some (Value.slice none 0 0) := (blk_cell BK375.out 2).trans rfl; have hfz65_0 := blk_frozen BK375.out 0; have hfz65_1 := blk_frozen BK375.out 1; have hfz65_2 := blk_frozen BK375.out 2; obtain ⟨Ao66, co66, eo66⟩ := Kd.R_slice HO370.out; subst eo66; obtain ⟨Ao67, co67, eo67⟩ := Kd.R_slice HO373.out; subst eo67; have hcz68_0 : _ = some (Value.int .i64 t349) := (blk_cell BK357.out 0).trans rfl; have hcz68_1 : _ = some (Value.slice Ao46 t350.length co46) := (blk_cell BK357.out 1).trans rfl; have hcz68_2 : _ = some (Value.slice Ao47 t353.length co47) := (blk_cell BK357.out 2).trans rfl; have hfz68_0 := blk_frozen BK357.out 0; have hfz68_1 := blk_frozen BK357.out 1; have hfz68_2 := blk_frozen BK357.out 2))
      by_cases cq : t338 = true
      ·subst cq
       replace HQ : Aside0 (_ = some r) := ⟨(if_pos rfl).symm.trans HQ.out⟩
       by_cases cq : t356 = true
       ·subst cq
        replace HQ : Aside0 (_ = some r) := ⟨(if_pos rfl).symm.trans HQ.out⟩
        by_cases cq : t365 = true
        ·subst cq
         replace HQ : Aside0 (_ = some r) := ⟨(if_pos rfl).symm.trans HQ.out⟩
         by_cases cq : t374 = true
         ·subst cq
          replace HQ : Aside0 (_ = some r) := ⟨(if_pos rfl).symm.trans HQ.out⟩
          obtain ⟨t376, A190, H⟩ := Option.bind_eq_some_iff.mp HQ.out
          have A19 := Aside0.mk A190
          clear A190 HQ
          obtain rfl := Option.some.inj H
          clear H
          go_wp2_with (first | (go_at_call 20; (with_reducible refine (spec_SameCounts.calls kj2 t349 _ _ t350 _ _ t353 t367 _ _ t368 _ _ t371 t376 _ ?side1 ?side2 ?side3 ?side4 ?side5 ?side6 ?side7 ?side8 A19.out).mono ?_); (case side1 => exact cu (Kd.R_reads' (fr3 HO352.out BK375.out (by decide) 0 (.int .i64 t367) 1 (.slice Ao66 t368.length co66) 2 (.slice Ao67 t371.length co67))).2.2); (case side2 => exact (Kd.R_reads' HO352.out).2.1); (case side3 => exact cu (Kd.R_reads' (fr3 HO355.out BK375.out (by decide) 0 (.int .i64 t367) 1 (.slice Ao66 t368.length co66) 2 (.slice Ao67 t371.length co67))).2.2); (case side4 => exact (Kd.R_reads' HO355.out).2.1); (case side5 => exact cu (Kd.R_reads' (fr3 HO370.out BK375.out (by decide) 0 (.int .i64 t367) 1 (.slice Ao66 t368.length co66) 2 (.slice Ao67 t371.length co67))).2.2); (case side6 => exact (Kd.R_reads' HO370.out).2.1); (case side7 => exact cu (Kd.R_reads' (fr3 HO373.out BK375.out (by decide) 0 (.int .i64 t367) 1 (.slice Ao66 t368.length co66) 2 (.slice Ao67 t371.length co67))).2.2); (case side8 => exact (Kd.R_reads' HO373.out).2.1); rintro e w69 ⟨rfl, hb⟩; replace HO320 := a_ (Kd.R_below (rk (Kd.R_mono (fr3 HO320.out BK375.out (by decide) 0 (.int .i64 t367) 1 (.slice Ao66 t368.length co66) 2 (.slice Ao67 t371.length co67)) (fun _ h_ => h_.1))) hb); replace HO323 := a_ (Kd.R_below (rk (Kd.R_mono (fr3 HO323.out BK375.out (by decide) 0 (.int .i64 t367) 1 (.slice Ao66 t368.length co66) 2 (.slice Ao67 t371.length co67)) (fun _ h_ => h_.1))) hb); replace HO334 := a_ (Kd.R_below (rk (Kd.R_mono (fr3 HO334.out BK375.out (by decide) 0 (.int .i64 t367) 1 (.slice Ao66 t368.length co66) 2 (.slice Ao67 t371.length co67)) (fun _ h_ => h_.1))) hb); replace HO337 := a_ (Kd.R_below (rk (Kd.R_mono (fr3 HO337.out BK375.out (by decide) 0 (.int .i64 t367) 1 (.slice Ao66 t368.length co66) 2 (.slice Ao67 t371.length co67)) (fun _ h_ => h_.1))) hb); replace HO343 := a_ (Kd.R_below (rk (Kd.R_mono (fr3 HO343.out BK375.out (by decide) 0 (.int .i64 t367) 1 (.slice Ao66 t368.length co66) 2 (.slice Ao67 t371.length co67)) (fun _ h_ => h_.1))) hb); replace HO346 := a_ (Kd.R_below (rk (Kd.R_mono (fr3 HO346.out BK375.out (by decide) 0 (.int .i64 t367) 1 (.slice Ao66 t368.length co66) 2 (.slice Ao67 t371.length co67)) (fun _ h_ => h_.1))) hb); replace HO352 := a_ (Kd.R_below (rk (Kd.R_mono (fr3 HO352.out BK375.out (by decide) 0 (.int .i64 t367) 1 (.slice Ao66 t368.length co66) 2 (.slice Ao67 t371.length co67)) (fun _ h_ => h_.1))) hb); replace HO355 := a_ (Kd.R_below (rk (Kd.R_mono (fr3 HO355.out BK375.out (by decide) 0 (.int .i64 t367) 1 (.slice Ao66 t368.length co66) 2 (.slice Ao67 t371.length co67)) (fun _ h_ => h_.1))) hb); replace HO361 := a_ (Kd.R_below (rk (Kd.R_mono (fr3 HO361.out BK375.out (by decide) 0 (.int .i64 t367) 1 (.slice Ao66 t368.length co66) 2 (.slice Ao67 t371.length co67)) (fun _ h_ => h_.1))) hb); replace HO364 := a_ (Kd.R_below (rk (Kd.R_mono (fr3 HO364.out BK375.out (by decide) 0 (.int .i64 t367) 1 (.slice Ao66 t368.length co66) 2 (.slice Ao67 t371.length co67)) (fun _ h_ => h_.1))) hb); replace HO370 := a_ (Kd.R_below (rk (Kd.R_mono (fr3 HO370.out BK375.out (by decide) 0 (.int .i64 t367) 1 (.slice Ao66 t368.length co66) 2 (.slice Ao67 t371.length co67)) (fun _ h_ => h_.1))) hb); replace HO373 := a_ (Kd.R_below (rk (Kd.R_mono (fr3 HO373.out BK375.out (by decide) 0 (.int .i64 t367) 1 (.slice Ao66 t368.length co66) 2 (.slice Ao67 t371.length co67)) (fun _ h_ => h_.1))) hb); replace BK329 := a_ (blk_below (g := gb329) (o := .cells #[.int .i64 t317, .slice Ao23 t318.length co23, .slice Ao24 t321.length co24] 31 (0, 0)) (by refine pk ?_; refine blk_far ?_ NB329_375.out _; refine pk ?_; refine blk_far ?_ NB329_375.out _; refine pk ?_; refine blk_far ?_ NB329_375.out _; refine pk ?_; exact BK329.out) hb); replace BK339 := a_ (blk_below (g := gb339) (o := .cells #[.int .i64 t331, .slice Ao29 t332.length co29, .slice Ao30 t335.length co30] 31 (0, 0)) (by refine pk ?_; refine blk_far ?_ NB339_375.out _; refine pk ?_; refine blk_far ?_ NB339_375.out _; refine pk ?_; refine blk_far ?_ NB339_375.out _; refine pk ?_; exact BK339.out) hb); replace BK348 := a_ (blk_below (g := gb348) (o := .cells #[.int .i64 t340, .slice Ao37 t341.length co37, .slice Ao38 t344.length co38] 31 (0, 0)) (by refine pk ?_; refine blk_far ?_ NB348_375.out _; refine pk ?_; refine blk_far ?_ NB348_375.out _; refine pk ?_; refine blk_far ?_ NB348_375.out _; refine pk ?_; exact BK348.out) hb); replace BK357 := a_ (blk_below (g := gb357) (o := .cells #[.int .i64 t349, .slice Ao46 t350.length co46, .slice Ao47 t353.length co47] 31 (0, 0)) (by refine pk ?_; refine blk_far ?_ NB357_375.out _; refine pk ?_; refine blk_far ?_ NB357_375.out _; refine pk ?_; refine blk_far ?_ NB357_375.out _; refine pk ?_; exact BK357.out) hb); replace BK366 := a_ (blk_below (g := gb366) (o := .cells #[.int .i64 t358, .slice Ao56 t359.length co56, .slice Ao57 t362.length co57] 31 (0, 0)) (by refine pk ?_; refine blk_far ?_ NB366_375.out _; refine pk ?_; refine blk_far ?_ NB366_375.out _; refine pk ?_; refine blk_far ?_ NB366_375.out _; refine pk ?_; exact BK366.out) hb); replace BK375 := a_ (blk_below (g := gb375) (o := .cells #[.int .i64 t367, .slice Ao66 t368.length co66, .slice Ao67 t371.length co67] 31 (0, 0)) (by refine pk ?_; refine blk_put (cs := #[.int .i64 t367, .slice Ao66 t368.length co66, .slice none 0 0]) ?_ 2 _ rfl; refine pk ?_; refine blk_put (cs := #[.int .i64 t367, .slice none 0 0, .slice none 0 0]) ?_ 1 _ rfl; refine pk ?_; refine blk_put (cs := #[.int .i64 0, .slice none 0 0, .slice none 0 0]) ?_ 0 _ rfl; refine pk ?_; exact BK375.out) hb); replace HB := a_ (below_step (by repeat (with_reducible first | exact HB.out | refine bz ?_ (by assumption) | apply bA | apply bN | apply bD)) hb); clear hb))
          go_ret
          exact ⟨by first | rfl | (simp [errW_none, errW_some] <;> rfl) | (simp [*, errW_none, errW_some] <;> rfl), by repeat (with_reducible first | exact HB.out | refine bz ?_ (by assumption) | apply bA | apply bN | apply bD)⟩
         ·replace cq := Bool.eq_false_iff.mpr cq
          subst cq
          have H := (if_neg (show ¬ (false = true) by decide)).symm.trans HQ.out
          clear HQ
          obtain rfl := Option.some.inj H
          clear H
          go_wp2
          go_ret
          exact ⟨by first | rfl | (simp [errW_none, errW_some] <;> rfl) | (simp [*, errW_none, errW_some] <;> rfl), by repeat (with_reducible first | exact HB.out | refine bz ?_ (by assumption) | apply bA | apply bN | apply bD)⟩
        ·replace cq := Bool.eq_false_iff.mpr cq
         subst cq
         have H := (if_neg (show ¬ (false = true) by decide)).symm.trans HQ.out
         clear HQ
         obtain rfl := Option.some.inj H
         clear H
         go_wp2
         go_ret
         exact ⟨by first | rfl | (simp [errW_none, errW_some] <;> rfl) | (simp [*, errW_none, errW_some] <;> rfl), by repeat (with_reducible first | exact HB.out | refine bz ?_ (by assumption) | apply bA | apply bN | apply bD)⟩
       ·replace cq := Bool.eq_false_iff.mpr cq
        subst cq
        have H := (if_neg (show ¬ (false = true) by decide)).symm.trans HQ.out
        clear HQ
        obtain rfl := Option.some.inj H
        clear H
        go_wp2
        go_ret
        exact ⟨by first | rfl | (simp [errW_none, errW_some] <;> rfl) | (simp [*, errW_none, errW_some] <;> rfl), by repeat (with_reducible first | exact HB.out | refine bz ?_ (by assumption) | apply bA | apply bN | apply bD)⟩
      ·replace cq := Bool.eq_false_iff.mpr cq
       subst cq
       have H := (if_neg (show ¬ (false = true) by decide)).symm.trans HQ.out
       clear HQ
       obtain rfl := Option.some.inj H
       clear H
       go_wp2
       go_ret
       exact ⟨by first | rfl | (simp [errW_none, errW_some] <;> rfl) | (simp [*, errW_none, errW_some] <;> rfl), by repeat (with_reducible first | exact HB.out | refine bz ?_ (by assumption) | apply bA | apply bN | apply bD)⟩

/-- THE ONE PURE STATEMENT of laws_FnCounts: yours. -/
def laws_FnCounts.Pure : Prop := ∀ (l0 : List Int) (l1 : List Int), l0.length ≤ maxLen → l0.length * 1 ≤ 140737488351232 → (∀ x ∈ l0, (Lit.int .u8 x).wf = true) → l1.length ≤ maxLen → l1.length * 1 ≤ 140737488351232 → (∀ x ∈ l1, (Lit.int .u8 x).wf = true) → ∃ k, laws_FnCounts.f k l0 l1 = some true
theorem laws_FnCounts.walk (P : laws_FnCounts.Pure) (a0 : Option Addr) (len0 cap0 : Nat) (z0 : List Int) (a1 : Option Addr) (len1 cap1 : Nat) (z1 : List Int) (w : World) (w0 : (a0 = none ∧ len0 = 0 ∧ cap0 = 0 ∧ z0 = []) ∨ ∃ x, a0 = some x ∧ len0 ≤ cap0 ∧ cap0 ≤ maxLen ∧ z0.length = cap0 ∧ (∀ i, i < z0.length → w.cell? (x.add i) = some (.int .u8 (z0.getD i 0))) ∧ ∀ n ∈ z0, (Lit.int .u8 n).wf = true) (y0 : len0 * 1 ≤ 140737488351232) (w1 : (a1 = none ∧ len1 = 0 ∧ cap1 = 0 ∧ z1 = []) ∨ ∃ x, a1 = some x ∧ len1 ≤ cap1 ∧ cap1 ≤ maxLen ∧ z1.length = cap1 ∧ (∀ i, i < z1.length → w.cell? (x.add i) = some (.int .u8 (z1.getD i 0))) ∧ ∀ n ∈ z1, (Lit.int .u8 n).wf = true) (y1 : len1 * 1 ≤ 140737488351232) :
  Calls Try.prog 5 #[.slice a0 len0 cap0, .slice a1 len1 cap1] w fun e w' => e = .returned (.bool true) ∧ Below w.heap.size w w' := by
 obtain ⟨l0, rfl, hr0, hm0, hw0, hc0⟩ := ReadsInt.ofRowC w0
 obtain ⟨l1, rfl, hr1, hm1, hw1, hc1⟩ := ReadsInt.ofRowC w1
 obtain ⟨k, h⟩ := P l0 l1 hm0 y0 hw0 hm1 y1 hw1
 refine (laws_FnCounts.calls k _ _ l0 _ _ l1 true w (Kd.C_of_reads (d := (0 : Int)) (h1 := fun _ => rfl) hr0) hc0 (Kd.C_of_reads (d := (0 : Int)) (h1 := fun _ => rfl) hr1) hc1 h).mono ?_
 rintro e w' ⟨rfl, hd⟩
 exact ⟨rfl, hd⟩

end Go.Proofs.Ytgkjnocjdonjdaa.PFnCounts
