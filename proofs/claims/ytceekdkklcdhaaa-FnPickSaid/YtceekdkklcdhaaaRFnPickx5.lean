-- Written by a program of this session out of the loaded functions' print; helper lemmas as print.sh lays them.
import Derived.Test.YtceekdkklcdhaaaUp
import Derived.Test.YtceekdkklcdhaaaRFnPickx0
import Derived.Test.YtceekdkklcdhaaaRFnPickx1
import Derived.Test.YtceekdkklcdhaaaRFnPickx2
import Derived.Test.YtceekdkklcdhaaaRFnPickx3
import Derived.Test.YtceekdkklcdhaaaRFnPickx4
namespace Go.Proofs.Ytceekdkklcdhaaa.PFnPick
open Go.RowKit Go.Proofs.YtceekdkklcdhaaaW.PrintWords Go.Proofs.YtceekdkklcdhaaaW.PrintLast Go.Proofs.YtceekdkklcdhaaaW.PrintMore
attribute [local go_sem] max2_int min2_int max_two min_two max_three min_three max_four min_four  -- for this text's walks alone
set_option linter.unusedVariables false
set_option linter.unusedSimpArgs false

/-! ### spec_Fairly: function 7 -/
mutual
def spec_Fairly.l0 : Nat → List (S44) → List (S44) → Int → Int → List (S44) → Int → Int → Option (Bool)
 | 0, _, _, _, _, _, _, _ => none
 | k + 1, x0, x1, x2, x7, x22, x23, x24 => if x24 < x23 then (if 0 ≤ x24 then (if x24 < (x22.length : Int) then (spec_Fairly.l1 k x0 x1 x2 x7 x24 true x22 x23 x24 x0 (x0.length : Int) 0 ((rd_T44 x22 x24).f0) ((rd_T44 x22 x24).f1)) else (none)) else (none)) else (some true)
def spec_Fairly.l1 : Nat → List (S44) → List (S44) → Int → Int → Int → Bool → List (S44) → Int → Int → List (S44) → Int → Int → Int → Int → Option (Bool)
 | 0, _, _, _, _, _, _, _, _, _, _, _, _, _, _ => none
 | k + 1, x0, x1, x2, x7, x8, x10, x22, x23, x24, x29, x30, x31, x227000, x227001 => if x31 < x30 then (if 0 ≤ x31 then (if x31 < (x29.length : Int) then (if ((rd_T44 x29 x31).f0) = x227000 then (if x10 = true then (spec_Fairly.l1 k x0 x1 x2 x7 x8 (decide (x31 ≥ x8)) x22 x23 x24 x29 x30 (wrap64 (x31 + 1)) x227000 x227001) else (spec_Fairly.l1 k x0 x1 x2 x7 x8 false x22 x23 x24 x29 x30 (wrap64 (x31 + 1)) x227000 x227001)) else (spec_Fairly.l1 k x0 x1 x2 x7 x8 x10 x22 x23 x24 x29 x30 (wrap64 (x31 + 1)) x227000 x227001)) else (none)) else (none)) else (if x10 = true then (spec_Fairly.l2 k x0 x1 x2 x7 0 0 x22 x23 x24 x0 (x0.length : Int) 0 x227000 x227001) else (spec_Fairly.l0 k x0 x1 x2 x7 x22 x23 (wrap64 (x24 + 1))))
def spec_Fairly.l2 : Nat → List (S44) → List (S44) → Int → Int → Int → Int → List (S44) → Int → Int → List (S44) → Int → Int → Int → Int → Option (Bool)
 | 0, _, _, _, _, _, _, _, _, _, _, _, _, _, _ => none
 | k + 1, x0, x1, x2, x7, x13, x14, x22, x23, x24, x50, x51, x52, x227000, x227001 => if x52 < x51 then (if 0 ≤ x52 then (if x52 < (x50.length : Int) then (if ((rd_T44 x50 x52).f0) = x227000 then (if x7 = 0 then (none) else (spec_Fairly.l2 k x0 x1 x2 x7 (wrap64 (x13 + (wrap64 (Int.tdiv (wrap64 (((rd_T44 x50 x52).f1) * x2)) x7)))) (wrap64 (x14 + (wrap64 (Int.tdiv (wrap64 ((wrap64 ((wrap64 (((rd_T44 x50 x52).f1) * x2)) + x7)) - 1)) x7)))) x22 x23 x24 x50 x51 (wrap64 (x52 + 1)) x227000 x227001)) else (spec_Fairly.l2 k x0 x1 x2 x7 x13 x14 x22 x23 x24 x50 x51 (wrap64 (x52 + 1)) x227000 x227001)) else (none)) else (none)) else (spec_Fairly.l3 k x0 x1 x2 x7 x13 x14 0 x22 x23 x24 x1 (x1.length : Int) 0 x227000 x227001)
def spec_Fairly.l3 : Nat → List (S44) → List (S44) → Int → Int → Int → Int → Int → List (S44) → Int → Int → List (S44) → Int → Int → Int → Int → Option (Bool)
 | 0, _, _, _, _, _, _, _, _, _, _, _, _, _, _, _ => none
 | k + 1, x0, x1, x2, x7, x13, x14, x17, x22, x23, x24, x81, x82, x83, x227000, x227001 => if x83 < x82 then (if 0 ≤ x83 then (if x83 < (x81.length : Int) then (if ((rd_T44 x81 x83).f0) = x227000 then (if ((rd_T44 x81 x83).f1) = 1 then (spec_Fairly.l3 k x0 x1 x2 x7 x13 x14 (wrap64 (x17 + 1)) x22 x23 x24 x81 x82 (wrap64 (x83 + 1)) x227000 x227001) else (spec_Fairly.l3 k x0 x1 x2 x7 x13 x14 x17 x22 x23 x24 x81 x82 (wrap64 (x83 + 1)) x227000 x227001)) else (spec_Fairly.l3 k x0 x1 x2 x7 x13 x14 x17 x22 x23 x24 x81 x82 (wrap64 (x83 + 1)) x227000 x227001)) else (none)) else (none)) else (if x17 < x13 then (some false) else (if x17 > x14 then (some false) else (spec_Fairly.l0 k x0 x1 x2 x7 x22 x23 (wrap64 (x24 + 1)))))
end
def spec_Fairly.f (k : Nat) (l0 : List (S44)) (l1 : List (S44)) (a2 : Int) : Option (Bool) := (spec_l11Sum.f k l0).bind fun t224 => (spec_Fairly.l0 k l0 l1 a2 t224 l0 (l0.length : Int) 0)
theorem spec_Fairly.mono_l : ∀ k, (∀ y0 y1 y2 y3 y4 y5 y6, LeO (spec_Fairly.l0 k y0 y1 y2 y3 y4 y5 y6) (spec_Fairly.l0 (k + 1) y0 y1 y2 y3 y4 y5 y6)) ∧ (∀ y0 y1 y2 y3 y4 y5 y6 y7 y8 y9 y10 y11 y12 y13, LeO (spec_Fairly.l1 k y0 y1 y2 y3 y4 y5 y6 y7 y8 y9 y10 y11 y12 y13) (spec_Fairly.l1 (k + 1) y0 y1 y2 y3 y4 y5 y6 y7 y8 y9 y10 y11 y12 y13)) ∧ (∀ y0 y1 y2 y3 y4 y5 y6 y7 y8 y9 y10 y11 y12 y13, LeO (spec_Fairly.l2 k y0 y1 y2 y3 y4 y5 y6 y7 y8 y9 y10 y11 y12 y13) (spec_Fairly.l2 (k + 1) y0 y1 y2 y3 y4 y5 y6 y7 y8 y9 y10 y11 y12 y13)) ∧ (∀ y0 y1 y2 y3 y4 y5 y6 y7 y8 y9 y10 y11 y12 y13 y14, LeO (spec_Fairly.l3 k y0 y1 y2 y3 y4 y5 y6 y7 y8 y9 y10 y11 y12 y13 y14) (spec_Fairly.l3 (k + 1) y0 y1 y2 y3 y4 y5 y6 y7 y8 y9 y10 y11 y12 y13 y14))
 | 0 => ⟨fun _ _ _ _ _ _ _ r h => by simp [spec_Fairly.l0] at h, fun _ _ _ _ _ _ _ _ _ _ _ _ _ _ r h => by simp [spec_Fairly.l1] at h, fun _ _ _ _ _ _ _ _ _ _ _ _ _ _ r h => by simp [spec_Fairly.l2] at h, fun _ _ _ _ _ _ _ _ _ _ _ _ _ _ _ r h => by simp [spec_Fairly.l3] at h⟩
 | k + 1 => by
  obtain ⟨ih0, ih1, ih2, ih3⟩ := spec_Fairly.mono_l k
  refine ⟨?_, ?_, ?_, ?_⟩
  ·intro y0 y1 y2 y3 y4 y5 y6
   unfold spec_Fairly.l0
   repeat' first
   | (with_reducible exact ih0 _ _ _ _ _ _ _)
   | (with_reducible exact ih1 _ _ _ _ _ _ _ _ _ _ _ _ _ _)
   | (with_reducible exact ih2 _ _ _ _ _ _ _ _ _ _ _ _ _ _)
   | (with_reducible exact ih3 _ _ _ _ _ _ _ _ _ _ _ _ _ _ _)
   | (with_reducible exact spec_l11Sum.mono _ _)
   | (with_reducible exact LeO.refl _)
   | (with_reducible exact LeO.none _)
   | (with_reducible refine LeO.ite ?_ ?_)
   | (with_reducible refine LeO.bind ?_ (fun _ => ?_))
   | exact ih0 _ _ _ _ _ _ _
   | exact ih1 _ _ _ _ _ _ _ _ _ _ _ _ _ _
   | exact ih2 _ _ _ _ _ _ _ _ _ _ _ _ _ _
   | exact ih3 _ _ _ _ _ _ _ _ _ _ _ _ _ _ _
   | exact spec_l11Sum.mono _ _
   | exact LeO.none _
   | refine LeO.ite ?_ ?_
   | refine LeO.bind ?_ (fun _ => ?_)
  ·intro y0 y1 y2 y3 y4 y5 y6 y7 y8 y9 y10 y11 y12 y13
   unfold spec_Fairly.l1
   repeat' first
   | (with_reducible exact ih0 _ _ _ _ _ _ _)
   | (with_reducible exact ih1 _ _ _ _ _ _ _ _ _ _ _ _ _ _)
   | (with_reducible exact ih2 _ _ _ _ _ _ _ _ _ _ _ _ _ _)
   | (with_reducible exact ih3 _ _ _ _ _ _ _ _ _ _ _ _ _ _ _)
   | (with_reducible exact spec_l11Sum.mono _ _)
   | (with_reducible exact LeO.refl _)
   | (with_reducible exact LeO.none _)
   | (with_reducible refine LeO.ite ?_ ?_)
   | (with_reducible refine LeO.bind ?_ (fun _ => ?_))
   | exact ih0 _ _ _ _ _ _ _
   | exact ih1 _ _ _ _ _ _ _ _ _ _ _ _ _ _
   | exact ih2 _ _ _ _ _ _ _ _ _ _ _ _ _ _
   | exact ih3 _ _ _ _ _ _ _ _ _ _ _ _ _ _ _
   | exact spec_l11Sum.mono _ _
   | exact LeO.none _
   | refine LeO.ite ?_ ?_
   | refine LeO.bind ?_ (fun _ => ?_)
  ·intro y0 y1 y2 y3 y4 y5 y6 y7 y8 y9 y10 y11 y12 y13
   unfold spec_Fairly.l2
   repeat' first
   | (with_reducible exact ih0 _ _ _ _ _ _ _)
   | (with_reducible exact ih1 _ _ _ _ _ _ _ _ _ _ _ _ _ _)
   | (with_reducible exact ih2 _ _ _ _ _ _ _ _ _ _ _ _ _ _)
   | (with_reducible exact ih3 _ _ _ _ _ _ _ _ _ _ _ _ _ _ _)
   | (with_reducible exact spec_l11Sum.mono _ _)
   | (with_reducible exact LeO.refl _)
   | (with_reducible exact LeO.none _)
   | (with_reducible refine LeO.ite ?_ ?_)
   | (with_reducible refine LeO.bind ?_ (fun _ => ?_))
   | exact ih0 _ _ _ _ _ _ _
   | exact ih1 _ _ _ _ _ _ _ _ _ _ _ _ _ _
   | exact ih2 _ _ _ _ _ _ _ _ _ _ _ _ _ _
   | exact ih3 _ _ _ _ _ _ _ _ _ _ _ _ _ _ _
   | exact spec_l11Sum.mono _ _
   | exact LeO.none _
   | refine LeO.ite ?_ ?_
   | refine LeO.bind ?_ (fun _ => ?_)
  ·intro y0 y1 y2 y3 y4 y5 y6 y7 y8 y9 y10 y11 y12 y13 y14
   unfold spec_Fairly.l3
   repeat' first
   | (with_reducible exact ih0 _ _ _ _ _ _ _)
   | (with_reducible exact ih1 _ _ _ _ _ _ _ _ _ _ _ _ _ _)
   | (with_reducible exact ih2 _ _ _ _ _ _ _ _ _ _ _ _ _ _)
   | (with_reducible exact ih3 _ _ _ _ _ _ _ _ _ _ _ _ _ _ _)
   | (with_reducible exact spec_l11Sum.mono _ _)
   | (with_reducible exact LeO.refl _)
   | (with_reducible exact LeO.none _)
   | (with_reducible refine LeO.ite ?_ ?_)
   | (with_reducible refine LeO.bind ?_ (fun _ => ?_))
   | exact ih0 _ _ _ _ _ _ _
   | exact ih1 _ _ _ _ _ _ _ _ _ _ _ _ _ _
   | exact ih2 _ _ _ _ _ _ _ _ _ _ _ _ _ _
   | exact ih3 _ _ _ _ _ _ _ _ _ _ _ _ _ _ _
   | exact spec_l11Sum.mono _ _
   | exact LeO.none _
   | refine LeO.ite ?_ ?_
   | refine LeO.bind ?_ (fun _ => ?_)
theorem spec_Fairly.mono : ∀ a0 a1 a2 k, LeO (spec_Fairly.f k a0 a1 a2) (spec_Fairly.f (k + 1) a0 a1 a2) := by
 intro a0 a1 a2 k
 obtain ⟨ih0, ih1, ih2, ih3⟩ := spec_Fairly.mono_l k
 unfold spec_Fairly.f
 repeat' first
   | (with_reducible exact ih0 _ _ _ _ _ _ _)
   | (with_reducible exact ih1 _ _ _ _ _ _ _ _ _ _ _ _ _ _)
   | (with_reducible exact ih2 _ _ _ _ _ _ _ _ _ _ _ _ _ _)
   | (with_reducible exact ih3 _ _ _ _ _ _ _ _ _ _ _ _ _ _ _)
   | (with_reducible exact spec_l11Sum.mono _ _)
   | (with_reducible exact LeO.refl _)
   | (with_reducible exact LeO.none _)
   | (with_reducible refine LeO.ite ?_ ?_)
   | (with_reducible refine LeO.bind ?_ (fun _ => ?_))
   | exact ih0 _ _ _ _ _ _ _
   | exact ih1 _ _ _ _ _ _ _ _ _ _ _ _ _ _
   | exact ih2 _ _ _ _ _ _ _ _ _ _ _ _ _ _
   | exact ih3 _ _ _ _ _ _ _ _ _ _ _ _ _ _ _
   | exact spec_l11Sum.mono _ _
   | exact LeO.none _
   | refine LeO.ite ?_ ?_
   | refine LeO.bind ?_ (fun _ => ?_)
set_option maxHeartbeats 8000000 in
set_option maxRecDepth 100000 in
theorem spec_Fairly.calls (k : Nat) (A0 : Option Addr) (c0 : Nat) (l0 : List (S44)) (A1 : Option Addr) (c1 : Nat) (l1 : List (S44)) (a2 : Int) (r : Bool) (w : World) (hr0 : Kd.C k44 w A0 l0.length l0) (hc0 : l0.length ≤ c0) (hr1 : Kd.C k44 w A1 l1.length l1) (hc1 : l1.length ≤ c1) (h : spec_Fairly.f k l0 l1 a2 = some r) :
  Calls Try.prog 7 #[.slice A0 l0.length c0, .slice A1 l1.length c1, .int .i64 a2] w fun e w' => e = .returned (.bool r) ∧ Below w.heap.size w w' := by
 have hu44 := Try.underlying44
 have HR0 := Aside0.mk hr0
 have HC0 := Aside0.mk hc0
 clear hr0 hc0
 have HR1 := Aside0.mk hr1
 have HC1 := Aside0.mk hc1
 clear hr1 hc1
 have HB := a_ (Below.refl w.heap.size w)
 have H : ((spec_l11Sum.f k l0).bind fun t224 => (spec_Fairly.l0 k l0 l1 a2 t224 l0 (l0.length : Int) 0)) = some r := h
 clear h
 replace H := Option.bind_eq_some_iff.mp H
 obtain ⟨t224, A40, H⟩ := H
 replace H : (spec_Fairly.l0 k l0 l1 a2 t224 l0 (l0.length : Int) 0) = some r := H
 have A4 := Aside0.mk A40
 clear A40
 have H' := Aside0.mk H
 clear H
 go_enter Try.func7, Try.ntmps7
 go_wp2_with (first | ((with_reducible refine gate_callee (f := 12) rfl ?_); refine goesL_ (some 21) rfl rfl Try.func12 (by kernel_rfl) rfl #[.slice A0 l0.length c0] rfl (by (try simp only [lA, lB, lC]); first | done | rfl | (simp only [lD, lE]; rfl)) ?_; (with_reducible refine (spec_l11Sum.calls k _ _ l0 t224 _ ?side1 ?side2 A4.out).mono ?_); (case side1 => repeat (first | exact HR0.out | (with_reducible refine Kd.C_alloc ?_ _) | (with_reducible refine Kd.C_drewN ?_ _) | (with_reducible refine Kd.C_drew ?_))); (case side2 => exact HC0.out); rintro e w5 ⟨rfl, hb⟩; refine ⟨_, rfl, ?_⟩; replace HB := a_ (below_step (un HB.out) hb); clear hb))
 go_loopg [24] k (fun kq v24 w' => ∃ (x24_1 : Int), v24 = .int .i64 x24_1 ∧ Aside0 (spec_Fairly.l0 kq l0 l1 a2 t224 l0 (l0.length : Int) x24_1 = some r) ∧ Aside0 (kq ≤ k) ∧ Aside0 (Below w.heap.size w w'))
 case atStart => exact ⟨(0), (by first | rfl | (simp; done) | (simp [*]; done)), H', ⟨Nat.le_refl _⟩, ⟨un HB.out⟩⟩
 case round =>
  clear H'
  try clear c1
  try clear p2
  obtain ⟨x24_1, rfl, HA, HK1, HB⟩ := hrel
  cases gk with
  | zero => exact absurd HA.out (by simp [spec_Fairly.l0])
  | succ k1 =>
   have H := HA.out
   clear HA
   simp only [spec_Fairly.l0] at H
   by_cases c6 : x24_1 < (l0.length : Int)
   ·rw [if_pos c6] at H
    have c6b0 : decide (x24_1 < (l0.length : Int)) = true := decide_eq_true c6
    clear c6
    by_cases c7 : 0 ≤ x24_1
    ·rw [if_pos c7] at H
     have c7b0 : decide (0 ≤ x24_1) = true := decide_eq_true c7
     clear c7
     by_cases c8 : x24_1 < (l0.length : Int)
     ·rw [if_pos c8] at H
      have c8b0 : decide (x24_1 < (l0.length : Int)) = true := decide_eq_true c8
      clear c8
      have H' := Aside0.mk H
      clear H
      have p225 : 0 ≤ (x24_1 : Int) := of_decide_eq_true (by first | (with_reducible assumption) | assumption)
      have q225 : x24_1 < (l0.length : Int) := of_decide_eq_true (by first | (with_reducible assumption) | assumption)
      obtain ⟨ad225, e225, hx225_0, hx225_1⟩ := at_T44 HR0.out x24_1 p225 q225
      cases e225
      replace hx225_0 := (HB.out.cell (World.block_lt_of_cell? w _ hx225_0)).trans hx225_0
      replace hx225_1 := (HB.out.cell (World.block_lt_of_cell? w _ hx225_1)).trans hx225_1
      replace p225 := eq_true p225
      replace q225 := eq_true q225
      go_wp2_with (first | ((with_reducible refine gate_dst (N := 9) rfl ?_); refine box_event ?hg (N := 9) ?hd (cs := #[.int .i64 0, .int .i64 0]) (t := 44) ?hr ?_; (case hd => rfl); (case hg => rfl); (case hr => first | (go_simp; done) | (go_simp; rfl)); intro gb226 hg w9 hbox hb; have BK226 := a_ (hbox); have GW226 := a_ (bsg hg HB.out); have GE226 := a_ (bsg hg HB.out); replace HB := a_ (below_step (un HB.out) hb); clear hb hbox hg; have hcz10_0 : w9.cell? ⟨gb226, 0, none⟩ = some (.int .i64 0) := (blk_cell BK226.out 0).trans rfl; have hcz10_1 : w9.cell? ⟨gb226, 1, none⟩ = some (.int .i64 0) := (blk_cell BK226.out 1).trans rfl; have hfz10_0 := blk_frozen BK226.out 0; have hfz10_1 := blk_frozen BK226.out 1))
      go_loopg [10, 31] k1 (fun kq v10 v31 w' => ∃ (x10_2 : Bool) (x31_2 : Int), v10 = .bool x10_2 ∧ v31 = .int .i64 x31_2 ∧ Aside0 (spec_Fairly.l1 kq l0 l1 a2 t224 x24_1 x10_2 l0 (l0.length : Int) x24_1 l0 (l0.length : Int) x31_2 ((rd_T44 l0 x24_1).f0) ((rd_T44 l0 x24_1).f1) = some r) ∧ Aside0 (kq ≤ k1) ∧ Aside0 (w'.heap[gb226]? = some (.cells #[.int .i64 ((rd_T44 l0 x24_1).f0), .int .i64 ((rd_T44 l0 x24_1).f1)] 44 (0, 0))) ∧ Aside0 (Below w.heap.size w w'))
      case atStart => exact ⟨(true), (0), (by first | rfl | (simp; done) | (simp [*]; done)), (by first | rfl | (simp; done) | (simp [*]; done)), H', ⟨Nat.le_refl _⟩, ⟨by refine pk ?_; refine blk_put (cs := #[.int .i64 ((rd_T44 l0 x24_1).f0), .int .i64 0]) ?_ 1 _ rfl; refine pk ?_; refine blk_put (cs := #[.int .i64 0, .int .i64 0]) ?_ 0 _ rfl; refine pk ?_; exact BK226.out⟩, ⟨by repeat (first | (with_reducible first | exact HB.out | apply below_alloc | apply pw_below_drewN | apply below_drew1 | refine below_set ?_ GE226.out) | exact HB.out)⟩⟩
      case round =>
       clear H'
       try clear c1
       try clear p2
       try clear q2
       try clear hx2
       try clear c6
       try clear c6b0
       try clear c7
       try clear c7b0
       try clear c8
       try clear c8b0
       try clear hcz10_0
       try clear hcz10_1
       try clear hfz10_0
       try clear hfz10_1
       try clear hx225_0
       try clear hx225_1
       try clear p2
       try clear p225
       try clear q225
       obtain ⟨x10_2, x31_2, rfl, rfl, HA, HK2, BK226, HB⟩ := hrel
       cases gk with
       | zero => exact absurd HA.out (by simp [spec_Fairly.l1])
       | succ k2 =>
        have H := HA.out
        clear HA
        simp only [spec_Fairly.l1] at H
        by_cases c11 : x31_2 < (l0.length : Int)
        ·rw [if_pos c11] at H
         have c11b0 : decide (x31_2 < (l0.length : Int)) = true := decide_eq_true c11
         clear c11
         by_cases c12 : 0 ≤ x31_2
         ·rw [if_pos c12] at H
          have c12b0 : decide (0 ≤ x31_2) = true := decide_eq_true c12
          clear c12
          by_cases c13 : x31_2 < (l0.length : Int)
          ·rw [if_pos c13] at H
           have c13b0 : decide (x31_2 < (l0.length : Int)) = true := decide_eq_true c13
           clear c13
           by_cases c14 : ((rd_T44 l0 x31_2).f0) = ((rd_T44 l0 x24_1).f0)
           ·rw [if_pos c14] at H
            have c14b0 : (((rd_T44 l0 x31_2).f0) == ((rd_T44 l0 x24_1).f0)) = true := beq_iff_eq.mpr c14
            have c14b1 : (((rd_T44 l0 x31_2).f0) != ((rd_T44 l0 x24_1).f0)) = false := bne_eq_false_iff_eq.mpr c14
            clear c14
            by_cases c15 : x10_2 = true
            ·subst c15
             have H1 : (spec_Fairly.l1 k2 l0 l1 a2 t224 x24_1 (decide (x31_2 ≥ x24_1)) l0 (l0.length : Int) x24_1 l0 (l0.length : Int) (wrap64 (x31_2 + 1)) ((rd_T44 l0 x24_1).f0) ((rd_T44 l0 x24_1).f1)) = some r := by rw [if_pos rfl] at H; exact H
             clear H
             have H := H1
             clear H1
             have H' := Aside0.mk H
             clear H
             have p227 : 0 ≤ (x31_2 : Int) := of_decide_eq_true (by first | (with_reducible assumption) | assumption)
             have q227 : x31_2 < (l0.length : Int) := of_decide_eq_true (by first | (with_reducible assumption) | assumption)
             obtain ⟨ad227, e227, hx227_0, hx227_1⟩ := at_T44 HR0.out x31_2 p227 q227
             obtain rfl : ad225 = ad227 := (by injection e227)
             replace hx227_0 := (HB.out.cell (World.block_lt_of_cell? w _ hx227_0)).trans hx227_0
             replace hx227_1 := (HB.out.cell (World.block_lt_of_cell? w _ hx227_1)).trans hx227_1
             replace p227 := eq_true p227
             replace q227 := eq_true q227
             go_wp2_with (first | ((with_reducible refine gate_dst (N := 12) rfl ?_); refine box_event ?hg (N := 12) ?hd (cs := #[.int .i64 0, .int .i64 0]) (t := 44) ?hr ?_; (case hd => rfl); (case hg => rfl); (case hr => first | (go_simp; done) | (go_simp; rfl)); intro gb228 hg w16 hbox hb; have BK228 := a_ (hbox); have GW228 := a_ (bsg hg HB.out); have GE228 := a_ (bsg hg HB.out); replace HB := a_ (below_step (by repeat first | exact un HB.out | refine bz ?_ (by assumption) | apply below_alloc | apply pw_below_drewN | apply below_drew1) hb); have NB226_228 := a_ (nel hg BK226.out); have NB228_226 := a_ (nle hg BK226.out); replace BK226 := a_ (blk_below (pk BK226.out) hb); clear hb hbox hg; have hnb17 := NB228_226.out; have hnc17 := NB226_228.out; have hcz18_0 : w16.cell? ⟨gb228, 0, none⟩ = some (.int .i64 0) := (blk_cell BK228.out 0).trans rfl; have hcz18_1 : w16.cell? ⟨gb228, 1, none⟩ = some (.int .i64 0) := (blk_cell BK228.out 1).trans rfl; have hfz18_0 := blk_frozen BK228.out 0; have hfz18_1 := blk_frozen BK228.out 1; have hcz19_0 : w16.cell? ⟨gb226, 0, none⟩ = some (.int .i64 ((rd_T44 l0 x24_1).f0)) := (blk_cell BK226.out 0).trans rfl; have hcz19_1 : w16.cell? ⟨gb226, 1, none⟩ = some (.int .i64 ((rd_T44 l0 x24_1).f1)) := (blk_cell BK226.out 1).trans rfl; have hfz19_0 := blk_frozen BK226.out 0; have hfz19_1 := blk_frozen BK226.out 1))
             go_roundg k2
             case measure => have := HK1.out; have := HK2.out; omega
             case rel => exact ⟨(decide (x31_2 ≥ x24_1)), (wrap64 (x31_2 + 1)), (by first | rfl | (simp; done) | (simp [*]; done)), (by first | rfl | (simp; done) | (simp [*]; done)), H', ⟨by have := HK1.out; have := HK2.out; omega⟩, ⟨by refine pk ?_; refine blk_far ?_ NB226_228.out _; refine pk ?_; refine blk_far ?_ NB226_228.out _; refine pk ?_; exact BK226.out⟩, ⟨by repeat (first | (with_reducible first | exact HB.out | apply below_alloc | apply pw_below_drewN | apply below_drew1 | refine below_set ?_ GE226.out | refine below_set ?_ GE228.out) | exact HB.out)⟩⟩
            ·replace c15 := Bool.eq_false_iff.mpr c15
             subst c15
             have H1 : (spec_Fairly.l1 k2 l0 l1 a2 t224 x24_1 false l0 (l0.length : Int) x24_1 l0 (l0.length : Int) (wrap64 (x31_2 + 1)) ((rd_T44 l0 x24_1).f0) ((rd_T44 l0 x24_1).f1)) = some r := by rw [if_neg (show ¬ (false = true) by decide)] at H; exact H
             clear H
             have H := H1
             clear H1
             have H' := Aside0.mk H
             clear H
             have p227 : 0 ≤ (x31_2 : Int) := of_decide_eq_true (by first | (with_reducible assumption) | assumption)
             have q227 : x31_2 < (l0.length : Int) := of_decide_eq_true (by first | (with_reducible assumption) | assumption)
             obtain ⟨ad227, e227, hx227_0, hx227_1⟩ := at_T44 HR0.out x31_2 p227 q227
             obtain rfl : ad225 = ad227 := (by injection e227)
             replace hx227_0 := (HB.out.cell (World.block_lt_of_cell? w _ hx227_0)).trans hx227_0
             replace hx227_1 := (HB.out.cell (World.block_lt_of_cell? w _ hx227_1)).trans hx227_1
             replace p227 := eq_true p227
             replace q227 := eq_true q227
             go_wp2_with (first | ((with_reducible refine gate_dst (N := 12) rfl ?_); refine box_event ?hg (N := 12) ?hd (cs := #[.int .i64 0, .int .i64 0]) (t := 44) ?hr ?_; (case hd => rfl); (case hg => rfl); (case hr => first | (go_simp; done) | (go_simp; rfl)); intro gb228 hg w20 hbox hb; have BK228 := a_ (hbox); have GW228 := a_ (bsg hg HB.out); have GE228 := a_ (bsg hg HB.out); replace HB := a_ (below_step (by repeat first | exact un HB.out | refine bz ?_ (by assumption) | apply below_alloc | apply pw_below_drewN | apply below_drew1) hb); have NB226_228 := a_ (nel hg BK226.out); have NB228_226 := a_ (nle hg BK226.out); replace BK226 := a_ (blk_below (pk BK226.out) hb); clear hb hbox hg; have hnb21 := NB228_226.out; have hnc21 := NB226_228.out; have hcz22_0 : w20.cell? ⟨gb228, 0, none⟩ = some (.int .i64 0) := (blk_cell BK228.out 0).trans rfl; have hcz22_1 : w20.cell? ⟨gb228, 1, none⟩ = some (.int .i64 0) := (blk_cell BK228.out 1).trans rfl; have hfz22_0 := blk_frozen BK228.out 0; have hfz22_1 := blk_frozen BK228.out 1; have hcz23_0 : w20.cell? ⟨gb226, 0, none⟩ = some (.int .i64 ((rd_T44 l0 x24_1).f0)) := (blk_cell BK226.out 0).trans rfl; have hcz23_1 : w20.cell? ⟨gb226, 1, none⟩ = some (.int .i64 ((rd_T44 l0 x24_1).f1)) := (blk_cell BK226.out 1).trans rfl; have hfz23_0 := blk_frozen BK226.out 0; have hfz23_1 := blk_frozen BK226.out 1))
             go_roundg k2
             case measure => have := HK1.out; have := HK2.out; omega
             case rel => exact ⟨(false), (wrap64 (x31_2 + 1)), (by first | rfl | (simp; done) | (simp [*]; done)), (by first | rfl | (simp; done) | (simp [*]; done)), H', ⟨by have := HK1.out; have := HK2.out; omega⟩, ⟨by refine pk ?_; refine blk_far ?_ NB226_228.out _; refine pk ?_; refine blk_far ?_ NB226_228.out _; refine pk ?_; exact BK226.out⟩, ⟨by repeat (first | (with_reducible first | exact HB.out | apply below_alloc | apply pw_below_drewN | apply below_drew1 | refine below_set ?_ GE226.out | refine below_set ?_ GE228.out) | exact HB.out)⟩⟩
           ·rw [if_neg c14] at H
            have c14b0 : (((rd_T44 l0 x31_2).f0) == ((rd_T44 l0 x24_1).f0)) = false := beq_eq_false_iff_ne.mpr c14
            have c14b1 : (((rd_T44 l0 x31_2).f0) != ((rd_T44 l0 x24_1).f0)) = true := bne_iff_ne.mpr c14
            have H' := Aside0.mk H
            clear H
            have p227 : 0 ≤ (x31_2 : Int) := of_decide_eq_true (by first | (with_reducible assumption) | assumption)
            have q227 : x31_2 < (l0.length : Int) := of_decide_eq_true (by first | (with_reducible assumption) | assumption)
            obtain ⟨ad227, e227, hx227_0, hx227_1⟩ := at_T44 HR0.out x31_2 p227 q227
            obtain rfl : ad225 = ad227 := (by injection e227)
            replace hx227_0 := (HB.out.cell (World.block_lt_of_cell? w _ hx227_0)).trans hx227_0
            replace hx227_1 := (HB.out.cell (World.block_lt_of_cell? w _ hx227_1)).trans hx227_1
            replace p227 := eq_true p227
            replace q227 := eq_true q227
            go_wp2_with (first | ((with_reducible refine gate_dst (N := 12) rfl ?_); refine box_event ?hg (N := 12) ?hd (cs := #[.int .i64 0, .int .i64 0]) (t := 44) ?hr ?_; (case hd => rfl); (case hg => rfl); (case hr => first | (go_simp; done) | (go_simp; rfl)); intro gb228 hg w24 hbox hb; have BK228 := a_ (hbox); have GW228 := a_ (bsg hg HB.out); have GE228 := a_ (bsg hg HB.out); replace HB := a_ (below_step (by repeat first | exact un HB.out | refine bz ?_ (by assumption) | apply below_alloc | apply pw_below_drewN | apply below_drew1) hb); have NB226_228 := a_ (nel hg BK226.out); have NB228_226 := a_ (nle hg BK226.out); replace BK226 := a_ (blk_below (pk BK226.out) hb); clear hb hbox hg; have hnb25 := NB228_226.out; have hnc25 := NB226_228.out; have hcz26_0 : w24.cell? ⟨gb228, 0, none⟩ = some (.int .i64 0) := (blk_cell BK228.out 0).trans rfl; have hcz26_1 : w24.cell? ⟨gb228, 1, none⟩ = some (.int .i64 0) := (blk_cell BK228.out 1).trans rfl; have hfz26_0 := blk_frozen BK228.out 0; have hfz26_1 := blk_frozen BK228.out 1; have hcz27_0 : w24.cell? ⟨gb226, 0, none⟩ = some (.int .i64 ((rd_T44 l0 x24_1).f0)) := (blk_cell BK226.out 0).trans rfl; have hcz27_1 : w24.cell? ⟨gb226, 1, none⟩ = some (.int .i64 ((rd_T44 l0 x24_1).f1)) := (blk_cell BK226.out 1).trans rfl; have hfz27_0 := blk_frozen BK226.out 0; have hfz27_1 := blk_frozen BK226.out 1))
            go_roundg k2
            case measure => have := HK1.out; have := HK2.out; omega
            case rel => exact ⟨(x10_2), (wrap64 (x31_2 + 1)), (by first | rfl | (simp; done) | (simp [*]; done)), (by first | rfl | (simp; done) | (simp [*]; done)), H', ⟨by have := HK1.out; have := HK2.out; omega⟩, ⟨by refine pk ?_; refine blk_far ?_ NB226_228.out _; refine pk ?_; refine blk_far ?_ NB226_228.out _; refine pk ?_; exact BK226.out⟩, ⟨by repeat (first | (with_reducible first | exact HB.out | apply below_alloc | apply pw_below_drewN | apply below_drew1 | refine below_set ?_ GE226.out | refine below_set ?_ GE228.out) | exact HB.out)⟩⟩
          ·rw [if_neg c13] at H
           exact absurd H (by simp)
         ·rw [if_neg c12] at H
          exact absurd H (by simp)
        ·rw [if_neg c11] at H
         have c11b0 : decide (x31_2 < (l0.length : Int)) = false := decide_eq_false c11
         clear c11
         by_cases c28 : x10_2 = true
         ·subst c28
          have H1 : (spec_Fairly.l2 k2 l0 l1 a2 t224 0 0 l0 (l0.length : Int) x24_1 l0 (l0.length : Int) 0 ((rd_T44 l0 x24_1).f0) ((rd_T44 l0 x24_1).f1)) = some r := by rw [if_pos rfl] at H; exact H
          clear H
          have H := H1
          clear H1
          have H' := Aside0.mk H
          clear H
          go_wp2
          go_loopg [13, 14, 52] k2 (fun kq v13 v14 v52 w' => ∃ (x13_3 : Int) (x14_3 : Int) (x52_3 : Int), v13 = .int .i64 x13_3 ∧ v14 = .int .i64 x14_3 ∧ v52 = .int .i64 x52_3 ∧ Aside0 (spec_Fairly.l2 kq l0 l1 a2 t224 x13_3 x14_3 l0 (l0.length : Int) x24_1 l0 (l0.length : Int) x52_3 ((rd_T44 l0 x24_1).f0) ((rd_T44 l0 x24_1).f1) = some r) ∧ Aside0 (kq ≤ k2) ∧ Aside0 (w'.heap[gb226]? = some (.cells #[.int .i64 ((rd_T44 l0 x24_1).f0), .int .i64 ((rd_T44 l0 x24_1).f1)] 44 (0, 0))) ∧ Aside0 (Below w.heap.size w w'))
          case atStart => exact ⟨(0), (0), (0), (by first | rfl | (simp; done) | (simp [*]; done)), (by first | rfl | (simp; done) | (simp [*]; done)), (by first | rfl | (simp; done) | (simp [*]; done)), H', ⟨Nat.le_refl _⟩, ⟨by refine pk ?_; exact BK226.out⟩, ⟨by repeat (first | (with_reducible first | exact HB.out | apply below_alloc | apply pw_below_drewN | apply below_drew1 | refine below_set ?_ GE226.out) | exact HB.out)⟩⟩
          case round =>
           clear H'
           try clear c1
           try clear c2
           try clear p2
           try clear q2
           try clear hx2
           try clear c6
           try clear c6b0
           try clear p6
           try clear c7
           try clear c7b0
           try clear c8
           try clear c8b0
           try clear c11
           try clear c11b0
           try clear c12
           try clear c12b0
           try clear c13
           try clear c13b0
           try clear c14
           try clear c14b0
           try clear c14b1
           try clear c15
           try clear c17
           try clear c21
           try clear p22
           try clear q22
           try clear hx22
           try clear c25
           try clear c28
           try clear hcz10_0
           try clear hcz10_1
           try clear hcz18_0
           try clear hcz18_1
           try clear hcz19_0
           try clear hcz19_1
           try clear hcz22_0
           try clear hcz22_1
           try clear hcz23_0
           try clear hcz23_1
           try clear hcz26_0
           try clear hcz26_1
           try clear hcz27_0
           try clear hcz27_1
           try clear hfz10_0
           try clear hfz10_1
           try clear hfz18_0
           try clear hfz18_1
           try clear hfz19_0
           try clear hfz19_1
           try clear hfz22_0
           try clear hfz22_1
           try clear hfz23_0
           try clear hfz23_1
           try clear hfz26_0
           try clear hfz26_1
           try clear hfz27_0
           try clear hfz27_1
           try clear hx225_0
           try clear hx225_1
           try clear hx227_0
           try clear hx227_1
           try clear p2
           try clear p225
           try clear p227
           try clear q2
           try clear q225
           try clear q227
           obtain ⟨x13_3, x14_3, x52_3, rfl, rfl, rfl, HA, HK3, BK226, HB⟩ := hrel
           cases gk with
           | zero => exact absurd HA.out (by simp [spec_Fairly.l2])
           | succ k3 =>
            have H := HA.out
            clear HA
            simp only [spec_Fairly.l2] at H
            by_cases c29 : x52_3 < (l0.length : Int)
            ·rw [if_pos c29] at H
             have c29b0 : decide (x52_3 < (l0.length : Int)) = true := decide_eq_true c29
             clear c29
             by_cases c30 : 0 ≤ x52_3
             ·rw [if_pos c30] at H
              have c30b0 : decide (0 ≤ x52_3) = true := decide_eq_true c30
              clear c30
              by_cases c31 : x52_3 < (l0.length : Int)
              ·rw [if_pos c31] at H
               have c31b0 : decide (x52_3 < (l0.length : Int)) = true := decide_eq_true c31
               clear c31
               by_cases c32 : ((rd_T44 l0 x52_3).f0) = ((rd_T44 l0 x24_1).f0)
               ·rw [if_pos c32] at H
                have c32b0 : (((rd_T44 l0 x52_3).f0) == ((rd_T44 l0 x24_1).f0)) = true := beq_iff_eq.mpr c32
                have c32b1 : (((rd_T44 l0 x52_3).f0) != ((rd_T44 l0 x24_1).f0)) = false := bne_eq_false_iff_eq.mpr c32
                clear c32
                by_cases c33 : t224 = 0
                ·rw [if_pos c33] at H
                 exact absurd H (by simp)
                ·rw [if_neg c33] at H
                 have c33b0 : (t224 == 0) = false := beq_eq_false_iff_ne.mpr c33
                 have c33b1 : (t224 != 0) = true := bne_iff_ne.mpr c33
                 have H' := Aside0.mk H
                 clear H
                 have p229 : 0 ≤ (x52_3 : Int) := of_decide_eq_true (by first | (with_reducible assumption) | assumption)
                 have q229 : x52_3 < (l0.length : Int) := of_decide_eq_true (by first | (with_reducible assumption) | assumption)
                 obtain ⟨ad229, e229, hx229_0, hx229_1⟩ := at_T44 HR0.out x52_3 p229 q229
                 obtain rfl : ad225 = ad229 := (by injection e229)
                 replace hx229_0 := (HB.out.cell (World.block_lt_of_cell? w _ hx229_0)).trans hx229_0
                 replace hx229_1 := (HB.out.cell (World.block_lt_of_cell? w _ hx229_1)).trans hx229_1
                 replace p229 := eq_true p229
                 replace q229 := eq_true q229
                 go_wp2_with (first | ((with_reducible refine gate_dst (N := 16) rfl ?_); refine box_event ?hg (N := 16) ?hd (cs := #[.int .i64 0, .int .i64 0]) (t := 44) ?hr ?_; (case hd => rfl); (case hg => rfl); (case hr => first | (go_simp; done) | (go_simp; rfl)); intro gb230 hg w34 hbox hb; have BK230 := a_ (hbox); have GW230 := a_ (bsg hg HB.out); have GE230 := a_ (bsg hg HB.out); replace HB := a_ (below_step (by repeat first | exact un HB.out | refine bz ?_ (by assumption) | apply below_alloc | apply pw_below_drewN | apply below_drew1) hb); have NB226_230 := a_ (nel hg BK226.out); have NB230_226 := a_ (nle hg BK226.out); replace BK226 := a_ (blk_below (pk BK226.out) hb); clear hb hbox hg; have hnb35 := NB230_226.out; have hnc35 := NB226_230.out; have hcz36_0 : w34.cell? ⟨gb230, 0, none⟩ = some (.int .i64 0) := (blk_cell BK230.out 0).trans rfl; have hcz36_1 : w34.cell? ⟨gb230, 1, none⟩ = some (.int .i64 0) := (blk_cell BK230.out 1).trans rfl; have hfz36_0 := blk_frozen BK230.out 0; have hfz36_1 := blk_frozen BK230.out 1; have hcz37_0 : w34.cell? ⟨gb226, 0, none⟩ = some (.int .i64 ((rd_T44 l0 x24_1).f0)) := (blk_cell BK226.out 0).trans rfl; have hcz37_1 : w34.cell? ⟨gb226, 1, none⟩ = some (.int .i64 ((rd_T44 l0 x24_1).f1)) := (blk_cell BK226.out 1).trans rfl; have hfz37_0 := blk_frozen BK226.out 0; have hfz37_1 := blk_frozen BK226.out 1))
                 go_roundg k3
                 case measure => have := HK1.out; have := HK2.out; have := HK3.out; omega
                 case rel => exact ⟨(wrap64 (x13_3 + (wrap64 (Int.tdiv (wrap64 (((rd_T44 l0 x52_3).f1) * a2)) t224)))), (wrap64 (x14_3 + (wrap64 (Int.tdiv (wrap64 ((wrap64 ((wrap64 (((rd_T44 l0 x52_3).f1) * a2)) + t224)) - 1)) t224)))), (wrap64 (x52_3 + 1)), (by first | rfl | (simp; done) | (simp [*]; done)), (by first | rfl | (simp; done) | (simp [*]; done)), (by first | rfl | (simp; done) | (simp [*]; done)), H', ⟨by have := HK1.out; have := HK2.out; have := HK3.out; omega⟩, ⟨by refine pk ?_; refine blk_far ?_ NB226_230.out _; refine pk ?_; refine blk_far ?_ NB226_230.out _; refine pk ?_; exact BK226.out⟩, ⟨by repeat (first | (with_reducible first | exact HB.out | apply below_alloc | apply pw_below_drewN | apply below_drew1 | refine below_set ?_ GE226.out | refine below_set ?_ GE230.out) | exact HB.out)⟩⟩
               ·rw [if_neg c32] at H
                have c32b0 : (((rd_T44 l0 x52_3).f0) == ((rd_T44 l0 x24_1).f0)) = false := beq_eq_false_iff_ne.mpr c32
                have c32b1 : (((rd_T44 l0 x52_3).f0) != ((rd_T44 l0 x24_1).f0)) = true := bne_iff_ne.mpr c32
                have H' := Aside0.mk H
                clear H
                have p229 : 0 ≤ (x52_3 : Int) := of_decide_eq_true (by first | (with_reducible assumption) | assumption)
                have q229 : x52_3 < (l0.length : Int) := of_decide_eq_true (by first | (with_reducible assumption) | assumption)
                obtain ⟨ad229, e229, hx229_0, hx229_1⟩ := at_T44 HR0.out x52_3 p229 q229
                obtain rfl : ad225 = ad229 := (by injection e229)
                replace hx229_0 := (HB.out.cell (World.block_lt_of_cell? w _ hx229_0)).trans hx229_0
                replace hx229_1 := (HB.out.cell (World.block_lt_of_cell? w _ hx229_1)).trans hx229_1
                replace p229 := eq_true p229
                replace q229 := eq_true q229
                go_wp2_with (first | ((with_reducible refine gate_dst (N := 16) rfl ?_); refine box_event ?hg (N := 16) ?hd (cs := #[.int .i64 0, .int .i64 0]) (t := 44) ?hr ?_; (case hd => rfl); (case hg => rfl); (case hr => first | (go_simp; done) | (go_simp; rfl)); intro gb230 hg w38 hbox hb; have BK230 := a_ (hbox); have GW230 := a_ (bsg hg HB.out); have GE230 := a_ (bsg hg HB.out); replace HB := a_ (below_step (by repeat first | exact un HB.out | refine bz ?_ (by assumption) | apply below_alloc | apply pw_below_drewN | apply below_drew1) hb); have NB226_230 := a_ (nel hg BK226.out); have NB230_226 := a_ (nle hg BK226.out); replace BK226 := a_ (blk_below (pk BK226.out) hb); clear hb hbox hg; have hnb39 := NB230_226.out; have hnc39 := NB226_230.out; have hcz40_0 : w38.cell? ⟨gb230, 0, none⟩ = some (.int .i64 0) := (blk_cell BK230.out 0).trans rfl; have hcz40_1 : w38.cell? ⟨gb230, 1, none⟩ = some (.int .i64 0) := (blk_cell BK230.out 1).trans rfl; have hfz40_0 := blk_frozen BK230.out 0; have hfz40_1 := blk_frozen BK230.out 1; have hcz41_0 : w38.cell? ⟨gb226, 0, none⟩ = some (.int .i64 ((rd_T44 l0 x24_1).f0)) := (blk_cell BK226.out 0).trans rfl; have hcz41_1 : w38.cell? ⟨gb226, 1, none⟩ = some (.int .i64 ((rd_T44 l0 x24_1).f1)) := (blk_cell BK226.out 1).trans rfl; have hfz41_0 := blk_frozen BK226.out 0; have hfz41_1 := blk_frozen BK226.out 1))
                go_roundg k3
                case measure => have := HK1.out; have := HK2.out; have := HK3.out; omega
                case rel => exact ⟨(x13_3), (x14_3), (wrap64 (x52_3 + 1)), (by first | rfl | (simp; done) | (simp [*]; done)), (by first | rfl | (simp; done) | (simp [*]; done)), (by first | rfl | (simp; done) | (simp [*]; done)), H', ⟨by have := HK1.out; have := HK2.out; have := HK3.out; omega⟩, ⟨by refine pk ?_; refine blk_far ?_ NB226_230.out _; refine pk ?_; refine blk_far ?_ NB226_230.out _; refine pk ?_; exact BK226.out⟩, ⟨by repeat (first | (with_reducible first | exact HB.out | apply below_alloc | apply pw_below_drewN | apply below_drew1 | refine below_set ?_ GE226.out | refine below_set ?_ GE230.out) | exact HB.out)⟩⟩
              ·rw [if_neg c31] at H
               exact absurd H (by simp)
             ·rw [if_neg c30] at H
              exact absurd H (by simp)
            ·rw [if_neg c29] at H
             have c29b0 : decide (x52_3 < (l0.length : Int)) = false := decide_eq_false c29
             clear c29
             have H' := Aside0.mk H
             clear H
             go_wp2
             go_loopg [17, 83] k3 (fun kq v17 v83 w' => ∃ (x17_4 : Int) (x83_4 : Int), v17 = .int .i64 x17_4 ∧ v83 = .int .i64 x83_4 ∧ Aside0 (spec_Fairly.l3 kq l0 l1 a2 t224 x13_3 x14_3 x17_4 l0 (l0.length : Int) x24_1 l1 (l1.length : Int) x83_4 ((rd_T44 l0 x24_1).f0) ((rd_T44 l0 x24_1).f1) = some r) ∧ Aside0 (kq ≤ k3) ∧ Aside0 (w'.heap[gb226]? = some (.cells #[.int .i64 ((rd_T44 l0 x24_1).f0), .int .i64 ((rd_T44 l0 x24_1).f1)] 44 (0, 0))) ∧ Aside0 (Below w.heap.size w w'))
             case atStart => exact ⟨(0), (0), (by first | rfl | (simp; done) | (simp [*]; done)), (by first | rfl | (simp; done) | (simp [*]; done)), H', ⟨Nat.le_refl _⟩, ⟨by refine pk ?_; exact BK226.out⟩, ⟨by repeat (first | (with_reducible first | exact HB.out | apply below_alloc | apply pw_below_drewN | apply below_drew1 | refine below_set ?_ GE226.out) | exact HB.out)⟩⟩
             case round =>
              clear H'
              try clear c1
              try clear c2
              try clear p2
              try clear q2
              try clear hx2
              try clear c3
              try clear c6
              try clear c6b0
              try clear p6
              try clear c7
              try clear c7b0
              try clear c8
              try clear c8b0
              try clear c11
              try clear c11b0
              try clear c12
              try clear c12b0
              try clear c13
              try clear c13b0
              try clear c14
              try clear c14b0
              try clear c14b1
              try clear c15
              try clear c17
              try clear c21
              try clear p22
              try clear q22
              try clear hx22
              try clear c25
              try clear c28
              try clear c29
              try clear c29b0
              try clear c30
              try clear c30b0
              try clear c31
              try clear c31b0
              try clear c32
              try clear c32b0
              try clear c32b1
              try clear c33
              try clear c33b0
              try clear c33b1
              try clear c35
              try clear c39
              try clear hcz10_0
              try clear hcz10_1
              try clear hcz18_0
              try clear hcz18_1
              try clear hcz19_0
              try clear hcz19_1
              try clear hcz22_0
              try clear hcz22_1
              try clear hcz23_0
              try clear hcz23_1
              try clear hcz26_0
              try clear hcz26_1
              try clear hcz27_0
              try clear hcz27_1
              try clear hcz36_0
              try clear hcz36_1
              try clear hcz37_0
              try clear hcz37_1
              try clear hcz40_0
              try clear hcz40_1
              try clear hcz41_0
              try clear hcz41_1
              try clear hfz10_0
              try clear hfz10_1
              try clear hfz18_0
              try clear hfz18_1
              try clear hfz19_0
              try clear hfz19_1
              try clear hfz22_0
              try clear hfz22_1
              try clear hfz23_0
              try clear hfz23_1
              try clear hfz26_0
              try clear hfz26_1
              try clear hfz27_0
              try clear hfz27_1
              try clear hfz36_0
              try clear hfz36_1
              try clear hfz37_0
              try clear hfz37_1
              try clear hfz40_0
              try clear hfz40_1
              try clear hfz41_0
              try clear hfz41_1
              try clear hx225_0
              try clear hx225_1
              try clear hx227_0
              try clear hx227_1
              try clear hx229_0
              try clear hx229_1
              try clear p2
              try clear p22
              try clear p225
              try clear p227
              try clear p229
              try clear p6
              try clear q2
              try clear q22
              try clear q225
              try clear q227
              try clear q229
              obtain ⟨x17_4, x83_4, rfl, rfl, HA, HK4, BK226, HB⟩ := hrel
              cases gk with
              | zero => exact absurd HA.out (by simp [spec_Fairly.l3])
              | succ k4 =>
               have H := HA.out
               clear HA
               simp only [spec_Fairly.l3] at H
               by_cases c42 : x83_4 < (l1.length : Int)
               ·rw [if_pos c42] at H
                have c42b0 : decide (x83_4 < (l1.length : Int)) = true := decide_eq_true c42
                clear c42
                by_cases c43 : 0 ≤ x83_4
                ·rw [if_pos c43] at H
                 have c43b0 : decide (0 ≤ x83_4) = true := decide_eq_true c43
                 clear c43
                 by_cases c44 : x83_4 < (l1.length : Int)
                 ·rw [if_pos c44] at H
                  have c44b0 : decide (x83_4 < (l1.length : Int)) = true := decide_eq_true c44
                  clear c44
                  by_cases c45 : ((rd_T44 l1 x83_4).f0) = ((rd_T44 l0 x24_1).f0)
                  ·rw [if_pos c45] at H
                   have c45b0 : (((rd_T44 l1 x83_4).f0) == ((rd_T44 l0 x24_1).f0)) = true := beq_iff_eq.mpr c45
                   have c45b1 : (((rd_T44 l1 x83_4).f0) != ((rd_T44 l0 x24_1).f0)) = false := bne_eq_false_iff_eq.mpr c45
                   clear c45
                   by_cases c46 : ((rd_T44 l1 x83_4).f1) = 1
                   ·rw [if_pos c46] at H
                    have c46b0 : (((rd_T44 l1 x83_4).f1) == 1) = true := beq_iff_eq.mpr c46
                    have c46b1 : (((rd_T44 l1 x83_4).f1) != 1) = false := bne_eq_false_iff_eq.mpr c46
                    clear c46
                    have H' := Aside0.mk H
                    clear H
                    have p231 : 0 ≤ (x83_4 : Int) := of_decide_eq_true (by first | (with_reducible assumption) | assumption)
                    have q231 : x83_4 < (l1.length : Int) := of_decide_eq_true (by first | (with_reducible assumption) | assumption)
                    obtain ⟨ad231, e231, hx231_0, hx231_1⟩ := at_T44 HR1.out x83_4 p231 q231
                    cases e231
                    replace hx231_0 := (HB.out.cell (World.block_lt_of_cell? w _ hx231_0)).trans hx231_0
                    replace hx231_1 := (HB.out.cell (World.block_lt_of_cell? w _ hx231_1)).trans hx231_1
                    replace p231 := eq_true p231
                    replace q231 := eq_true q231
                    go_wp2_with (first | ((with_reducible refine gate_dst (N := 19) rfl ?_); refine box_event ?hg (N := 19) ?hd (cs := #[.int .i64 0, .int .i64 0]) (t := 44) ?hr ?_; (case hd => rfl); (case hg => rfl); (case hr => first | (go_simp; done) | (go_simp; rfl)); intro gb232 hg w47 hbox hb; have BK232 := a_ (hbox); have GW232 := a_ (bsg hg HB.out); have GE232 := a_ (bsg hg HB.out); replace HB := a_ (below_step (by repeat first | exact un HB.out | refine bz ?_ (by assumption) | apply below_alloc | apply pw_below_drewN | apply below_drew1) hb); have NB226_232 := a_ (nel hg BK226.out); have NB232_226 := a_ (nle hg BK226.out); replace BK226 := a_ (blk_below (pk BK226.out) hb); clear hb hbox hg; have hnb48 := NB232_226.out; have hnc48 := NB226_232.out; have hcz49_0 : w47.cell? ⟨gb232, 0, none⟩ = some (.int .i64 0) := (blk_cell BK232.out 0).trans rfl; have hcz49_1 : w47.cell? ⟨gb232, 1, none⟩ = some (.int .i64 0) := (blk_cell BK232.out 1).trans rfl; have hfz49_0 := blk_frozen BK232.out 0; have hfz49_1 := blk_frozen BK232.out 1; have hcz50_0 : w47.cell? ⟨gb226, 0, none⟩ = some (.int .i64 ((rd_T44 l0 x24_1).f0)) := (blk_cell BK226.out 0).trans rfl; have hcz50_1 : w47.cell? ⟨gb226, 1, none⟩ = some (.int .i64 ((rd_T44 l0 x24_1).f1)) := (blk_cell BK226.out 1).trans rfl; have hfz50_0 := blk_frozen BK226.out 0; have hfz50_1 := blk_frozen BK226.out 1))
                    go_roundg k4
                    case measure => have := HK1.out; have := HK2.out; have := HK3.out; have := HK4.out; omega
                    case rel => exact ⟨(wrap64 (x17_4 + 1)), (wrap64 (x83_4 + 1)), (by first | rfl | (simp; done) | (simp [*]; done)), (by first | rfl | (simp; done) | (simp [*]; done)), H', ⟨by have := HK1.out; have := HK2.out; have := HK3.out; have := HK4.out; omega⟩, ⟨by refine pk ?_; refine blk_far ?_ NB226_232.out _; refine pk ?_; refine blk_far ?_ NB226_232.out _; refine pk ?_; exact BK226.out⟩, ⟨by repeat (first | (with_reducible first | exact HB.out | apply below_alloc | apply pw_below_drewN | apply below_drew1 | refine below_set ?_ GE226.out | refine below_set ?_ GE232.out) | exact HB.out)⟩⟩
                   ·rw [if_neg c46] at H
                    have c46b0 : (((rd_T44 l1 x83_4).f1) == 1) = false := beq_eq_false_iff_ne.mpr c46
                    have c46b1 : (((rd_T44 l1 x83_4).f1) != 1) = true := bne_iff_ne.mpr c46
                    have H' := Aside0.mk H
                    clear H
                    have p231 : 0 ≤ (x83_4 : Int) := of_decide_eq_true (by first | (with_reducible assumption) | assumption)
                    have q231 : x83_4 < (l1.length : Int) := of_decide_eq_true (by first | (with_reducible assumption) | assumption)
                    obtain ⟨ad231, e231, hx231_0, hx231_1⟩ := at_T44 HR1.out x83_4 p231 q231
                    cases e231
                    replace hx231_0 := (HB.out.cell (World.block_lt_of_cell? w _ hx231_0)).trans hx231_0
                    replace hx231_1 := (HB.out.cell (World.block_lt_of_cell? w _ hx231_1)).trans hx231_1
                    replace p231 := eq_true p231
                    replace q231 := eq_true q231
                    go_wp2_with (first | ((with_reducible refine gate_dst (N := 19) rfl ?_); refine box_event ?hg (N := 19) ?hd (cs := #[.int .i64 0, .int .i64 0]) (t := 44) ?hr ?_; (case hd => rfl); (case hg => rfl); (case hr => first | (go_simp; done) | (go_simp; rfl)); intro gb232 hg w51 hbox hb; have BK232 := a_ (hbox); have GW232 := a_ (bsg hg HB.out); have GE232 := a_ (bsg hg HB.out); replace HB := a_ (below_step (by repeat first | exact un HB.out | refine bz ?_ (by assumption) | apply below_alloc | apply pw_below_drewN | apply below_drew1) hb); have NB226_232 := a_ (nel hg BK226.out); have NB232_226 := a_ (nle hg BK226.out); replace BK226 := a_ (blk_below (pk BK226.out) hb); clear hb hbox hg; have hnb52 := NB232_226.out; have hnc52 := NB226_232.out; have hcz53_0 : w51.cell? ⟨gb232, 0, none⟩ = some (.int .i64 0) := (blk_cell BK232.out 0).trans rfl; have hcz53_1 : w51.cell? ⟨gb232, 1, none⟩ = some (.int .i64 0) := (blk_cell BK232.out 1).trans rfl; have hfz53_0 := blk_frozen BK232.out 0; have hfz53_1 := blk_frozen BK232.out 1; have hcz54_0 : w51.cell? ⟨gb226, 0, none⟩ = some (.int .i64 ((rd_T44 l0 x24_1).f0)) := (blk_cell BK226.out 0).trans rfl; have hcz54_1 : w51.cell? ⟨gb226, 1, none⟩ = some (.int .i64 ((rd_T44 l0 x24_1).f1)) := (blk_cell BK226.out 1).trans rfl; have hfz54_0 := blk_frozen BK226.out 0; have hfz54_1 := blk_frozen BK226.out 1))
                    go_roundg k4
                    case measure => have := HK1.out; have := HK2.out; have := HK3.out; have := HK4.out; omega
                    case rel => exact ⟨(x17_4), (wrap64 (x83_4 + 1)), (by first | rfl | (simp; done) | (simp [*]; done)), (by first | rfl | (simp; done) | (simp [*]; done)), H', ⟨by have := HK1.out; have := HK2.out; have := HK3.out; have := HK4.out; omega⟩, ⟨by refine pk ?_; refine blk_far ?_ NB226_232.out _; refine pk ?_; refine blk_far ?_ NB226_232.out _; refine pk ?_; exact BK226.out⟩, ⟨by repeat (first | (with_reducible first | exact HB.out | apply below_alloc | apply pw_below_drewN | apply below_drew1 | refine below_set ?_ GE226.out | refine below_set ?_ GE232.out) | exact HB.out)⟩⟩
                  ·rw [if_neg c45] at H
                   have c45b0 : (((rd_T44 l1 x83_4).f0) == ((rd_T44 l0 x24_1).f0)) = false := beq_eq_false_iff_ne.mpr c45
                   have c45b1 : (((rd_T44 l1 x83_4).f0) != ((rd_T44 l0 x24_1).f0)) = true := bne_iff_ne.mpr c45
                   have H' := Aside0.mk H
                   clear H
                   have p231 : 0 ≤ (x83_4 : Int) := of_decide_eq_true (by first | (with_reducible assumption) | assumption)
                   have q231 : x83_4 < (l1.length : Int) := of_decide_eq_true (by first | (with_reducible assumption) | assumption)
                   obtain ⟨ad231, e231, hx231_0, hx231_1⟩ := at_T44 HR1.out x83_4 p231 q231
                   cases e231
                   replace hx231_0 := (HB.out.cell (World.block_lt_of_cell? w _ hx231_0)).trans hx231_0
                   replace hx231_1 := (HB.out.cell (World.block_lt_of_cell? w _ hx231_1)).trans hx231_1
                   replace p231 := eq_true p231
                   replace q231 := eq_true q231
                   go_wp2_with (first | ((with_reducible refine gate_dst (N := 19) rfl ?_); refine box_event ?hg (N := 19) ?hd (cs := #[.int .i64 0, .int .i64 0]) (t := 44) ?hr ?_; (case hd => rfl); (case hg => rfl); (case hr => first | (go_simp; done) | (go_simp; rfl)); intro gb232 hg w55 hbox hb; have BK232 := a_ (hbox); have GW232 := a_ (bsg hg HB.out); have GE232 := a_ (bsg hg HB.out); replace HB := a_ (below_step (by repeat first | exact un HB.out | refine bz ?_ (by assumption) | apply below_alloc | apply pw_below_drewN | apply below_drew1) hb); have NB226_232 := a_ (nel hg BK226.out); have NB232_226 := a_ (nle hg BK226.out); replace BK226 := a_ (blk_below (pk BK226.out) hb); clear hb hbox hg; have hnb56 := NB232_226.out; have hnc56 := NB226_232.out; have hcz57_0 : w55.cell? ⟨gb232, 0, none⟩ = some (.int .i64 0) := (blk_cell BK232.out 0).trans rfl; have hcz57_1 : w55.cell? ⟨gb232, 1, none⟩ = some (.int .i64 0) := (blk_cell BK232.out 1).trans rfl; have hfz57_0 := blk_frozen BK232.out 0; have hfz57_1 := blk_frozen BK232.out 1; have hcz58_0 : w55.cell? ⟨gb226, 0, none⟩ = some (.int .i64 ((rd_T44 l0 x24_1).f0)) := (blk_cell BK226.out 0).trans rfl; have hcz58_1 : w55.cell? ⟨gb226, 1, none⟩ = some (.int .i64 ((rd_T44 l0 x24_1).f1)) := (blk_cell BK226.out 1).trans rfl; have hfz58_0 := blk_frozen BK226.out 0; have hfz58_1 := blk_frozen BK226.out 1))
                   go_roundg k4
                   case measure => have := HK1.out; have := HK2.out; have := HK3.out; have := HK4.out; omega
                   case rel => exact ⟨(x17_4), (wrap64 (x83_4 + 1)), (by first | rfl | (simp; done) | (simp [*]; done)), (by first | rfl | (simp; done) | (simp [*]; done)), H', ⟨by have := HK1.out; have := HK2.out; have := HK3.out; have := HK4.out; omega⟩, ⟨by refine pk ?_; refine blk_far ?_ NB226_232.out _; refine pk ?_; refine blk_far ?_ NB226_232.out _; refine pk ?_; exact BK226.out⟩, ⟨by repeat (first | (with_reducible first | exact HB.out | apply below_alloc | apply pw_below_drewN | apply below_drew1 | refine below_set ?_ GE226.out | refine below_set ?_ GE232.out) | exact HB.out)⟩⟩
                 ·rw [if_neg c44] at H
                  exact absurd H (by simp)
                ·rw [if_neg c43] at H
                 exact absurd H (by simp)
               ·rw [if_neg c42] at H
                have c42b0 : decide (x83_4 < (l1.length : Int)) = false := decide_eq_false c42
                clear c42
                by_cases c59 : x17_4 < x13_3
                ·rw [if_pos c59] at H
                 have c59b0 : decide (x17_4 < x13_3) = true := decide_eq_true c59
                 clear c59
                 obtain rfl := Option.some.inj H
                 go_wp2
                 go_ret
                 exact ⟨by first | rfl | (simp [errW_none, errW_some] <;> rfl) | (simp [*, errW_none, errW_some] <;> rfl), by repeat (first | (with_reducible first | exact HB.out | apply below_alloc | apply pw_below_drewN | apply below_drew1 | refine below_set ?_ GE226.out) | exact HB.out)⟩
                ·rw [if_neg c59] at H
                 have c59b0 : decide (x17_4 < x13_3) = false := decide_eq_false c59
                 clear c59
                 by_cases c60 : x17_4 > x14_3
                 ·rw [if_pos c60] at H
                  have c60b0 : decide (x14_3 < x17_4) = true := decide_eq_true c60
                  clear c60
                  obtain rfl := Option.some.inj H
                  go_wp2
                  go_ret
                  exact ⟨by first | rfl | (simp [errW_none, errW_some] <;> rfl) | (simp [*, errW_none, errW_some] <;> rfl), by repeat (first | (with_reducible first | exact HB.out | apply below_alloc | apply pw_below_drewN | apply below_drew1 | refine below_set ?_ GE226.out) | exact HB.out)⟩
                 ·rw [if_neg c60] at H
                  have c60b0 : decide (x14_3 < x17_4) = false := decide_eq_false c60
                  clear c60
                  have H' := Aside0.mk H
                  clear H
                  go_wp2
                  go_roundg k4
                  case measure => have := HK1.out; have := HK2.out; have := HK3.out; have := HK4.out; omega
                  case rel => exact ⟨(wrap64 (x24_1 + 1)), (by first | rfl | (simp; done) | (simp [*]; done)), H', ⟨by have := HK1.out; have := HK2.out; have := HK3.out; have := HK4.out; omega⟩, ⟨by repeat (first | (with_reducible first | exact HB.out | apply below_alloc | apply pw_below_drewN | apply below_drew1 | refine below_set ?_ GE226.out) | exact HB.out)⟩⟩
         ·replace c28 := Bool.eq_false_iff.mpr c28
          subst c28
          have H1 : (spec_Fairly.l0 k2 l0 l1 a2 t224 l0 (l0.length : Int) (wrap64 (x24_1 + 1))) = some r := by rw [if_neg (show ¬ (false = true) by decide)] at H; exact H
          clear H
          have H := H1
          clear H1
          have H' := Aside0.mk H
          clear H
          go_wp2
          go_roundg k2
          case measure => have := HK1.out; have := HK2.out; omega
          case rel => exact ⟨(wrap64 (x24_1 + 1)), (by first | rfl | (simp; done) | (simp [*]; done)), H', ⟨by have := HK1.out; have := HK2.out; omega⟩, ⟨by repeat (first | (with_reducible first | exact HB.out | apply below_alloc | apply pw_below_drewN | apply below_drew1 | refine below_set ?_ GE226.out) | exact HB.out)⟩⟩
     ·rw [if_neg c8] at H
      exact absurd H (by simp)
    ·rw [if_neg c7] at H
     exact absurd H (by simp)
   ·rw [if_neg c6] at H
    have c6b0 : decide (x24_1 < (l0.length : Int)) = false := decide_eq_false c6
    clear c6
    obtain rfl := Option.some.inj H
    go_wp2
    go_ret
    exact ⟨by first | rfl | (simp [errW_none, errW_some] <;> rfl) | (simp [*, errW_none, errW_some] <;> rfl), un HB.out⟩

/-! ### laws_FnPick: function 3 -/
def laws_FnPick.f (k : Nat) (l0 : List Int) : Option (Bool) := if (l0.length : Int) > 1048576 then (some true) else ((spec_DrawPickCloud.f k l0).bind fun bt233 => ((impl_PickCloud.f k bt233.1 bt233.2.1 bt233.2.2).bind fun bt238 => ((spec_PickCloud.f k bt233.1 bt233.2.1 bt233.2.2).bind fun bt242 => (if (bt238.2 != bt242.2) = true then (none) else (if (bt238.1.length : Int) = (bt242.1.length : Int) then (if bt238.2 = true then (if (bt238.1.length : Int) = bt233.2.1 then ((spec_Fairly.f k bt233.1 bt238.1 bt233.2.1).bind fun t246 => (some t246)) else (none)) else (some true)) else (none))))))
theorem laws_FnPick.mono : ∀ a0 k, LeO (laws_FnPick.f k a0) (laws_FnPick.f (k + 1) a0) := by
 intro a0 k
 unfold laws_FnPick.f
 repeat' first
   | (with_reducible exact impl_PickCloud.mono _ _ _ _)
   | (with_reducible exact spec_DrawPickCloud.mono _ _)
   | (with_reducible exact spec_Fairly.mono _ _ _ _)
   | (with_reducible exact spec_PickCloud.mono _ _ _ _)
   | (with_reducible exact LeO.refl _)
   | (with_reducible exact LeO.none _)
   | (with_reducible refine LeO.ite ?_ ?_)
   | (with_reducible refine LeO.bind ?_ (fun _ => ?_))
   | exact impl_PickCloud.mono _ _ _ _
   | exact spec_DrawPickCloud.mono _ _
   | exact spec_Fairly.mono _ _ _ _
   | exact spec_PickCloud.mono _ _ _ _
   | exact LeO.none _
   | refine LeO.ite ?_ ?_
   | refine LeO.bind ?_ (fun _ => ?_)
set_option maxHeartbeats 8000000 in
set_option maxRecDepth 100000 in
theorem laws_FnPick.calls (k : Nat) (A0 : Option Addr) (c0 : Nat) (l0 : List Int) (r : Bool) (w : World) (hr0 : Kd.C (Kd.int .u8) w A0 l0.length l0) (hc0 : l0.length ≤ c0) (h : laws_FnPick.f k l0 = some r) :
  Calls Try.prog 3 #[.slice A0 l0.length c0] w fun e w' => e = .returned (.bool r) ∧ Below w.heap.size w w' := by
 have HR0 := Aside0.mk hr0
 have HC0 := Aside0.mk hc0
 clear hr0 hc0
 have HB := a_ (Below.refl w.heap.size w)
 have H : (if (l0.length : Int) > 1048576 then (some true) else ((spec_DrawPickCloud.f k l0).bind fun bt233 => ((impl_PickCloud.f k bt233.1 bt233.2.1 bt233.2.2).bind fun bt238 => ((spec_PickCloud.f k bt233.1 bt233.2.1 bt233.2.2).bind fun bt242 => (if (bt238.2 != bt242.2) = true then (none) else (if (bt238.1.length : Int) = (bt242.1.length : Int) then (if bt238.2 = true then (if (bt238.1.length : Int) = bt233.2.1 then ((spec_Fairly.f k bt233.1 bt238.1 bt233.2.1).bind fun t246 => (some t246)) else (none)) else (some true)) else (none))))))) = some r := h
 clear h
 by_cases c2 : (l0.length : Int) > 1048576
 ·rw [if_pos c2] at H
  have c2b0 : decide (1048576 < (l0.length : Int)) = true := decide_eq_true c2
  have c2b1 : decide (1048576 < l0.length) = true := decide_eq_true (by omega)
  clear c2
  obtain rfl := Option.some.inj H
  go_enter Try.func3, Try.ntmps3
  go_wp2
  go_ret
  exact ⟨by first | rfl | (simp [errW_none, errW_some] <;> rfl) | (simp [*, errW_none, errW_some] <;> rfl), un HB.out⟩
 ·rw [if_neg c2] at H
  have c2b0 : decide (1048576 < (l0.length : Int)) = false := decide_eq_false c2
  have c2b1 : decide (1048576 < l0.length) = false := decide_eq_false (by omega)
  clear c2
  replace H := Option.bind_eq_some_iff.mp H
  obtain ⟨⟨t233, t234, t235⟩, A30, H⟩ := H
  replace H : ((impl_PickCloud.f k t233 t234 t235).bind fun bt238 => ((spec_PickCloud.f k t233 t234 t235).bind fun bt242 => (if (bt238.2 != bt242.2) = true then (none) else (if (bt238.1.length : Int) = (bt242.1.length : Int) then (if bt238.2 = true then (if (bt238.1.length : Int) = t234 then ((spec_Fairly.f k t233 bt238.1 t234).bind fun t246 => (some t246)) else (none)) else (some true)) else (none))))) = some r := H
  have A3 := Aside0.mk A30
  clear A30
  replace H := Option.bind_eq_some_iff.mp H
  obtain ⟨⟨t238, t239⟩, A40, H⟩ := H
  replace H : ((spec_PickCloud.f k t233 t234 t235).bind fun bt242 => (if (t239 != bt242.2) = true then (none) else (if (t238.length : Int) = (bt242.1.length : Int) then (if t239 = true then (if (t238.length : Int) = t234 then ((spec_Fairly.f k t233 t238 t234).bind fun t246 => (some t246)) else (none)) else (some true)) else (none)))) = some r := H
  have A4 := Aside0.mk A40
  clear A40
  replace H := Option.bind_eq_some_iff.mp H
  obtain ⟨⟨t242, t243⟩, A50, H⟩ := H
  replace H : (if (t239 != t243) = true then (none) else (if (t238.length : Int) = (t242.length : Int) then (if t239 = true then (if (t238.length : Int) = t234 then ((spec_Fairly.f k t233 t238 t234).bind fun t246 => (some t246)) else (none)) else (some true)) else (none))) = some r := H
  have A5 := Aside0.mk A50
  clear A50
  by_cases c6 : (t239 != t243) = true
  ·rw [if_pos c6] at H
   exact absurd H (by simp)
  ·rw [if_neg c6] at H
   have c6b0 : (t239 != t243) = false := by simpa using c6
   (try (have c6b1 : decide (t239 = t243) = true := by simpa using c6))
   (try (have c6b2 : (t239 == t243) = true := by simpa using c6))
   clear c6
   by_cases c7 : (t238.length : Int) = (t242.length : Int)
   ·rw [if_pos c7] at H
    have c7b0 : ((t238.length : Int) == (t242.length : Int)) = true := beq_iff_eq.mpr c7
    have c7b1 : ((t238.length : Int) != (t242.length : Int)) = false := bne_eq_false_iff_eq.mpr c7
    have c7b2 : (t238.length == t242.length) = true := by first | simpa using c7 | (simp at c7 ⊢; omega)
    clear c7
    by_cases c8 : t239 = true
    ·subst c8
     have H1 : (if (t238.length : Int) = t234 then ((spec_Fairly.f k t233 t238 t234).bind fun t246 => (some t246)) else (none)) = some r := by rw [if_pos rfl] at H; exact H
     clear H
     have H := H1
     clear H1
     by_cases c9 : (t238.length : Int) = t234
     ·rw [if_pos c9] at H
      have c9b0 : ((t238.length : Int) == t234) = true := beq_iff_eq.mpr c9
      have c9b1 : ((t238.length : Int) != t234) = false := bne_eq_false_iff_eq.mpr c9
      clear c9
      replace H := Option.bind_eq_some_iff.mp H
      obtain ⟨t246, A100, H⟩ := H
      replace H : (some t246) = some r := H
      have A10 := Aside0.mk A100
      clear A100
      obtain rfl := Option.some.inj H
      go_enter Try.func3, Try.ntmps3
      go_wp2_with (first | ((with_reducible refine gate_callee (f := 4) rfl ?_); refine goesL_ (some 15) rfl rfl Try.func4 (by kernel_rfl) rfl #[.slice A0 l0.length c0] rfl (by (try simp only [lA, lB, lC]); first | done | rfl | (simp only [lD, lE]; rfl)) ?_; (with_reducible refine (spec_DrawPickCloud.calls k _ _ l0 t233 t234 t235 _ ?side1 ?side2 A3.out).mono ?_); (case side1 => repeat (first | exact HR0.out | (with_reducible refine Kd.C_alloc ?_ _) | (with_reducible refine Kd.C_drewN ?_ _) | (with_reducible refine Kd.C_drew ?_))); (case side2 => exact HC0.out); rintro e w11 ⟨v236, rfl, ho0, hb⟩; refine ⟨_, rfl, ?_⟩; have HO237 := a_ (Kd.R_lower ho0 (bs HB.out)); replace HB := a_ (below_step (un HB.out) hb); clear hb ho0; obtain ⟨Ao12, co12, eo12⟩ := Kd.R_slice HO237.out; subst eo12) | ((with_reducible refine gate_callee (f := 5) rfl ?_); refine goesL_ (some 23) rfl rfl Try.func5 (by kernel_rfl) rfl #[.slice Ao12 t233.length co12, .int .i64 t234, .int .i64 t235] rfl (by (try simp only [lA, lB, lC]); first | done | rfl | (simp only [lD, lE]; rfl)) ?_; (with_reducible refine (impl_PickCloud.calls k _ _ t233 t234 t235 t238 true _ ?side1 ?side2 A4.out).mono ?_); (case side1 => repeat (first | exact (Kd.R_reads' HO237.out).2.2 | (with_reducible refine Kd.C_alloc ?_ _) | (with_reducible refine Kd.C_drewN ?_ _) | (with_reducible refine Kd.C_drew ?_))); (case side2 => exact (Kd.R_reads' HO237.out).2.1); rintro e w13 ⟨v240, rfl, ho0, hb⟩; refine ⟨_, rfl, ?_⟩; have HO241 := a_ (Kd.R_lower (nw ho0 HO237.out) (bs HB.out)); replace HO237 := a_ (Kd.R_elder' (rk HO237.out) (Kd.R_base ho0) hb); replace HB := a_ (below_step (un HB.out) hb); clear hb ho0) | ((with_reducible refine gate_callee (f := 6) rfl ?_); refine goesL_ (some 30) rfl rfl Try.func6 (by kernel_rfl) rfl #[.slice Ao12 t233.length co12, .int .i64 t234, .int .i64 t235] rfl (by (try simp only [lA, lB, lC]); first | done | rfl | (simp only [lD, lE]; rfl)) ?_; (with_reducible refine (spec_PickCloud.calls k _ _ t233 t234 t235 t242 t243 _ ?side1 ?side2 A5.out).mono ?_); (case side1 => repeat (first | exact (Kd.R_reads' HO237.out).2.2 | (with_reducible refine Kd.C_alloc ?_ _) | (with_reducible refine Kd.C_drewN ?_ _) | (with_reducible refine Kd.C_drew ?_))); (case side2 => exact (Kd.R_reads' HO237.out).2.1); rintro e w14 ⟨v244, rfl, ho0, hb⟩; refine ⟨_, rfl, ?_⟩; have HO245 := a_ (Kd.R_lower (nw (nw ho0 HO237.out) HO241.out) (bs HB.out)); replace HO237 := a_ (Kd.R_elder' (rk HO237.out) (Kd.R_base ho0) hb); replace HO241 := a_ (Kd.R_elder' (rk HO241.out) (Kd.R_base ho0) hb); replace HB := a_ (below_step (un HB.out) hb); clear hb ho0; obtain ⟨Ao15, co15, eo15⟩ := Kd.R_slice HO241.out; subst eo15; obtain ⟨Ao16, co16, eo16⟩ := Kd.R_slice HO245.out; subst eo16) | (go_at_call 7; (with_reducible refine (spec_Fairly.calls k _ _ t233 _ _ t238 t234 t246 _ ?side1 ?side2 ?side3 ?side4 A10.out).mono ?_); (case side1 => repeat (first | exact (Kd.R_reads' HO237.out).2.2 | (with_reducible refine Kd.C_alloc ?_ _) | (with_reducible refine Kd.C_drewN ?_ _) | (with_reducible refine Kd.C_drew ?_))); (case side2 => exact (Kd.R_reads' HO237.out).2.1); (case side3 => repeat (first | exact (Kd.R_reads' HO241.out).2.2 | (with_reducible refine Kd.C_alloc ?_ _) | (with_reducible refine Kd.C_drewN ?_ _) | (with_reducible refine Kd.C_drew ?_))); (case side4 => exact (Kd.R_reads' HO241.out).2.1); rintro e w17 ⟨rfl, hb⟩; replace HO237 := a_ (Kd.R_below (rk HO237.out) hb); replace HO241 := a_ (Kd.R_below (rk HO241.out) hb); replace HO245 := a_ (Kd.R_below (rk HO245.out) hb); replace HB := a_ (below_step (un HB.out) hb); clear hb))
      go_ret
      exact ⟨by first | rfl | (simp [errW_none, errW_some] <;> rfl) | (simp [*, errW_none, errW_some] <;> rfl), un HB.out⟩
     ·rw [if_neg c9] at H
      exact absurd H (by simp)
    ·replace c8 := Bool.eq_false_iff.mpr c8
     subst c8
     have H1 : (some true) = some r := by rw [if_neg (show ¬ (false = true) by decide)] at H; exact H
     clear H
     have H := H1
     clear H1
     obtain rfl := Option.some.inj H
     go_enter Try.func3, Try.ntmps3
     go_wp2_with (first | ((with_reducible refine gate_callee (f := 4) rfl ?_); refine goesL_ (some 15) rfl rfl Try.func4 (by kernel_rfl) rfl #[.slice A0 l0.length c0] rfl (by (try simp only [lA, lB, lC]); first | done | rfl | (simp only [lD, lE]; rfl)) ?_; (with_reducible refine (spec_DrawPickCloud.calls k _ _ l0 t233 t234 t235 _ ?side1 ?side2 A3.out).mono ?_); (case side1 => repeat (first | exact HR0.out | (with_reducible refine Kd.C_alloc ?_ _) | (with_reducible refine Kd.C_drewN ?_ _) | (with_reducible refine Kd.C_drew ?_))); (case side2 => exact HC0.out); rintro e w18 ⟨v236, rfl, ho0, hb⟩; refine ⟨_, rfl, ?_⟩; have HO237 := a_ (Kd.R_lower ho0 (bs HB.out)); replace HB := a_ (below_step (un HB.out) hb); clear hb ho0; obtain ⟨Ao19, co19, eo19⟩ := Kd.R_slice HO237.out; subst eo19) | ((with_reducible refine gate_callee (f := 5) rfl ?_); refine goesL_ (some 23) rfl rfl Try.func5 (by kernel_rfl) rfl #[.slice Ao19 t233.length co19, .int .i64 t234, .int .i64 t235] rfl (by (try simp only [lA, lB, lC]); first | done | rfl | (simp only [lD, lE]; rfl)) ?_; (with_reducible refine (impl_PickCloud.calls k _ _ t233 t234 t235 t238 false _ ?side1 ?side2 A4.out).mono ?_); (case side1 => repeat (first | exact (Kd.R_reads' HO237.out).2.2 | (with_reducible refine Kd.C_alloc ?_ _) | (with_reducible refine Kd.C_drewN ?_ _) | (with_reducible refine Kd.C_drew ?_))); (case side2 => exact (Kd.R_reads' HO237.out).2.1); rintro e w20 ⟨v240, rfl, ho0, hb⟩; refine ⟨_, rfl, ?_⟩; have HO241 := a_ (Kd.R_lower (nw ho0 HO237.out) (bs HB.out)); replace HO237 := a_ (Kd.R_elder' (rk HO237.out) (Kd.R_base ho0) hb); replace HB := a_ (below_step (un HB.out) hb); clear hb ho0) | ((with_reducible refine gate_callee (f := 6) rfl ?_); refine goesL_ (some 30) rfl rfl Try.func6 (by kernel_rfl) rfl #[.slice Ao19 t233.length co19, .int .i64 t234, .int .i64 t235] rfl (by (try simp only [lA, lB, lC]); first | done | rfl | (simp only [lD, lE]; rfl)) ?_; (with_reducible refine (spec_PickCloud.calls k _ _ t233 t234 t235 t242 t243 _ ?side1 ?side2 A5.out).mono ?_); (case side1 => repeat (first | exact (Kd.R_reads' HO237.out).2.2 | (with_reducible refine Kd.C_alloc ?_ _) | (with_reducible refine Kd.C_drewN ?_ _) | (with_reducible refine Kd.C_drew ?_))); (case side2 => exact (Kd.R_reads' HO237.out).2.1); rintro e w21 ⟨v244, rfl, ho0, hb⟩; refine ⟨_, rfl, ?_⟩; have HO245 := a_ (Kd.R_lower (nw (nw ho0 HO237.out) HO241.out) (bs HB.out)); replace HO237 := a_ (Kd.R_elder' (rk HO237.out) (Kd.R_base ho0) hb); replace HO241 := a_ (Kd.R_elder' (rk HO241.out) (Kd.R_base ho0) hb); replace HB := a_ (below_step (un HB.out) hb); clear hb ho0; obtain ⟨Ao22, co22, eo22⟩ := Kd.R_slice HO241.out; subst eo22; obtain ⟨Ao23, co23, eo23⟩ := Kd.R_slice HO245.out; subst eo23))
     go_ret
     exact ⟨by first | rfl | (simp [errW_none, errW_some] <;> rfl) | (simp [*, errW_none, errW_some] <;> rfl), un HB.out⟩
   ·rw [if_neg c7] at H
    exact absurd H (by simp)

/-- THE ONE PURE STATEMENT of laws_FnPick: yours. -/
def laws_FnPick.Pure : Prop := ∀ (l0 : List Int), l0.length ≤ maxLen → l0.length * 1 ≤ 140737488351232 → (∀ x ∈ l0, (Lit.int .u8 x).wf = true) → ∃ k, laws_FnPick.f k l0 = some true
theorem laws_FnPick.walk (P : laws_FnPick.Pure) (a0 : Option Addr) (len0 cap0 : Nat) (z0 : List Int) (w : World) (w0 : (a0 = none ∧ len0 = 0 ∧ cap0 = 0 ∧ z0 = []) ∨ ∃ x, a0 = some x ∧ len0 ≤ cap0 ∧ cap0 ≤ maxLen ∧ z0.length = cap0 ∧ (∀ i, i < z0.length → w.cell? (x.add i) = some (.int .u8 (z0.getD i 0))) ∧ ∀ n ∈ z0, (Lit.int .u8 n).wf = true) (y0 : len0 * 1 ≤ 140737488351232) :
  Calls Try.prog 3 #[.slice a0 len0 cap0] w fun e w' => e = .returned (.bool true) ∧ Below w.heap.size w w' := by
 obtain ⟨l0, rfl, hr0, hm0, hw0, hc0⟩ := ReadsInt.ofRowC w0
 obtain ⟨k, h⟩ := P l0 hm0 y0 hw0
 refine (laws_FnPick.calls k _ _ l0 true w (Kd.C_of_reads (d := (0 : Int)) (h1 := fun _ => rfl) hr0) hc0 h).mono ?_
 rintro e w' ⟨rfl, hd⟩
 exact ⟨rfl, hd⟩

end Go.Proofs.Ytceekdkklcdhaaa.PFnPick
