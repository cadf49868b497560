-- Written by a program of this session out of the loaded functions' print; helper lemmas as print.sh lays them.
import Derived.Test.YtineniimpdjpnaaUp
import Derived.Test.YtineniimpdjpnaaRFnExactRunHoldx0
namespace Go.Proofs.Ytineniimpdjpnaa.PFnExactRunHold
open Go.RowKit Go.Proofs.YtineniimpdjpnaaW.PrintWords Go.Proofs.YtineniimpdjpnaaW.PrintLast Go.Proofs.YtineniimpdjpnaaW.PrintMore
attribute [local go_sem] max2_int min2_int max_two min_two max_three min_three max_four min_four  -- for this text's walks alone
set_option linter.unusedVariables false
set_option linter.unusedSimpArgs false

/-! ### spec_GoodLoop: function 30 -/
def spec_GoodLoop.f (a0_0 : Int) (a0_1 : Int) (a0_2 : Int) (a0_3 : Int) (a0_4 : Int) (a0_5 : Int) (a0_6 : Int) : Option (Bool) := if a0_0 ≥ 0 then (if a0_0 ≤ 1000 then (if a0_1 ≥ 0 then (if a0_1 ≤ 1000 then (if a0_2 ≥ 0 then (if a0_2 ≤ 1000 then (if a0_3 ≥ 1 then (if a0_3 ≤ 1000 then (if a0_4 ≥ 1 then (if a0_4 ≤ 1000000 then (if a0_5 ≥ 0 then (if a0_5 ≤ 1000000 then (if a0_6 ≥ 0 then (some (decide (a0_6 ≤ 1000000))) else (some false)) else (some false)) else (some false)) else (some false)) else (some false)) else (some false)) else (some false)) else (some false)) else (some false)) else (some false)) else (some false)) else (some false)) else (some false)
set_option maxHeartbeats 8000000 in
set_option maxRecDepth 100000 in
theorem spec_GoodLoop.calls (a0_0 : Int) (a0_1 : Int) (a0_2 : Int) (a0_3 : Int) (a0_4 : Int) (a0_5 : Int) (a0_6 : Int) (r : Bool) (w : World) (h : spec_GoodLoop.f a0_0 a0_1 a0_2 a0_3 a0_4 a0_5 a0_6 = some r) :
  Calls Try.prog 30 #[.agg #[.int .i64 a0_0, .int .i64 a0_1, .int .i64 a0_2, .int .i64 a0_3, .int .i64 a0_4, .int .i64 a0_5, .int .i64 a0_6]] w fun e w' => e = .returned (.bool r) ∧ Below w.heap.size w w' := by
 have hu30 := Try.underlying30
 have HB := a_ (Below.refl w.heap.size w)
 have H : (if a0_0 ≥ 0 then (if a0_0 ≤ 1000 then (if a0_1 ≥ 0 then (if a0_1 ≤ 1000 then (if a0_2 ≥ 0 then (if a0_2 ≤ 1000 then (if a0_3 ≥ 1 then (if a0_3 ≤ 1000 then (if a0_4 ≥ 1 then (if a0_4 ≤ 1000000 then (if a0_5 ≥ 0 then (if a0_5 ≤ 1000000 then (if a0_6 ≥ 0 then (some (decide (a0_6 ≤ 1000000))) else (some false)) else (some false)) else (some false)) else (some false)) else (some false)) else (some false)) else (some false)) else (some false)) else (some false)) else (some false)) else (some false)) else (some false)) else (some false)) = some r := h
 clear h
 by_cases c2 : a0_0 ≥ 0
 ·rw [if_pos c2] at H
  have c2b0 : decide (0 ≤ a0_0) = true := decide_eq_true c2
  clear c2
  by_cases c3 : a0_0 ≤ 1000
  ·rw [if_pos c3] at H
   have c3b0 : decide (a0_0 ≤ 1000) = true := decide_eq_true c3
   clear c3
   by_cases c4 : a0_1 ≥ 0
   ·rw [if_pos c4] at H
    have c4b0 : decide (0 ≤ a0_1) = true := decide_eq_true c4
    clear c4
    by_cases c5 : a0_1 ≤ 1000
    ·rw [if_pos c5] at H
     have c5b0 : decide (a0_1 ≤ 1000) = true := decide_eq_true c5
     clear c5
     by_cases c6 : a0_2 ≥ 0
     ·rw [if_pos c6] at H
      have c6b0 : decide (0 ≤ a0_2) = true := decide_eq_true c6
      clear c6
      by_cases c7 : a0_2 ≤ 1000
      ·rw [if_pos c7] at H
       have c7b0 : decide (a0_2 ≤ 1000) = true := decide_eq_true c7
       clear c7
       by_cases c8 : a0_3 ≥ 1
       ·rw [if_pos c8] at H
        have c8b0 : decide (1 ≤ a0_3) = true := decide_eq_true c8
        clear c8
        by_cases c9 : a0_3 ≤ 1000
        ·rw [if_pos c9] at H
         have c9b0 : decide (a0_3 ≤ 1000) = true := decide_eq_true c9
         clear c9
         by_cases c10 : a0_4 ≥ 1
         ·rw [if_pos c10] at H
          have c10b0 : decide (1 ≤ a0_4) = true := decide_eq_true c10
          clear c10
          by_cases c11 : a0_4 ≤ 1000000
          ·rw [if_pos c11] at H
           have c11b0 : decide (a0_4 ≤ 1000000) = true := decide_eq_true c11
           clear c11
           by_cases c12 : a0_5 ≥ 0
           ·rw [if_pos c12] at H
            have c12b0 : decide (0 ≤ a0_5) = true := decide_eq_true c12
            clear c12
            by_cases c13 : a0_5 ≤ 1000000
            ·rw [if_pos c13] at H
             have c13b0 : decide (a0_5 ≤ 1000000) = true := decide_eq_true c13
             clear c13
             by_cases c14 : a0_6 ≥ 0
             ·rw [if_pos c14] at H
              have c14b0 : decide (0 ≤ a0_6) = true := decide_eq_true c14
              clear c14
              obtain rfl := Option.some.inj H
              go_enter Try.func30, Try.ntmps30
              go_wp2_with (first | ((with_reducible refine gate_dst (N := 1) rfl ?_); refine box_event ?hg (N := 1) ?hd (cs := #[.int .i64 a0_0, .int .i64 a0_1, .int .i64 a0_2, .int .i64 a0_3, .int .i64 a0_4, .int .i64 a0_5, .int .i64 a0_6]) (t := 30) ?hr ?_; (case hd => rfl); (case hg => rfl); (case hr => first | (go_simp; done) | (go_simp; rfl)); intro gb101 hg w15 hbox hb; have BK101 := a_ (hbox); have GW101 := a_ (bsg hg HB.out); have GE101 := a_ (bsg hg HB.out); replace HB := a_ (below_step (un HB.out) hb); clear hb hbox hg; have hcz16_0 : _ = some (Value.int .i64 a0_0) := (blk_cell BK101.out 0).trans rfl; have hcz16_1 : _ = some (Value.int .i64 a0_1) := (blk_cell BK101.out 1).trans rfl; have hcz16_2 : _ = some (Value.int .i64 a0_2) := (blk_cell BK101.out 2).trans rfl; have hcz16_3 : _ = some (Value.int .i64 a0_3) := (blk_cell BK101.out 3).trans rfl; have hcz16_4 : _ = some (Value.int .i64 a0_4) := (blk_cell BK101.out 4).trans rfl; have hcz16_5 : _ = some (Value.int .i64 a0_5) := (blk_cell BK101.out 5).trans rfl; have hcz16_6 : _ = some (Value.int .i64 a0_6) := (blk_cell BK101.out 6).trans rfl; have hfz16_0 := blk_frozen BK101.out 0; have hfz16_1 := blk_frozen BK101.out 1; have hfz16_2 := blk_frozen BK101.out 2; have hfz16_3 := blk_frozen BK101.out 3; have hfz16_4 := blk_frozen BK101.out 4; have hfz16_5 := blk_frozen BK101.out 5; have hfz16_6 := blk_frozen BK101.out 6))
              go_ret
              exact ⟨by first | rfl | (simp [errW_none, errW_some] <;> rfl) | (simp [*, errW_none, errW_some] <;> rfl), by repeat (with_reducible first | exact HB.out | refine bz ?_ (by assumption) | apply bA | apply bN | apply bD)⟩
             ·rw [if_neg c14] at H
              have c14b0 : decide (0 ≤ a0_6) = false := decide_eq_false c14
              clear c14
              obtain rfl := Option.some.inj H
              go_enter Try.func30, Try.ntmps30
              go_wp2_with (first | ((with_reducible refine gate_dst (N := 1) rfl ?_); refine box_event ?hg (N := 1) ?hd (cs := #[.int .i64 a0_0, .int .i64 a0_1, .int .i64 a0_2, .int .i64 a0_3, .int .i64 a0_4, .int .i64 a0_5, .int .i64 a0_6]) (t := 30) ?hr ?_; (case hd => rfl); (case hg => rfl); (case hr => first | (go_simp; done) | (go_simp; rfl)); intro gb101 hg w17 hbox hb; have BK101 := a_ (hbox); have GW101 := a_ (bsg hg HB.out); have GE101 := a_ (bsg hg HB.out); replace HB := a_ (below_step (un HB.out) hb); clear hb hbox hg; have hcz18_0 : _ = some (Value.int .i64 a0_0) := (blk_cell BK101.out 0).trans rfl; have hcz18_1 : _ = some (Value.int .i64 a0_1) := (blk_cell BK101.out 1).trans rfl; have hcz18_2 : _ = some (Value.int .i64 a0_2) := (blk_cell BK101.out 2).trans rfl; have hcz18_3 : _ = some (Value.int .i64 a0_3) := (blk_cell BK101.out 3).trans rfl; have hcz18_4 : _ = some (Value.int .i64 a0_4) := (blk_cell BK101.out 4).trans rfl; have hcz18_5 : _ = some (Value.int .i64 a0_5) := (blk_cell BK101.out 5).trans rfl; have hcz18_6 : _ = some (Value.int .i64 a0_6) := (blk_cell BK101.out 6).trans rfl; have hfz18_0 := blk_frozen BK101.out 0; have hfz18_1 := blk_frozen BK101.out 1; have hfz18_2 := blk_frozen BK101.out 2; have hfz18_3 := blk_frozen BK101.out 3; have hfz18_4 := blk_frozen BK101.out 4; have hfz18_5 := blk_frozen BK101.out 5; have hfz18_6 := blk_frozen BK101.out 6))
              go_ret
              exact ⟨by first | rfl | (simp [errW_none, errW_some] <;> rfl) | (simp [*, errW_none, errW_some] <;> rfl), by repeat (with_reducible first | exact HB.out | refine bz ?_ (by assumption) | apply bA | apply bN | apply bD)⟩
            ·rw [if_neg c13] at H
             have c13b0 : decide (a0_5 ≤ 1000000) = false := decide_eq_false c13
             clear c13
             obtain rfl := Option.some.inj H
             go_enter Try.func30, Try.ntmps30
             go_wp2_with (first | ((with_reducible refine gate_dst (N := 1) rfl ?_); refine box_event ?hg (N := 1) ?hd (cs := #[.int .i64 a0_0, .int .i64 a0_1, .int .i64 a0_2, .int .i64 a0_3, .int .i64 a0_4, .int .i64 a0_5, .int .i64 a0_6]) (t := 30) ?hr ?_; (case hd => rfl); (case hg => rfl); (case hr => first | (go_simp; done) | (go_simp; rfl)); intro gb101 hg w19 hbox hb; have BK101 := a_ (hbox); have GW101 := a_ (bsg hg HB.out); have GE101 := a_ (bsg hg HB.out); replace HB := a_ (below_step (un HB.out) hb); clear hb hbox hg; have hcz20_0 : _ = some (Value.int .i64 a0_0) := (blk_cell BK101.out 0).trans rfl; have hcz20_1 : _ = some (Value.int .i64 a0_1) := (blk_cell BK101.out 1).trans rfl; have hcz20_2 : _ = some (Value.int .i64 a0_2) := (blk_cell BK101.out 2).trans rfl; have hcz20_3 : _ = some (Value.int .i64 a0_3) := (blk_cell BK101.out 3).trans rfl; have hcz20_4 : _ = some (Value.int .i64 a0_4) := (blk_cell BK101.out 4).trans rfl; have hcz20_5 : _ = some (Value.int .i64 a0_5) := (blk_cell BK101.out 5).trans rfl; have hcz20_6 : _ = some (Value.int .i64 a0_6) := (blk_cell BK101.out 6).trans rfl; have hfz20_0 := blk_frozen BK101.out 0; have hfz20_1 := blk_frozen BK101.out 1; have hfz20_2 := blk_frozen BK101.out 2; have hfz20_3 := blk_frozen BK101.out 3; have hfz20_4 := blk_frozen BK101.out 4; have hfz20_5 := blk_frozen BK101.out 5; have hfz20_6 := blk_frozen BK101.out 6))
             go_ret
             exact ⟨by first | rfl | (simp [errW_none, errW_some] <;> rfl) | (simp [*, errW_none, errW_some] <;> rfl), by repeat (with_reducible first | exact HB.out | refine bz ?_ (by assumption) | apply bA | apply bN | apply bD)⟩
           ·rw [if_neg c12] at H
            have c12b0 : decide (0 ≤ a0_5) = false := decide_eq_false c12
            clear c12
            obtain rfl := Option.some.inj H
            go_enter Try.func30, Try.ntmps30
            go_wp2_with (first | ((with_reducible refine gate_dst (N := 1) rfl ?_); refine box_event ?hg (N := 1) ?hd (cs := #[.int .i64 a0_0, .int .i64 a0_1, .int .i64 a0_2, .int .i64 a0_3, .int .i64 a0_4, .int .i64 a0_5, .int .i64 a0_6]) (t := 30) ?hr ?_; (case hd => rfl); (case hg => rfl); (case hr => first | (go_simp; done) | (go_simp; rfl)); intro gb101 hg w21 hbox hb; have BK101 := a_ (hbox); have GW101 := a_ (bsg hg HB.out); have GE101 := a_ (bsg hg HB.out); replace HB := a_ (below_step (un HB.out) hb); clear hb hbox hg; have hcz22_0 : _ = some (Value.int .i64 a0_0) := (blk_cell BK101.out 0).trans rfl; have hcz22_1 : _ = some (Value.int .i64 a0_1) := (blk_cell BK101.out 1).trans rfl; have hcz22_2 : _ = some (Value.int .i64 a0_2) := (blk_cell BK101.out 2).trans rfl; have hcz22_3 : _ = some (Value.int .i64 a0_3) := (blk_cell BK101.out 3).trans rfl; have hcz22_4 : _ = some (Value.int .i64 a0_4) := (blk_cell BK101.out 4).trans rfl; have hcz22_5 : _ = some (Value.int .i64 a0_5) := (blk_cell BK101.out 5).trans rfl; have hcz22_6 : _ = some (Value.int .i64 a0_6) := (blk_cell BK101.out 6).trans rfl; have hfz22_0 := blk_frozen BK101.out 0; have hfz22_1 := blk_frozen BK101.out 1; have hfz22_2 := blk_frozen BK101.out 2; have hfz22_3 := blk_frozen BK101.out 3; have hfz22_4 := blk_frozen BK101.out 4; have hfz22_5 := blk_frozen BK101.out 5; have hfz22_6 := blk_frozen BK101.out 6))
            go_ret
            exact ⟨by first | rfl | (simp [errW_none, errW_some] <;> rfl) | (simp [*, errW_none, errW_some] <;> rfl), by repeat (with_reducible first | exact HB.out | refine bz ?_ (by assumption) | apply bA | apply bN | apply bD)⟩
          ·rw [if_neg c11] at H
           have c11b0 : decide (a0_4 ≤ 1000000) = false := decide_eq_false c11
           clear c11
           obtain rfl := Option.some.inj H
           go_enter Try.func30, Try.ntmps30
           go_wp2_with (first | ((with_reducible refine gate_dst (N := 1) rfl ?_); refine box_event ?hg (N := 1) ?hd (cs := #[.int .i64 a0_0, .int .i64 a0_1, .int .i64 a0_2, .int .i64 a0_3, .int .i64 a0_4, .int .i64 a0_5, .int .i64 a0_6]) (t := 30) ?hr ?_; (case hd => rfl); (case hg => rfl); (case hr => first | (go_simp; done) | (go_simp; rfl)); intro gb101 hg w23 hbox hb; have BK101 := a_ (hbox); have GW101 := a_ (bsg hg HB.out); have GE101 := a_ (bsg hg HB.out); replace HB := a_ (below_step (un HB.out) hb); clear hb hbox hg; have hcz24_0 : _ = some (Value.int .i64 a0_0) := (blk_cell BK101.out 0).trans rfl; have hcz24_1 : _ = some (Value.int .i64 a0_1) := (blk_cell BK101.out 1).trans rfl; have hcz24_2 : _ = some (Value.int .i64 a0_2) := (blk_cell BK101.out 2).trans rfl; have hcz24_3 : _ = some (Value.int .i64 a0_3) := (blk_cell BK101.out 3).trans rfl; have hcz24_4 : _ = some (Value.int .i64 a0_4) := (blk_cell BK101.out 4).trans rfl; have hcz24_5 : _ = some (Value.int .i64 a0_5) := (blk_cell BK101.out 5).trans rfl; have hcz24_6 : _ = some (Value.int .i64 a0_6) := (blk_cell BK101.out 6).trans rfl; have hfz24_0 := blk_frozen BK101.out 0; have hfz24_1 := blk_frozen BK101.out 1; have hfz24_2 := blk_frozen BK101.out 2; have hfz24_3 := blk_frozen BK101.out 3; have hfz24_4 := blk_frozen BK101.out 4; have hfz24_5 := blk_frozen BK101.out 5; have hfz24_6 := blk_frozen BK101.out 6))
           go_ret
           exact ⟨by first | rfl | (simp [errW_none, errW_some] <;> rfl) | (simp [*, errW_none, errW_some] <;> rfl), by repeat (with_reducible first | exact HB.out | refine bz ?_ (by assumption) | apply bA | apply bN | apply bD)⟩
         ·rw [if_neg c10] at H
          have c10b0 : decide (1 ≤ a0_4) = false := decide_eq_false c10
          clear c10
          obtain rfl := Option.some.inj H
          go_enter Try.func30, Try.ntmps30
          go_wp2_with (first | ((with_reducible refine gate_dst (N := 1) rfl ?_); refine box_event ?hg (N := 1) ?hd (cs := #[.int .i64 a0_0, .int .i64 a0_1, .int .i64 a0_2, .int .i64 a0_3, .int .i64 a0_4, .int .i64 a0_5, .int .i64 a0_6]) (t := 30) ?hr ?_; (case hd => rfl); (case hg => rfl); (case hr => first | (go_simp; done) | (go_simp; rfl)); intro gb101 hg w25 hbox hb; have BK101 := a_ (hbox); have GW101 := a_ (bsg hg HB.out); have GE101 := a_ (bsg hg HB.out); replace HB := a_ (below_step (un HB.out) hb); clear hb hbox hg; have hcz26_0 : _ = some (Value.int .i64 a0_0) := (blk_cell BK101.out 0).trans rfl; have hcz26_1 : _ = some (Value.int .i64 a0_1) := (blk_cell BK101.out 1).trans rfl; have hcz26_2 : _ = some (Value.int .i64 a0_2) := (blk_cell BK101.out 2).trans rfl; have hcz26_3 : _ = some (Value.int .i64 a0_3) := (blk_cell BK101.out 3).trans rfl; have hcz26_4 : _ = some (Value.int .i64 a0_4) := (blk_cell BK101.out 4).trans rfl; have hcz26_5 : _ = some (Value.int .i64 a0_5) := (blk_cell BK101.out 5).trans rfl; have hcz26_6 : _ = some (Value.int .i64 a0_6) := (blk_cell BK101.out 6).trans rfl; have hfz26_0 := blk_frozen BK101.out 0; have hfz26_1 := blk_frozen BK101.out 1; have hfz26_2 := blk_frozen BK101.out 2; have hfz26_3 := blk_frozen BK101.out 3; have hfz26_4 := blk_frozen BK101.out 4; have hfz26_5 := blk_frozen BK101.out 5; have hfz26_6 := blk_frozen BK101.out 6))
          go_ret
          exact ⟨by first | rfl | (simp [errW_none, errW_some] <;> rfl) | (simp [*, errW_none, errW_some] <;> rfl), by repeat (with_reducible first | exact HB.out | refine bz ?_ (by assumption) | apply bA | apply bN | apply bD)⟩
        ·rw [if_neg c9] at H
         have c9b0 : decide (a0_3 ≤ 1000) = false := decide_eq_false c9
         clear c9
         obtain rfl := Option.some.inj H
         go_enter Try.func30, Try.ntmps30
         go_wp2_with (first | ((with_reducible refine gate_dst (N := 1) rfl ?_); refine box_event ?hg (N := 1) ?hd (cs := #[.int .i64 a0_0, .int .i64 a0_1, .int .i64 a0_2, .int .i64 a0_3, .int .i64 a0_4, .int .i64 a0_5, .int .i64 a0_6]) (t := 30) ?hr ?_; (case hd => rfl); (case hg => rfl); (case hr => first | (go_simp; done) | (go_simp; rfl)); intro gb101 hg w27 hbox hb; have BK101 := a_ (hbox); have GW101 := a_ (bsg hg HB.out); have GE101 := a_ (bsg hg HB.out); replace HB := a_ (below_step (un HB.out) hb); clear hb hbox hg; have hcz28_0 : _ = some (Value.int .i64 a0_0) := (blk_cell BK101.out 0).trans rfl; have hcz28_1 : _ = some (Value.int .i64 a0_1) := (blk_cell BK101.out 1).trans rfl; have hcz28_2 : _ = some (Value.int .i64 a0_2) := (blk_cell BK101.out 2).trans rfl; have hcz28_3 : _ = some (Value.int .i64 a0_3) := (blk_cell BK101.out 3).trans rfl; have hcz28_4 : _ = some (Value.int .i64 a0_4) := (blk_cell BK101.out 4).trans rfl; have hcz28_5 : _ = some (Value.int .i64 a0_5) := (blk_cell BK101.out 5).trans rfl; have hcz28_6 : _ = some (Value.int .i64 a0_6) := (blk_cell BK101.out 6).trans rfl; have hfz28_0 := blk_frozen BK101.out 0; have hfz28_1 := blk_frozen BK101.out 1; have hfz28_2 := blk_frozen BK101.out 2; have hfz28_3 := blk_frozen BK101.out 3; have hfz28_4 := blk_frozen BK101.out 4; have hfz28_5 := blk_frozen BK101.out 5; have hfz28_6 := blk_frozen BK101.out 6))
         go_ret
         exact ⟨by first | rfl | (simp [errW_none, errW_some] <;> rfl) | (simp [*, errW_none, errW_some] <;> rfl), by repeat (with_reducible first | exact HB.out | refine bz ?_ (by assumption) | apply bA | apply bN | apply bD)⟩
       ·rw [if_neg c8] at H
        have c8b0 : decide (1 ≤ a0_3) = false := decide_eq_false c8
        clear c8
        obtain rfl := Option.some.inj H
        go_enter Try.func30, Try.ntmps30
        go_wp2_with (first | ((with_reducible refine gate_dst (N := 1) rfl ?_); refine box_event ?hg (N := 1) ?hd (cs := #[.int .i64 a0_0, .int .i64 a0_1, .int .i64 a0_2, .int .i64 a0_3, .int .i64 a0_4, .int .i64 a0_5, .int .i64 a0_6]) (t := 30) ?hr ?_; (case hd => rfl); (case hg => rfl); (case hr => first | (go_simp; done) | (go_simp; rfl)); intro gb101 hg w29 hbox hb; have BK101 := a_ (hbox); have GW101 := a_ (bsg hg HB.out); have GE101 := a_ (bsg hg HB.out); replace HB := a_ (below_step (un HB.out) hb); clear hb hbox hg; have hcz30_0 : _ = some (Value.int .i64 a0_0) := (blk_cell BK101.out 0).trans rfl; have hcz30_1 : _ = some (Value.int .i64 a0_1) := (blk_cell BK101.out 1).trans rfl; have hcz30_2 : _ = some (Value.int .i64 a0_2) := (blk_cell BK101.out 2).trans rfl; have hcz30_3 : _ = some (Value.int .i64 a0_3) := (blk_cell BK101.out 3).trans rfl; have hcz30_4 : _ = some (Value.int .i64 a0_4) := (blk_cell BK101.out 4).trans rfl; have hcz30_5 : _ = some (Value.int .i64 a0_5) := (blk_cell BK101.out 5).trans rfl; have hcz30_6 : _ = some (Value.int .i64 a0_6) := (blk_cell BK101.out 6).trans rfl; have hfz30_0 := blk_frozen BK101.out 0; have hfz30_1 := blk_frozen BK101.out 1; have hfz30_2 := blk_frozen BK101.out 2; have hfz30_3 := blk_frozen BK101.out 3; have hfz30_4 := blk_frozen BK101.out 4; have hfz30_5 := blk_frozen BK101.out 5; have hfz30_6 := blk_frozen BK101.out 6))
        go_ret
        exact ⟨by first | rfl | (simp [errW_none, errW_some] <;> rfl) | (simp [*, errW_none, errW_some] <;> rfl), by repeat (with_reducible first | exact HB.out | refine bz ?_ (by assumption) | apply bA | apply bN | apply bD)⟩
      ·rw [if_neg c7] at H
       have c7b0 : decide (a0_2 ≤ 1000) = false := decide_eq_false c7
       clear c7
       obtain rfl := Option.some.inj H
       go_enter Try.func30, Try.ntmps30
       go_wp2_with (first | ((with_reducible refine gate_dst (N := 1) rfl ?_); refine box_event ?hg (N := 1) ?hd (cs := #[.int .i64 a0_0, .int .i64 a0_1, .int .i64 a0_2, .int .i64 a0_3, .int .i64 a0_4, .int .i64 a0_5, .int .i64 a0_6]) (t := 30) ?hr ?_; (case hd => rfl); (case hg => rfl); (case hr => first | (go_simp; done) | (go_simp; rfl)); intro gb101 hg w31 hbox hb; have BK101 := a_ (hbox); have GW101 := a_ (bsg hg HB.out); have GE101 := a_ (bsg hg HB.out); replace HB := a_ (below_step (un HB.out) hb); clear hb hbox hg; have hcz32_0 : _ = some (Value.int .i64 a0_0) := (blk_cell BK101.out 0).trans rfl; have hcz32_1 : _ = some (Value.int .i64 a0_1) := (blk_cell BK101.out 1).trans rfl; have hcz32_2 : _ = some (Value.int .i64 a0_2) := (blk_cell BK101.out 2).trans rfl; have hcz32_3 : _ = some (Value.int .i64 a0_3) := (blk_cell BK101.out 3).trans rfl; have hcz32_4 : _ = some (Value.int .i64 a0_4) := (blk_cell BK101.out 4).trans rfl; have hcz32_5 : _ = some (Value.int .i64 a0_5) := (blk_cell BK101.out 5).trans rfl; have hcz32_6 : _ = some (Value.int .i64 a0_6) := (blk_cell BK101.out 6).trans rfl; have hfz32_0 := blk_frozen BK101.out 0; have hfz32_1 := blk_frozen BK101.out 1; have hfz32_2 := blk_frozen BK101.out 2; have hfz32_3 := blk_frozen BK101.out 3; have hfz32_4 := blk_frozen BK101.out 4; have hfz32_5 := blk_frozen BK101.out 5; have hfz32_6 := blk_frozen BK101.out 6))
       go_ret
       exact ⟨by first | rfl | (simp [errW_none, errW_some] <;> rfl) | (simp [*, errW_none, errW_some] <;> rfl), by repeat (with_reducible first | exact HB.out | refine bz ?_ (by assumption) | apply bA | apply bN | apply bD)⟩
     ·rw [if_neg c6] at H
      have c6b0 : decide (0 ≤ a0_2) = false := decide_eq_false c6
      clear c6
      obtain rfl := Option.some.inj H
      go_enter Try.func30, Try.ntmps30
      go_wp2_with (first | ((with_reducible refine gate_dst (N := 1) rfl ?_); refine box_event ?hg (N := 1) ?hd (cs := #[.int .i64 a0_0, .int .i64 a0_1, .int .i64 a0_2, .int .i64 a0_3, .int .i64 a0_4, .int .i64 a0_5, .int .i64 a0_6]) (t := 30) ?hr ?_; (case hd => rfl); (case hg => rfl); (case hr => first | (go_simp; done) | (go_simp; rfl)); intro gb101 hg w33 hbox hb; have BK101 := a_ (hbox); have GW101 := a_ (bsg hg HB.out); have GE101 := a_ (bsg hg HB.out); replace HB := a_ (below_step (un HB.out) hb); clear hb hbox hg; have hcz34_0 : _ = some (Value.int .i64 a0_0) := (blk_cell BK101.out 0).trans rfl; have hcz34_1 : _ = some (Value.int .i64 a0_1) := (blk_cell BK101.out 1).trans rfl; have hcz34_2 : _ = some (Value.int .i64 a0_2) := (blk_cell BK101.out 2).trans rfl; have hcz34_3 : _ = some (Value.int .i64 a0_3) := (blk_cell BK101.out 3).trans rfl; have hcz34_4 : _ = some (Value.int .i64 a0_4) := (blk_cell BK101.out 4).trans rfl; have hcz34_5 : _ = some (Value.int .i64 a0_5) := (blk_cell BK101.out 5).trans rfl; have hcz34_6 : _ = some (Value.int .i64 a0_6) := (blk_cell BK101.out 6).trans rfl; have hfz34_0 := blk_frozen BK101.out 0; have hfz34_1 := blk_frozen BK101.out 1; have hfz34_2 := blk_frozen BK101.out 2; have hfz34_3 := blk_frozen BK101.out 3; have hfz34_4 := blk_frozen BK101.out 4; have hfz34_5 := blk_frozen BK101.out 5; have hfz34_6 := blk_frozen BK101.out 6))
      go_ret
      exact ⟨by first | rfl | (simp [errW_none, errW_some] <;> rfl) | (simp [*, errW_none, errW_some] <;> rfl), by repeat (with_reducible first | exact HB.out | refine bz ?_ (by assumption) | apply bA | apply bN | apply bD)⟩
    ·rw [if_neg c5] at H
     have c5b0 : decide (a0_1 ≤ 1000) = false := decide_eq_false c5
     clear c5
     obtain rfl := Option.some.inj H
     go_enter Try.func30, Try.ntmps30
     go_wp2_with (first | ((with_reducible refine gate_dst (N := 1) rfl ?_); refine box_event ?hg (N := 1) ?hd (cs := #[.int .i64 a0_0, .int .i64 a0_1, .int .i64 a0_2, .int .i64 a0_3, .int .i64 a0_4, .int .i64 a0_5, .int .i64 a0_6]) (t := 30) ?hr ?_; (case hd => rfl); (case hg => rfl); (case hr => first | (go_simp; done) | (go_simp; rfl)); intro gb101 hg w35 hbox hb; have BK101 := a_ (hbox); have GW101 := a_ (bsg hg HB.out); have GE101 := a_ (bsg hg HB.out); replace HB := a_ (below_step (un HB.out) hb); clear hb hbox hg; have hcz36_0 : _ = some (Value.int .i64 a0_0) := (blk_cell BK101.out 0).trans rfl; have hcz36_1 : _ = some (Value.int .i64 a0_1) := (blk_cell BK101.out 1).trans rfl; have hcz36_2 : _ = some (Value.int .i64 a0_2) := (blk_cell BK101.out 2).trans rfl; have hcz36_3 : _ = some (Value.int .i64 a0_3) := (blk_cell BK101.out 3).trans rfl; have hcz36_4 : _ = some (Value.int .i64 a0_4) := (blk_cell BK101.out 4).trans rfl; have hcz36_5 : _ = some (Value.int .i64 a0_5) := (blk_cell BK101.out 5).trans rfl; have hcz36_6 : _ = some (Value.int .i64 a0_6) := (blk_cell BK101.out 6).trans rfl; have hfz36_0 := blk_frozen BK101.out 0; have hfz36_1 := blk_frozen BK101.out 1; have hfz36_2 := blk_frozen BK101.out 2; have hfz36_3 := blk_frozen BK101.out 3; have hfz36_4 := blk_frozen BK101.out 4; have hfz36_5 := blk_frozen BK101.out 5; have hfz36_6 := blk_frozen BK101.out 6))
     go_ret
     exact ⟨by first | rfl | (simp [errW_none, errW_some] <;> rfl) | (simp [*, errW_none, errW_some] <;> rfl), by repeat (with_reducible first | exact HB.out | refine bz ?_ (by assumption) | apply bA | apply bN | apply bD)⟩
   ·rw [if_neg c4] at H
    have c4b0 : decide (0 ≤ a0_1) = false := decide_eq_false c4
    clear c4
    obtain rfl := Option.some.inj H
    go_enter Try.func30, Try.ntmps30
    go_wp2_with (first | ((with_reducible refine gate_dst (N := 1) rfl ?_); refine box_event ?hg (N := 1) ?hd (cs := #[.int .i64 a0_0, .int .i64 a0_1, .int .i64 a0_2, .int .i64 a0_3, .int .i64 a0_4, .int .i64 a0_5, .int .i64 a0_6]) (t := 30) ?hr ?_; (case hd => rfl); (case hg => rfl); (case hr => first | (go_simp; done) | (go_simp; rfl)); intro gb101 hg w37 hbox hb; have BK101 := a_ (hbox); have GW101 := a_ (bsg hg HB.out); have GE101 := a_ (bsg hg HB.out); replace HB := a_ (below_step (un HB.out) hb); clear hb hbox hg; have hcz38_0 : _ = some (Value.int .i64 a0_0) := (blk_cell BK101.out 0).trans rfl; have hcz38_1 : _ = some (Value.int .i64 a0_1) := (blk_cell BK101.out 1).trans rfl; have hcz38_2 : _ = some (Value.int .i64 a0_2) := (blk_cell BK101.out 2).trans rfl; have hcz38_3 : _ = some (Value.int .i64 a0_3) := (blk_cell BK101.out 3).trans rfl; have hcz38_4 : _ = some (Value.int .i64 a0_4) := (blk_cell BK101.out 4).trans rfl; have hcz38_5 : _ = some (Value.int .i64 a0_5) := (blk_cell BK101.out 5).trans rfl; have hcz38_6 : _ = some (Value.int .i64 a0_6) := (blk_cell BK101.out 6).trans rfl; have hfz38_0 := blk_frozen BK101.out 0; have hfz38_1 := blk_frozen BK101.out 1; have hfz38_2 := blk_frozen BK101.out 2; have hfz38_3 := blk_frozen BK101.out 3; have hfz38_4 := blk_frozen BK101.out 4; have hfz38_5 := blk_frozen BK101.out 5; have hfz38_6 := blk_frozen BK101.out 6))
    go_ret
    exact ⟨by first | rfl | (simp [errW_none, errW_some] <;> rfl) | (simp [*, errW_none, errW_some] <;> rfl), by repeat (with_reducible first | exact HB.out | refine bz ?_ (by assumption) | apply bA | apply bN | apply bD)⟩
  ·rw [if_neg c3] at H
   have c3b0 : decide (a0_0 ≤ 1000) = false := decide_eq_false c3
   clear c3
   obtain rfl := Option.some.inj H
   go_enter Try.func30, Try.ntmps30
   go_wp2_with (first | ((with_reducible refine gate_dst (N := 1) rfl ?_); refine box_event ?hg (N := 1) ?hd (cs := #[.int .i64 a0_0, .int .i64 a0_1, .int .i64 a0_2, .int .i64 a0_3, .int .i64 a0_4, .int .i64 a0_5, .int .i64 a0_6]) (t := 30) ?hr ?_; (case hd => rfl); (case hg => rfl); (case hr => first | (go_simp; done) | (go_simp; rfl)); intro gb101 hg w39 hbox hb; have BK101 := a_ (hbox); have GW101 := a_ (bsg hg HB.out); have GE101 := a_ (bsg hg HB.out); replace HB := a_ (below_step (un HB.out) hb); clear hb hbox hg; have hcz40_0 : _ = some (Value.int .i64 a0_0) := (blk_cell BK101.out 0).trans rfl; have hcz40_1 : _ = some (Value.int .i64 a0_1) := (blk_cell BK101.out 1).trans rfl; have hcz40_2 : _ = some (Value.int .i64 a0_2) := (blk_cell BK101.out 2).trans rfl; have hcz40_3 : _ = some (Value.int .i64 a0_3) := (blk_cell BK101.out 3).trans rfl; have hcz40_4 : _ = some (Value.int .i64 a0_4) := (blk_cell BK101.out 4).trans rfl; have hcz40_5 : _ = some (Value.int .i64 a0_5) := (blk_cell BK101.out 5).trans rfl; have hcz40_6 : _ = some (Value.int .i64 a0_6) := (blk_cell BK101.out 6).trans rfl; have hfz40_0 := blk_frozen BK101.out 0; have hfz40_1 := blk_frozen BK101.out 1; have hfz40_2 := blk_frozen BK101.out 2; have hfz40_3 := blk_frozen BK101.out 3; have hfz40_4 := blk_frozen BK101.out 4; have hfz40_5 := blk_frozen BK101.out 5; have hfz40_6 := blk_frozen BK101.out 6))
   go_ret
   exact ⟨by first | rfl | (simp [errW_none, errW_some] <;> rfl) | (simp [*, errW_none, errW_some] <;> rfl), by repeat (with_reducible first | exact HB.out | refine bz ?_ (by assumption) | apply bA | apply bN | apply bD)⟩
 ·rw [if_neg c2] at H
  have c2b0 : decide (0 ≤ a0_0) = false := decide_eq_false c2
  clear c2
  obtain rfl := Option.some.inj H
  go_enter Try.func30, Try.ntmps30
  go_wp2_with (first | ((with_reducible refine gate_dst (N := 1) rfl ?_); refine box_event ?hg (N := 1) ?hd (cs := #[.int .i64 a0_0, .int .i64 a0_1, .int .i64 a0_2, .int .i64 a0_3, .int .i64 a0_4, .int .i64 a0_5, .int .i64 a0_6]) (t := 30) ?hr ?_; (case hd => rfl); (case hg => rfl); (case hr => first | (go_simp; done) | (go_simp; rfl)); intro gb101 hg w41 hbox hb; have BK101 := a_ (hbox); have GW101 := a_ (bsg hg HB.out); have GE101 := a_ (bsg hg HB.out); replace HB := a_ (below_step (un HB.out) hb); clear hb hbox hg; have hcz42_0 : _ = some (Value.int .i64 a0_0) := (blk_cell BK101.out 0).trans rfl; have hcz42_1 : _ = some (Value.int .i64 a0_1) := (blk_cell BK101.out 1).trans rfl; have hcz42_2 : _ = some (Value.int .i64 a0_2) := (blk_cell BK101.out 2).trans rfl; have hcz42_3 : _ = some (Value.int .i64 a0_3) := (blk_cell BK101.out 3).trans rfl; have hcz42_4 : _ = some (Value.int .i64 a0_4) := (blk_cell BK101.out 4).trans rfl; have hcz42_5 : _ = some (Value.int .i64 a0_5) := (blk_cell BK101.out 5).trans rfl; have hcz42_6 : _ = some (Value.int .i64 a0_6) := (blk_cell BK101.out 6).trans rfl; have hfz42_0 := blk_frozen BK101.out 0; have hfz42_1 := blk_frozen BK101.out 1; have hfz42_2 := blk_frozen BK101.out 2; have hfz42_3 := blk_frozen BK101.out 3; have hfz42_4 := blk_frozen BK101.out 4; have hfz42_5 := blk_frozen BK101.out 5; have hfz42_6 := blk_frozen BK101.out 6))
  go_ret
  exact ⟨by first | rfl | (simp [errW_none, errW_some] <;> rfl) | (simp [*, errW_none, errW_some] <;> rfl), by repeat (with_reducible first | exact HB.out | refine bz ?_ (by assumption) | apply bA | apply bN | apply bD)⟩

/-! ### spec_l13In: function 37 -/
def spec_l13In.f (a0 : Int) (a1 : Int) : Option (Bool) := if a0 ≥ (wrap64 (-a1)) then (some (decide (a0 ≤ a1))) else (some false)
set_option maxHeartbeats 8000000 in
set_option maxRecDepth 100000 in
theorem spec_l13In.calls (a0 : Int) (a1 : Int) (r : Bool) (w : World) (h : spec_l13In.f a0 a1 = some r) :
  Calls Try.prog 37 #[.int .i64 a0, .int .i64 a1] w fun e w' => e = .returned (.bool r) ∧ Drawn0 w w' := by
 have H : (if a0 ≥ (wrap64 (-a1)) then (some (decide (a0 ≤ a1))) else (some false)) = some r := h
 clear h
 by_cases c3 : a0 ≥ (wrap64 (-a1))
 ·rw [if_pos c3] at H
  have c3b0 : decide ((wrap64 (-a1)) ≤ a0) = true := decide_eq_true c3
  clear c3
  obtain rfl := Option.some.inj H
  go_enter Try.func37, Try.ntmps37
  go_wp2
  go_ret
  exact ⟨by first | rfl | (simp; done) | (simp [*]; done), by repeat (first | exact Drawn0.refl _ | apply Drawn0.step)⟩
 ·rw [if_neg c3] at H
  have c3b0 : decide ((wrap64 (-a1)) ≤ a0) = false := decide_eq_false c3
  clear c3
  obtain rfl := Option.some.inj H
  go_enter Try.func37, Try.ntmps37
  go_wp2
  go_ret
  exact ⟨by first | rfl | (simp; done) | (simp [*]; done), by repeat (first | exact Drawn0.refl _ | apply Drawn0.step)⟩

/-! ### spec_GoodHold: function 22 -/
def spec_GoodHold.f (a0_0 : Int) (a0_1 : Int) (a0_2 : Int) (a0_3 : Int) (a0_4 : Int) (a0_5 : Int) (a0_6 : Int) (a1_0 : Bool) (a1_1 : Int) (a1_2 : Int) (a1_3 : Int) : Option (Bool) := (spec_GoodLoop.f a0_0 a0_1 a0_2 a0_3 a0_4 a0_5 a0_6).bind fun t104 => (if t104 = true then ((spec_l13In.f a1_1 a0_5).bind fun t105 => (if t105 = true then ((spec_l13In.f a1_3 a0_4).bind fun t106 => (if t106 = true then ((spec_l13In.f a1_2 2000000).bind fun t107 => (if t107 = true then (if a1_0 = true then (some true) else (if a1_1 = 0 then (if a1_3 = 0 then (some (a1_2 == 0)) else (some false)) else (some false))) else (some false))) else (some false))) else (some false))) else (some false))
set_option maxHeartbeats 8000000 in
set_option maxRecDepth 100000 in
theorem spec_GoodHold.calls (a0_0 : Int) (a0_1 : Int) (a0_2 : Int) (a0_3 : Int) (a0_4 : Int) (a0_5 : Int) (a0_6 : Int) (a1_0 : Bool) (a1_1 : Int) (a1_2 : Int) (a1_3 : Int) (r : Bool) (w : World) (h : spec_GoodHold.f a0_0 a0_1 a0_2 a0_3 a0_4 a0_5 a0_6 a1_0 a1_1 a1_2 a1_3 = some r) :
  Calls Try.prog 22 #[.agg #[.int .i64 a0_0, .int .i64 a0_1, .int .i64 a0_2, .int .i64 a0_3, .int .i64 a0_4, .int .i64 a0_5, .int .i64 a0_6], .agg #[.bool a1_0, .int .i64 a1_1, .int .i64 a1_2, .int .i64 a1_3]] w fun e w' => e = .returned (.bool r) ∧ Below w.heap.size w w' := by
 have hu30 := Try.underlying30
 have hu27 := Try.underlying27
 have HB := a_ (Below.refl w.heap.size w)
 have H : ((spec_GoodLoop.f a0_0 a0_1 a0_2 a0_3 a0_4 a0_5 a0_6).bind fun t104 => (if t104 = true then ((spec_l13In.f a1_1 a0_5).bind fun t105 => (if t105 = true then ((spec_l13In.f a1_3 a0_4).bind fun t106 => (if t106 = true then ((spec_l13In.f a1_2 2000000).bind fun t107 => (if t107 = true then (if a1_0 = true then (some true) else (if a1_1 = 0 then (if a1_3 = 0 then (some (a1_2 == 0)) else (some false)) else (some false))) else (some false))) else (some false))) else (some false))) else (some false))) = some r := h
 clear h
 replace H := Option.bind_eq_some_iff.mp H
 obtain ⟨t104, A30, H⟩ := H
 have A3 := Aside0.mk A30
 clear A30
 by_cases c4 : t104 = true
 ·subst c4
  have H1 : ((spec_l13In.f a1_1 a0_5).bind fun t105 => (if t105 = true then ((spec_l13In.f a1_3 a0_4).bind fun t106 => (if t106 = true then ((spec_l13In.f a1_2 2000000).bind fun t107 => (if t107 = true then (if a1_0 = true then (some true) else (if a1_1 = 0 then (if a1_3 = 0 then (some (a1_2 == 0)) else (some false)) else (some false))) else (some false))) else (some false))) else (some false))) = some r := by rw [if_pos rfl] at H; exact H
  clear H
  have H := H1
  clear H1
  replace H := Option.bind_eq_some_iff.mp H
  obtain ⟨t105, A50, H⟩ := H
  have A5 := Aside0.mk A50
  clear A50
  by_cases c6 : t105 = true
  ·subst c6
   have H1 : ((spec_l13In.f a1_3 a0_4).bind fun t106 => (if t106 = true then ((spec_l13In.f a1_2 2000000).bind fun t107 => (if t107 = true then (if a1_0 = true then (some true) else (if a1_1 = 0 then (if a1_3 = 0 then (some (a1_2 == 0)) else (some false)) else (some false))) else (some false))) else (some false))) = some r := by rw [if_pos rfl] at H; exact H
   clear H
   have H := H1
   clear H1
   replace H := Option.bind_eq_some_iff.mp H
   obtain ⟨t106, A70, H⟩ := H
   have A7 := Aside0.mk A70
   clear A70
   by_cases c8 : t106 = true
   ·subst c8
    have H1 : ((spec_l13In.f a1_2 2000000).bind fun t107 => (if t107 = true then (if a1_0 = true then (some true) else (if a1_1 = 0 then (if a1_3 = 0 then (some (a1_2 == 0)) else (some false)) else (some false))) else (some false))) = some r := by rw [if_pos rfl] at H; exact H
    clear H
    have H := H1
    clear H1
    replace H := Option.bind_eq_some_iff.mp H
    obtain ⟨t107, A90, H⟩ := H
    have A9 := Aside0.mk A90
    clear A90
    by_cases c10 : t107 = true
    ·subst c10
     have H1 : (if a1_0 = true then (some true) else (if a1_1 = 0 then (if a1_3 = 0 then (some (a1_2 == 0)) else (some false)) else (some false))) = some r := by rw [if_pos rfl] at H; exact H
     clear H
     have H := H1
     clear H1
     by_cases c11 : a1_0 = true
     ·subst c11
      have H1 : (some true) = some r := by rw [if_pos rfl] at H; exact H
      clear H
      have H := H1
      clear H1
      obtain rfl := Option.some.inj H
      go_enter Try.func22, Try.ntmps22
      go_wp2_with (first | ((with_reducible refine gate_dst (N := 2) rfl ?_); refine box_event ?hg (N := 2) ?hd (cs := #[.int .i64 a0_0, .int .i64 a0_1, .int .i64 a0_2, .int .i64 a0_3, .int .i64 a0_4, .int .i64 a0_5, .int .i64 a0_6]) (t := 30) ?hr ?_; (case hd => rfl); (case hg => rfl); (case hr => first | (go_simp; done) | (go_simp; rfl)); intro gb102 hg w12 hbox hb; have BK102 := a_ (hbox); have GW102 := a_ (bsg hg HB.out); have GE102 := a_ (bsg hg HB.out); replace HB := a_ (below_step (un HB.out) hb); clear hb hbox hg) | ((with_reducible refine gate_dst (N := 3) rfl ?_); refine box_event ?hg (N := 3) ?hd (cs := #[.bool true, .int .i64 a1_1, .int .i64 a1_2, .int .i64 a1_3]) (t := 27) ?hr ?_; (case hd => rfl); (case hg => rfl); (case hr => first | (go_simp; done) | (go_simp; rfl)); intro gb103 hg w13 hbox hb; have BK103 := a_ (hbox); have GW103 := a_ (bsg hg HB.out); have GE103 := a_ (bsg hg HB.out); replace HB := a_ (below_step (by repeat (with_reducible first | exact HB.out | refine bz ?_ (by assumption) | apply bA | apply bN | apply bD)) hb); have NB102_103 := a_ (nel hg BK102.out); have NB103_102 := a_ (nle hg BK102.out); replace BK102 := a_ (blk_below (pk BK102.out) hb); clear hb hbox hg; have hnb14 := NB102_103.out; have hnc14 := NB103_102.out; have hcz15_0 : _ = some (Value.int .i64 a0_0) := (blk_cell BK102.out 0).trans rfl; have hcz15_1 : _ = some (Value.int .i64 a0_1) := (blk_cell BK102.out 1).trans rfl; have hcz15_2 : _ = some (Value.int .i64 a0_2) := (blk_cell BK102.out 2).trans rfl; have hcz15_3 : _ = some (Value.int .i64 a0_3) := (blk_cell BK102.out 3).trans rfl; have hcz15_4 : _ = some (Value.int .i64 a0_4) := (blk_cell BK102.out 4).trans rfl; have hcz15_5 : _ = some (Value.int .i64 a0_5) := (blk_cell BK102.out 5).trans rfl; have hcz15_6 : _ = some (Value.int .i64 a0_6) := (blk_cell BK102.out 6).trans rfl; have hfz15_0 := blk_frozen BK102.out 0; have hfz15_1 := blk_frozen BK102.out 1; have hfz15_2 := blk_frozen BK102.out 2; have hfz15_3 := blk_frozen BK102.out 3; have hfz15_4 := blk_frozen BK102.out 4; have hfz15_5 := blk_frozen BK102.out 5; have hfz15_6 := blk_frozen BK102.out 6) | ((with_reducible refine gate_callee (f := 30) rfl ?_); refine goesL_ (some 6) rfl rfl Try.func30 (by kernel_rfl) rfl #[.agg #[.int .i64 a0_0, .int .i64 a0_1, .int .i64 a0_2, .int .i64 a0_3, .int .i64 a0_4, .int .i64 a0_5, .int .i64 a0_6]] rfl (by (try simp only [lA, lB, lC]); first | done | rfl | (simp only [lD, lE]; rfl)) ?_; (with_reducible refine (spec_GoodLoop.calls a0_0 a0_1 a0_2 a0_3 a0_4 a0_5 a0_6 true _ A3.out).mono ?_); rintro e w16 ⟨rfl, hb⟩; refine ⟨_, rfl, ?_⟩; replace BK102 := a_ (blk_below (pk BK102.out) hb); replace BK103 := a_ (blk_below (pk BK103.out) hb); replace HB := a_ (below_step (by repeat (with_reducible first | exact HB.out | refine bz ?_ (by assumption) | apply bA | apply bN | apply bD)) hb); clear hb; have hcz17_0 : _ = some (Value.bool true) := (blk_cell BK103.out 0).trans rfl; have hcz17_1 : _ = some (Value.int .i64 a1_1) := (blk_cell BK103.out 1).trans rfl; have hcz17_2 : _ = some (Value.int .i64 a1_2) := (blk_cell BK103.out 2).trans rfl; have hcz17_3 : _ = some (Value.int .i64 a1_3) := (blk_cell BK103.out 3).trans rfl; have hfz17_0 := blk_frozen BK103.out 0; have hfz17_1 := blk_frozen BK103.out 1; have hfz17_2 := blk_frozen BK103.out 2; have hfz17_3 := blk_frozen BK103.out 3; have hcz18_0 : _ = some (Value.int .i64 a0_0) := (blk_cell BK102.out 0).trans rfl; have hcz18_1 : _ = some (Value.int .i64 a0_1) := (blk_cell BK102.out 1).trans rfl; have hcz18_2 : _ = some (Value.int .i64 a0_2) := (blk_cell BK102.out 2).trans rfl; have hcz18_3 : _ = some (Value.int .i64 a0_3) := (blk_cell BK102.out 3).trans rfl; have hcz18_4 : _ = some (Value.int .i64 a0_4) := (blk_cell BK102.out 4).trans rfl; have hcz18_5 : _ = some (Value.int .i64 a0_5) := (blk_cell BK102.out 5).trans rfl; have hcz18_6 : _ = some (Value.int .i64 a0_6) := (blk_cell BK102.out 6).trans rfl; have hfz18_0 := blk_frozen BK102.out 0; have hfz18_1 := blk_frozen BK102.out 1; have hfz18_2 := blk_frozen BK102.out 2; have hfz18_3 := blk_frozen BK102.out 3; have hfz18_4 := blk_frozen BK102.out 4; have hfz18_5 := blk_frozen BK102.out 5; have hfz18_6 := blk_frozen BK102.out 6) | (go_at_call 37; (with_reducible refine (spec_l13In.calls a1_1 a0_5 true _ A5.out).mono ?_); rintro e w' ⟨rfl, ⟨nd, rfl⟩⟩) | (go_at_call 37; (with_reducible refine (spec_l13In.calls a1_3 a0_4 true _ A7.out).mono ?_); rintro e w' ⟨rfl, ⟨nd, rfl⟩⟩) | (go_at_call 37; (with_reducible refine (spec_l13In.calls a1_2 2000000 true _ A9.out).mono ?_); rintro e w' ⟨rfl, ⟨nd, rfl⟩⟩))
      go_ret
      exact ⟨by first | rfl | (simp [errW_none, errW_some] <;> rfl) | (simp [*, errW_none, errW_some] <;> rfl), by repeat (with_reducible first | exact HB.out | refine bz ?_ (by assumption) | apply bA | apply bN | apply bD)⟩
     ·replace c11 := Bool.eq_false_iff.mpr c11
      subst c11
      have H1 : (if a1_1 = 0 then (if a1_3 = 0 then (some (a1_2 == 0)) else (some false)) else (some false)) = some r := by rw [if_neg (show ¬ (false = true) by decide)] at H; exact H
      clear H
      have H := H1
      clear H1
      by_cases c19 : a1_1 = 0
      ·rw [if_pos c19] at H
       have c19b0 : (a1_1 == 0) = true := beq_iff_eq.mpr c19
       have c19b1 : (a1_1 != 0) = false := bne_eq_false_iff_eq.mpr c19
       clear c19
       by_cases c20 : a1_3 = 0
       ·rw [if_pos c20] at H
        have c20b0 : (a1_3 == 0) = true := beq_iff_eq.mpr c20
        have c20b1 : (a1_3 != 0) = false := bne_eq_false_iff_eq.mpr c20
        clear c20
        obtain rfl := Option.some.inj H
        go_enter Try.func22, Try.ntmps22
        go_wp2_with (first | ((with_reducible refine gate_dst (N := 2) rfl ?_); refine box_event ?hg (N := 2) ?hd (cs := #[.int .i64 a0_0, .int .i64 a0_1, .int .i64 a0_2, .int .i64 a0_3, .int .i64 a0_4, .int .i64 a0_5, .int .i64 a0_6]) (t := 30) ?hr ?_; (case hd => rfl); (case hg => rfl); (case hr => first | (go_simp; done) | (go_simp; rfl)); intro gb102 hg w21 hbox hb; have BK102 := a_ (hbox); have GW102 := a_ (bsg hg HB.out); have GE102 := a_ (bsg hg HB.out); replace HB := a_ (below_step (un HB.out) hb); clear hb hbox hg) | ((with_reducible refine gate_dst (N := 3) rfl ?_); refine box_event ?hg (N := 3) ?hd (cs := #[.bool false, .int .i64 a1_1, .int .i64 a1_2, .int .i64 a1_3]) (t := 27) ?hr ?_; (case hd => rfl); (case hg => rfl); (case hr => first | (go_simp; done) | (go_simp; rfl)); intro gb103 hg w22 hbox hb; have BK103 := a_ (hbox); have GW103 := a_ (bsg hg HB.out); have GE103 := a_ (bsg hg HB.out); replace HB := a_ (below_step (by repeat (with_reducible first | exact HB.out | refine bz ?_ (by assumption) | apply bA | apply bN | apply bD)) hb); have NB102_103 := a_ (nel hg BK102.out); have NB103_102 := a_ (nle hg BK102.out); replace BK102 := a_ (blk_below (pk BK102.out) hb); clear hb hbox hg; have hnb23 := NB102_103.out; have hnc23 := NB103_102.out; have hcz24_0 : _ = some (Value.int .i64 a0_0) := (blk_cell BK102.out 0).trans rfl; have hcz24_1 : _ = some (Value.int .i64 a0_1) := (blk_cell BK102.out 1).trans rfl; have hcz24_2 : _ = some (Value.int .i64 a0_2) := (blk_cell BK102.out 2).trans rfl; have hcz24_3 : _ = some (Value.int .i64 a0_3) := (blk_cell BK102.out 3).trans rfl; have hcz24_4 : _ = some (Value.int .i64 a0_4) := (blk_cell BK102.out 4).trans rfl; have hcz24_5 : _ = some (Value.int .i64 a0_5) := (blk_cell BK102.out 5).trans rfl; have hcz24_6 : _ = some (Value.int .i64 a0_6) := (blk_cell BK102.out 6).trans rfl; have hfz24_0 := blk_frozen BK102.out 0; have hfz24_1 := blk_frozen BK102.out 1; have hfz24_2 := blk_frozen BK102.out 2; have hfz24_3 := blk_frozen BK102.out 3; have hfz24_4 := blk_frozen BK102.out 4; have hfz24_5 := blk_frozen BK102.out 5; have hfz24_6 := blk_frozen BK102.out 6) | ((with_reducible refine gate_callee (f := 30) rfl ?_); refine goesL_ (some 6) rfl rfl Try.func30 (by kernel_rfl) rfl #[.agg #[.int .i64 a0_0, .int .i64 a0_1, .int .i64 a0_2, .int .i64 a0_3, .int .i64 a0_4, .int .i64 a0_5, .int .i64 a0_6]] rfl (by (try simp only [lA, lB, lC]); first | done | rfl | (simp only [lD, lE]; rfl)) ?_; (with_reducible refine (spec_GoodLoop.calls a0_0 a0_1 a0_2 a0_3 a0_4 a0_5 a0_6 true _ A3.out).mono ?_); rintro e w25 ⟨rfl, hb⟩; refine ⟨_, rfl, ?_⟩; replace BK102 := a_ (blk_below (pk BK102.out) hb); replace BK103 := a_ (blk_below (pk BK103.out) hb); replace HB := a_ (below_step (by repeat (with_reducible first | exact HB.out | refine bz ?_ (by assumption) | apply bA | apply bN | apply bD)) hb); clear hb; have hcz26_0 : _ = some (Value.bool false) := (blk_cell BK103.out 0).trans rfl; have hcz26_1 : _ = some (Value.int .i64 a1_1) := (blk_cell BK103.out 1).trans rfl; have hcz26_2 : _ = some (Value.int .i64 a1_2) := (blk_cell BK103.out 2).trans rfl; have hcz26_3 : _ = some (Value.int .i64 a1_3) := (blk_cell BK103.out 3).trans rfl; have hfz26_0 := blk_frozen BK103.out 0; have hfz26_1 := blk_frozen BK103.out 1; have hfz26_2 := blk_frozen BK103.out 2; have hfz26_3 := blk_frozen BK103.out 3; have hcz27_0 : _ = some (Value.int .i64 a0_0) := (blk_cell BK102.out 0).trans rfl; have hcz27_1 : _ = some (Value.int .i64 a0_1) := (blk_cell BK102.out 1).trans rfl; have hcz27_2 : _ = some (Value.int .i64 a0_2) := (blk_cell BK102.out 2).trans rfl; have hcz27_3 : _ = some (Value.int .i64 a0_3) := (blk_cell BK102.out 3).trans rfl; have hcz27_4 : _ = some (Value.int .i64 a0_4) := (blk_cell BK102.out 4).trans rfl; have hcz27_5 : _ = some (Value.int .i64 a0_5) := (blk_cell BK102.out 5).trans rfl; have hcz27_6 : _ = some (Value.int .i64 a0_6) := (blk_cell BK102.out 6).trans rfl; have hfz27_0 := blk_frozen BK102.out 0; have hfz27_1 := blk_frozen BK102.out 1; have hfz27_2 := blk_frozen BK102.out 2; have hfz27_3 := blk_frozen BK102.out 3; have hfz27_4 := blk_frozen BK102.out 4; have hfz27_5 := blk_frozen BK102.out 5; have hfz27_6 := blk_frozen BK102.out 6) | (go_at_call 37; (with_reducible refine (spec_l13In.calls a1_1 a0_5 true _ A5.out).mono ?_); rintro e w' ⟨rfl, ⟨nd, rfl⟩⟩) | (go_at_call 37; (with_reducible refine (spec_l13In.calls a1_3 a0_4 true _ A7.out).mono ?_); rintro e w' ⟨rfl, ⟨nd, rfl⟩⟩) | (go_at_call 37; (with_reducible refine (spec_l13In.calls a1_2 2000000 true _ A9.out).mono ?_); rintro e w' ⟨rfl, ⟨nd, rfl⟩⟩))
        go_ret
        exact ⟨by first | rfl | (simp [errW_none, errW_some] <;> rfl) | (simp [*, errW_none, errW_some] <;> rfl), by repeat (with_reducible first | exact HB.out | refine bz ?_ (by assumption) | apply bA | apply bN | apply bD)⟩
       ·rw [if_neg c20] at H
        have c20b0 : (a1_3 == 0) = false := beq_eq_false_iff_ne.mpr c20
        have c20b1 : (a1_3 != 0) = true := bne_iff_ne.mpr c20
        obtain rfl := Option.some.inj H
        go_enter Try.func22, Try.ntmps22
        go_wp2_with (first | ((with_reducible refine gate_dst (N := 2) rfl ?_); refine box_event ?hg (N := 2) ?hd (cs := #[.int .i64 a0_0, .int .i64 a0_1, .int .i64 a0_2, .int .i64 a0_3, .int .i64 a0_4, .int .i64 a0_5, .int .i64 a0_6]) (t := 30) ?hr ?_; (case hd => rfl); (case hg => rfl); (case hr => first | (go_simp; done) | (go_simp; rfl)); intro gb102 hg w28 hbox hb; have BK102 := a_ (hbox); have GW102 := a_ (bsg hg HB.out); have GE102 := a_ (bsg hg HB.out); replace HB := a_ (below_step (un HB.out) hb); clear hb hbox hg) | ((with_reducible refine gate_dst (N := 3) rfl ?_); refine box_event ?hg (N := 3) ?hd (cs := #[.bool false, .int .i64 a1_1, .int .i64 a1_2, .int .i64 a1_3]) (t := 27) ?hr ?_; (case hd => rfl); (case hg => rfl); (case hr => first | (go_simp; done) | (go_simp; rfl)); intro gb103 hg w29 hbox hb; have BK103 := a_ (hbox); have GW103 := a_ (bsg hg HB.out); have GE103 := a_ (bsg hg HB.out); replace HB := a_ (below_step (by repeat (with_reducible first | exact HB.out | refine bz ?_ (by assumption) | apply bA | apply bN | apply bD)) hb); have NB102_103 := a_ (nel hg BK102.out); have NB103_102 := a_ (nle hg BK102.out); replace BK102 := a_ (blk_below (pk BK102.out) hb); clear hb hbox hg; have hnb30 := NB102_103.out; have hnc30 := NB103_102.out; have hcz31_0 : _ = some (Value.int .i64 a0_0) := (blk_cell BK102.out 0).trans rfl; have hcz31_1 : _ = some (Value.int .i64 a0_1) := (blk_cell BK102.out 1).trans rfl; have hcz31_2 : _ = some (Value.int .i64 a0_2) := (blk_cell BK102.out 2).trans rfl; have hcz31_3 : _ = some (Value.int .i64 a0_3) := (blk_cell BK102.out 3).trans rfl; have hcz31_4 : _ = some (Value.int .i64 a0_4) := (blk_cell BK102.out 4).trans rfl; have hcz31_5 : _ = some (Value.int .i64 a0_5) := (blk_cell BK102.out 5).trans rfl; have hcz31_6 : _ = some (Value.int .i64 a0_6) := (blk_cell BK102.out 6).trans rfl; have hfz31_0 := blk_frozen BK102.out 0; have hfz31_1 := blk_frozen BK102.out 1; have hfz31_2 := blk_frozen BK102.out 2; have hfz31_3 := blk_frozen BK102.out 3; have hfz31_4 := blk_frozen BK102.out 4; have hfz31_5 := blk_frozen BK102.out 5; have hfz31_6 := blk_frozen BK102.out 6) | ((with_reducible refine gate_callee (f := 30) rfl ?_); refine goesL_ (some 6) rfl rfl Try.func30 (by kernel_rfl) rfl #[.agg #[.int .i64 a0_0, .int .i64 a0_1, .int .i64 a0_2, .int .i64 a0_3, .int .i64 a0_4, .int .i64 a0_5, .int .i64 a0_6]] rfl (by (try simp only [lA, lB, lC]); first | done | rfl | (simp only [lD, lE]; rfl)) ?_; (with_reducible refine (spec_GoodLoop.calls a0_0 a0_1 a0_2 a0_3 a0_4 a0_5 a0_6 true _ A3.out).mono ?_); rintro e w32 ⟨rfl, hb⟩; refine ⟨_, rfl, ?_⟩; replace BK102 := a_ (blk_below (pk BK102.out) hb); replace BK103 := a_ (blk_below (pk BK103.out) hb); replace HB := a_ (below_step (by repeat (with_reducible first | exact HB.out | refine bz ?_ (by assumption) | apply bA | apply bN | apply bD)) hb); clear hb; have hcz33_0 : _ = some (Value.bool false) := (blk_cell BK103.out 0).trans rfl; have hcz33_1 : _ = some (Value.int .i64 a1_1) := (blk_cell BK103.out 1).trans rfl; have hcz33_2 : _ = some (Value.int .i64 a1_2) := (blk_cell BK103.out 2).trans rfl; have hcz33_3 : _ = some (Value.int .i64 a1_3) := (blk_cell BK103.out 3).trans rfl; have hfz33_0 := blk_frozen BK103.out 0; have hfz33_1 := blk_frozen BK103.out 1; have hfz33_2 := blk_frozen BK103.out 2; have hfz33_3 := blk_frozen BK103.out 3; have hcz34_0 : _ = some (Value.int .i64 a0_0) := (blk_cell BK102.out 0).trans rfl; have hcz34_1 : _ = some (Value.int .i64 a0_1) := (blk_cell BK102.out 1).trans rfl; have hcz34_2 : _ = some (Value.int .i64 a0_2) := (blk_cell BK102.out 2).trans rfl; have hcz34_3 : _ = some (Value.int .i64 a0_3) := (blk_cell BK102.out 3).trans rfl; have hcz34_4 : _ = some (Value.int .i64 a0_4) := (blk_cell BK102.out 4).trans rfl; have hcz34_5 : _ = some (Value.int .i64 a0_5) := (blk_cell BK102.out 5).trans rfl; have hcz34_6 : _ = some (Value.int .i64 a0_6) := (blk_cell BK102.out 6).trans rfl; have hfz34_0 := blk_frozen BK102.out 0; have hfz34_1 := blk_frozen BK102.out 1; have hfz34_2 := blk_frozen BK102.out 2; have hfz34_3 := blk_frozen BK102.out 3; have hfz34_4 := blk_frozen BK102.out 4; have hfz34_5 := blk_frozen BK102.out 5; have hfz34_6 := blk_frozen BK102.out 6) | (go_at_call 37; (with_reducible refine (spec_l13In.calls a1_1 a0_5 true _ A5.out).mono ?_); rintro e w' ⟨rfl, ⟨nd, rfl⟩⟩) | (go_at_call 37; (with_reducible refine (spec_l13In.calls a1_3 a0_4 true _ A7.out).mono ?_); rintro e w' ⟨rfl, ⟨nd, rfl⟩⟩) | (go_at_call 37; (with_reducible refine (spec_l13In.calls a1_2 2000000 true _ A9.out).mono ?_); rintro e w' ⟨rfl, ⟨nd, rfl⟩⟩))
        go_ret
        exact ⟨by first | rfl | (simp [errW_none, errW_some] <;> rfl) | (simp [*, errW_none, errW_some] <;> rfl), by repeat (with_reducible first | exact HB.out | refine bz ?_ (by assumption) | apply bA | apply bN | apply bD)⟩
      ·rw [if_neg c19] at H
       have c19b0 : (a1_1 == 0) = false := beq_eq_false_iff_ne.mpr c19
       have c19b1 : (a1_1 != 0) = true := bne_iff_ne.mpr c19
       obtain rfl := Option.some.inj H
       go_enter Try.func22, Try.ntmps22
       go_wp2_with (first | ((with_reducible refine gate_dst (N := 2) rfl ?_); refine box_event ?hg (N := 2) ?hd (cs := #[.int .i64 a0_0, .int .i64 a0_1, .int .i64 a0_2, .int .i64 a0_3, .int .i64 a0_4, .int .i64 a0_5, .int .i64 a0_6]) (t := 30) ?hr ?_; (case hd => rfl); (case hg => rfl); (case hr => first | (go_simp; done) | (go_simp; rfl)); intro gb102 hg w35 hbox hb; have BK102 := a_ (hbox); have GW102 := a_ (bsg hg HB.out); have GE102 := a_ (bsg hg HB.out); replace HB := a_ (below_step (un HB.out) hb); clear hb hbox hg) | ((with_reducible refine gate_dst (N := 3) rfl ?_); refine box_event ?hg (N := 3) ?hd (cs := #[.bool false, .int .i64 a1_1, .int .i64 a1_2, .int .i64 a1_3]) (t := 27) ?hr ?_; (case hd => rfl); (case hg => rfl); (case hr => first | (go_simp; done) | (go_simp; rfl)); intro gb103 hg w36 hbox hb; have BK103 := a_ (hbox); have GW103 := a_ (bsg hg HB.out); have GE103 := a_ (bsg hg HB.out); replace HB := a_ (below_step (by repeat (with_reducible first | exact HB.out | refine bz ?_ (by assumption) | apply bA | apply bN | apply bD)) hb); have NB102_103 := a_ (nel hg BK102.out); have NB103_102 := a_ (nle hg BK102.out); replace BK102 := a_ (blk_below (pk BK102.out) hb); clear hb hbox hg; have hnb37 := NB102_103.out; have hnc37 := NB103_102.out; have hcz38_0 : _ = some (Value.int .i64 a0_0) := (blk_cell BK102.out 0).trans rfl; have hcz38_1 : _ = some (Value.int .i64 a0_1) := (blk_cell BK102.out 1).trans rfl; have hcz38_2 : _ = some (Value.int .i64 a0_2) := (blk_cell BK102.out 2).trans rfl; have hcz38_3 : _ = some (Value.int .i64 a0_3) := (blk_cell BK102.out 3).trans rfl; have hcz38_4 : _ = some (Value.int .i64 a0_4) := (blk_cell BK102.out 4).trans rfl; have hcz38_5 : _ = some (Value.int .i64 a0_5) := (blk_cell BK102.out 5).trans rfl; have hcz38_6 : _ = some (Value.int .i64 a0_6) := (blk_cell BK102.out 6).trans rfl; have hfz38_0 := blk_frozen BK102.out 0; have hfz38_1 := blk_frozen BK102.out 1; have hfz38_2 := blk_frozen BK102.out 2; have hfz38_3 := blk_frozen BK102.out 3; have hfz38_4 := blk_frozen BK102.out 4; have hfz38_5 := blk_frozen BK102.out 5; have hfz38_6 := blk_frozen BK102.out 6) | ((with_reducible refine gate_callee (f := 30) rfl ?_); refine goesL_ (some 6) rfl rfl Try.func30 (by kernel_rfl) rfl #[.agg #[.int .i64 a0_0, .int .i64 a0_1, .int .i64 a0_2, .int .i64 a0_3, .int .i64 a0_4, .int .i64 a0_5, .int .i64 a0_6]] rfl (by (try simp only [lA, lB, lC]); first | done | rfl | (simp only [lD, lE]; rfl)) ?_; (with_reducible refine (spec_GoodLoop.calls a0_0 a0_1 a0_2 a0_3 a0_4 a0_5 a0_6 true _ A3.out).mono ?_); rintro e w39 ⟨rfl, hb⟩; refine ⟨_, rfl, ?_⟩; replace BK102 := a_ (blk_below (pk BK102.out) hb); replace BK103 := a_ (blk_below (pk BK103.out) hb); replace HB := a_ (below_step (by repeat (with_reducible first | exact HB.out | refine bz ?_ (by assumption) | apply bA | apply bN | apply bD)) hb); clear hb; have hcz40_0 : _ = some (Value.bool false) := (blk_cell BK103.out 0).trans rfl; have hcz40_1 : _ = some (Value.int .i64 a1_1) := (blk_cell BK103.out 1).trans rfl; have hcz40_2 : _ = some (Value.int .i64 a1_2) := (blk_cell BK103.out 2).trans rfl; have hcz40_3 : _ = some (Value.int .i64 a1_3) := (blk_cell BK103.out 3).trans rfl; have hfz40_0 := blk_frozen BK103.out 0; have hfz40_1 := blk_frozen BK103.out 1; have hfz40_2 := blk_frozen BK103.out 2; have hfz40_3 := blk_frozen BK103.out 3; have hcz41_0 : _ = some (Value.int .i64 a0_0) := (blk_cell BK102.out 0).trans rfl; have hcz41_1 : _ = some (Value.int .i64 a0_1) := (blk_cell BK102.out 1).trans rfl; have hcz41_2 : _ = some (Value.int .i64 a0_2) := (blk_cell BK102.out 2).trans rfl; have hcz41_3 : _ = some (Value.int .i64 a0_3) := (blk_cell BK102.out 3).trans rfl; have hcz41_4 : _ = some (Value.int .i64 a0_4) := (blk_cell BK102.out 4).trans rfl; have hcz41_5 : _ = some (Value.int .i64 a0_5) := (blk_cell BK102.out 5).trans rfl; have hcz41_6 : _ = some (Value.int .i64 a0_6) := (blk_cell BK102.out 6).trans rfl; have hfz41_0 := blk_frozen BK102.out 0; have hfz41_1 := blk_frozen BK102.out 1; have hfz41_2 := blk_frozen BK102.out 2; have hfz41_3 := blk_frozen BK102.out 3; have hfz41_4 := blk_frozen BK102.out 4; have hfz41_5 := blk_frozen BK102.out 5; have hfz41_6 := blk_frozen BK102.out 6) | (go_at_call 37; (with_reducible refine (spec_l13In.calls a1_1 a0_5 true _ A5.out).mono ?_); rintro e w' ⟨rfl, ⟨nd, rfl⟩⟩) | (go_at_call 37; (with_reducible refine (spec_l13In.calls a1_3 a0_4 true _ A7.out).mono ?_); rintro e w' ⟨rfl, ⟨nd, rfl⟩⟩) | (go_at_call 37; (with_reducible refine (spec_l13In.calls a1_2 2000000 true _ A9.out).mono ?_); rintro e w' ⟨rfl, ⟨nd, rfl⟩⟩))
       go_ret
       exact ⟨by first | rfl | (simp [errW_none, errW_some] <;> rfl) | (simp [*, errW_none, errW_some] <;> rfl), by repeat (with_reducible first | exact HB.out | refine bz ?_ (by assumption) | apply bA | apply bN | apply bD)⟩
    ·replace c10 := Bool.eq_false_iff.mpr c10
     subst c10
     have H1 : (some false) = some r := by rw [if_neg (show ¬ (false = true) by decide)] at H; exact H
     clear H
     have H := H1
     clear H1
     obtain rfl := Option.some.inj H
     go_enter Try.func22, Try.ntmps22
     go_wp2_with (first | ((with_reducible refine gate_dst (N := 2) rfl ?_); refine box_event ?hg (N := 2) ?hd (cs := #[.int .i64 a0_0, .int .i64 a0_1, .int .i64 a0_2, .int .i64 a0_3, .int .i64 a0_4, .int .i64 a0_5, .int .i64 a0_6]) (t := 30) ?hr ?_; (case hd => rfl); (case hg => rfl); (case hr => first | (go_simp; done) | (go_simp; rfl)); intro gb102 hg w42 hbox hb; have BK102 := a_ (hbox); have GW102 := a_ (bsg hg HB.out); have GE102 := a_ (bsg hg HB.out); replace HB := a_ (below_step (un HB.out) hb); clear hb hbox hg) | ((with_reducible refine gate_dst (N := 3) rfl ?_); refine box_event ?hg (N := 3) ?hd (cs := #[.bool a1_0, .int .i64 a1_1, .int .i64 a1_2, .int .i64 a1_3]) (t := 27) ?hr ?_; (case hd => rfl); (case hg => rfl); (case hr => first | (go_simp; done) | (go_simp; rfl)); intro gb103 hg w43 hbox hb; have BK103 := a_ (hbox); have GW103 := a_ (bsg hg HB.out); have GE103 := a_ (bsg hg HB.out); replace HB := a_ (below_step (by repeat (with_reducible first | exact HB.out | refine bz ?_ (by assumption) | apply bA | apply bN | apply bD)) hb); have NB102_103 := a_ (nel hg BK102.out); have NB103_102 := a_ (nle hg BK102.out); replace BK102 := a_ (blk_below (pk BK102.out) hb); clear hb hbox hg; have hnb44 := NB102_103.out; have hnc44 := NB103_102.out; have hcz45_0 : _ = some (Value.int .i64 a0_0) := (blk_cell BK102.out 0).trans rfl; have hcz45_1 : _ = some (Value.int .i64 a0_1) := (blk_cell BK102.out 1).trans rfl; have hcz45_2 : _ = some (Value.int .i64 a0_2) := (blk_cell BK102.out 2).trans rfl; have hcz45_3 : _ = some (Value.int .i64 a0_3) := (blk_cell BK102.out 3).trans rfl; have hcz45_4 : _ = some (Value.int .i64 a0_4) := (blk_cell BK102.out 4).trans rfl; have hcz45_5 : _ = some (Value.int .i64 a0_5) := (blk_cell BK102.out 5).trans rfl; have hcz45_6 : _ = some (Value.int .i64 a0_6) := (blk_cell BK102.out 6).trans rfl; have hfz45_0 := blk_frozen BK102.out 0; have hfz45_1 := blk_frozen BK102.out 1; have hfz45_2 := blk_frozen BK102.out 2; have hfz45_3 := blk_frozen BK102.out 3; have hfz45_4 := blk_frozen BK102.out 4; have hfz45_5 := blk_frozen BK102.out 5; have hfz45_6 := blk_frozen BK102.out 6) | ((with_reducible refine gate_callee (f := 30) rfl ?_); refine goesL_ (some 6) rfl rfl Try.func30 (by kernel_rfl) rfl #[.agg #[.int .i64 a0_0, .int .i64 a0_1, .int .i64 a0_2, .int .i64 a0_3, .int .i64 a0_4, .int .i64 a0_5, .int .i64 a0_6]] rfl (by (try simp only [lA, lB, lC]); first | done | rfl | (simp only [lD, lE]; rfl)) ?_; (with_reducible refine (spec_GoodLoop.calls a0_0 a0_1 a0_2 a0_3 a0_4 a0_5 a0_6 true _ A3.out).mono ?_); rintro e w46 ⟨rfl, hb⟩; refine ⟨_, rfl, ?_⟩; replace BK102 := a_ (blk_below (pk BK102.out) hb); replace BK103 := a_ (blk_below (pk BK103.out) hb); replace HB := a_ (below_step (by repeat (with_reducible first | exact HB.out | refine bz ?_ (by assumption) | apply bA | apply bN | apply bD)) hb); clear hb; have hcz47_0 : _ = some (Value.bool a1_0) := (blk_cell BK103.out 0).trans rfl; have hcz47_1 : _ = some (Value.int .i64 a1_1) := (blk_cell BK103.out 1).trans rfl; have hcz47_2 : _ = some (Value.int .i64 a1_2) := (blk_cell BK103.out 2).trans rfl; have hcz47_3 : _ = some (Value.int .i64 a1_3) := (blk_cell BK103.out 3).trans rfl; have hfz47_0 := blk_frozen BK103.out 0; have hfz47_1 := blk_frozen BK103.out 1; have hfz47_2 := blk_frozen BK103.out 2; have hfz47_3 := blk_frozen BK103.out 3; have hcz48_0 : _ = some (Value.int .i64 a0_0) := (blk_cell BK102.out 0).trans rfl; have hcz48_1 : _ = some (Value.int .i64 a0_1) := (blk_cell BK102.out 1).trans rfl; have hcz48_2 : _ = some (Value.int .i64 a0_2) := (blk_cell BK102.out 2).trans rfl; have hcz48_3 : _ = some (Value.int .i64 a0_3) := (blk_cell BK102.out 3).trans rfl; have hcz48_4 : _ = some (Value.int .i64 a0_4) := (blk_cell BK102.out 4).trans rfl; have hcz48_5 : _ = some (Value.int .i64 a0_5) := (blk_cell BK102.out 5).trans rfl; have hcz48_6 : _ = some (Value.int .i64 a0_6) := (blk_cell BK102.out 6).trans rfl; have hfz48_0 := blk_frozen BK102.out 0; have hfz48_1 := blk_frozen BK102.out 1; have hfz48_2 := blk_frozen BK102.out 2; have hfz48_3 := blk_frozen BK102.out 3; have hfz48_4 := blk_frozen BK102.out 4; have hfz48_5 := blk_frozen BK102.out 5; have hfz48_6 := blk_frozen BK102.out 6) | (go_at_call 37; (with_reducible refine (spec_l13In.calls a1_1 a0_5 true _ A5.out).mono ?_); rintro e w' ⟨rfl, ⟨nd, rfl⟩⟩) | (go_at_call 37; (with_reducible refine (spec_l13In.calls a1_3 a0_4 true _ A7.out).mono ?_); rintro e w' ⟨rfl, ⟨nd, rfl⟩⟩) | (go_at_call 37; (with_reducible refine (spec_l13In.calls a1_2 2000000 false _ A9.out).mono ?_); rintro e w' ⟨rfl, ⟨nd, rfl⟩⟩))
     go_ret
     exact ⟨by first | rfl | (simp [errW_none, errW_some] <;> rfl) | (simp [*, errW_none, errW_some] <;> rfl), by repeat (with_reducible first | exact HB.out | refine bz ?_ (by assumption) | apply bA | apply bN | apply bD)⟩
   ·replace c8 := Bool.eq_false_iff.mpr c8
    subst c8
    have H1 : (some false) = some r := by rw [if_neg (show ¬ (false = true) by decide)] at H; exact H
    clear H
    have H := H1
    clear H1
    obtain rfl := Option.some.inj H
    go_enter Try.func22, Try.ntmps22
    go_wp2_with (first | ((with_reducible refine gate_dst (N := 2) rfl ?_); refine box_event ?hg (N := 2) ?hd (cs := #[.int .i64 a0_0, .int .i64 a0_1, .int .i64 a0_2, .int .i64 a0_3, .int .i64 a0_4, .int .i64 a0_5, .int .i64 a0_6]) (t := 30) ?hr ?_; (case hd => rfl); (case hg => rfl); (case hr => first | (go_simp; done) | (go_simp; rfl)); intro gb102 hg w49 hbox hb; have BK102 := a_ (hbox); have GW102 := a_ (bsg hg HB.out); have GE102 := a_ (bsg hg HB.out); replace HB := a_ (below_step (un HB.out) hb); clear hb hbox hg) | ((with_reducible refine gate_dst (N := 3) rfl ?_); refine box_event ?hg (N := 3) ?hd (cs := #[.bool a1_0, .int .i64 a1_1, .int .i64 a1_2, .int .i64 a1_3]) (t := 27) ?hr ?_; (case hd => rfl); (case hg => rfl); (case hr => first | (go_simp; done) | (go_simp; rfl)); intro gb103 hg w50 hbox hb; have BK103 := a_ (hbox); have GW103 := a_ (bsg hg HB.out); have GE103 := a_ (bsg hg HB.out); replace HB := a_ (below_step (by repeat (with_reducible first | exact HB.out | refine bz ?_ (by assumption) | apply bA | apply bN | apply bD)) hb); have NB102_103 := a_ (nel hg BK102.out); have NB103_102 := a_ (nle hg BK102.out); replace BK102 := a_ (blk_below (pk BK102.out) hb); clear hb hbox hg; have hnb51 := NB102_103.out; have hnc51 := NB103_102.out; have hcz52_0 : _ = some (Value.int .i64 a0_0) := (blk_cell BK102.out 0).trans rfl; have hcz52_1 : _ = some (Value.int .i64 a0_1) := (blk_cell BK102.out 1).trans rfl; have hcz52_2 : _ = some (Value.int .i64 a0_2) := (blk_cell BK102.out 2).trans rfl; have hcz52_3 : _ = some (Value.int .i64 a0_3) := (blk_cell BK102.out 3).trans rfl; have hcz52_4 : _ = some (Value.int .i64 a0_4) := (blk_cell BK102.out 4).trans rfl; have hcz52_5 : _ = some (Value.int .i64 a0_5) := (blk_cell BK102.out 5).trans rfl; have hcz52_6 : _ = some (Value.int .i64 a0_6) := (blk_cell BK102.out 6).trans rfl; have hfz52_0 := blk_frozen BK102.out 0; have hfz52_1 := blk_frozen BK102.out 1; have hfz52_2 := blk_frozen BK102.out 2; have hfz52_3 := blk_frozen BK102.out 3; have hfz52_4 := blk_frozen BK102.out 4; have hfz52_5 := blk_frozen BK102.out 5; have hfz52_6 := blk_frozen BK102.out 6) | ((with_reducible refine gate_callee (f := 30) rfl ?_); refine goesL_ (some 6) rfl rfl Try.func30 (by kernel_rfl) rfl #[.agg #[.int .i64 a0_0, .int .i64 a0_1, .int .i64 a0_2, .int .i64 a0_3, .int .i64 a0_4, .int .i64 a0_5, .int .i64 a0_6]] rfl (by (try simp only [lA, lB, lC]); first | done | rfl | (simp only [lD, lE]; rfl)) ?_; (with_reducible refine (spec_GoodLoop.calls a0_0 a0_1 a0_2 a0_3 a0_4 a0_5 a0_6 true _ A3.out).mono ?_); rintro e w53 ⟨rfl, hb⟩; refine ⟨_, rfl, ?_⟩; replace BK102 := a_ (blk_below (pk BK102.out) hb); replace BK103 := a_ (blk_below (pk BK103.out) hb); replace HB := a_ (below_step (by repeat (with_reducible first | exact HB.out | refine bz ?_ (by assumption) | apply bA | apply bN | apply bD)) hb); clear hb; have hcz54_0 : _ = some (Value.bool a1_0) := (blk_cell BK103.out 0).trans rfl; have hcz54_1 : _ = some (Value.int .i64 a1_1) := (blk_cell BK103.out 1).trans rfl; have hcz54_2 : _ = some (Value.int .i64 a1_2) := (blk_cell BK103.out 2).trans rfl; have hcz54_3 : _ = some (Value.int .i64 a1_3) := (blk_cell BK103.out 3).trans rfl; have hfz54_0 := blk_frozen BK103.out 0; have hfz54_1 := blk_frozen BK103.out 1; have hfz54_2 := blk_frozen BK103.out 2; have hfz54_3 := blk_frozen BK103.out 3; have hcz55_0 : _ = some (Value.int .i64 a0_0) := (blk_cell BK102.out 0).trans rfl; have hcz55_1 : _ = some (Value.int .i64 a0_1) := (blk_cell BK102.out 1).trans rfl; have hcz55_2 : _ = some (Value.int .i64 a0_2) := (blk_cell BK102.out 2).trans rfl; have hcz55_3 : _ = some (Value.int .i64 a0_3) := (blk_cell BK102.out 3).trans rfl; have hcz55_4 : _ = some (Value.int .i64 a0_4) := (blk_cell BK102.out 4).trans rfl; have hcz55_5 : _ = some (Value.int .i64 a0_5) := (blk_cell BK102.out 5).trans rfl; have hcz55_6 : _ = some (Value.int .i64 a0_6) := (blk_cell BK102.out 6).trans rfl; have hfz55_0 := blk_frozen BK102.out 0; have hfz55_1 := blk_frozen BK102.out 1; have hfz55_2 := blk_frozen BK102.out 2; have hfz55_3 := blk_frozen BK102.out 3; have hfz55_4 := blk_frozen BK102.out 4; have hfz55_5 := blk_frozen BK102.out 5; have hfz55_6 := blk_frozen BK102.out 6) | (go_at_call 37; (with_reducible refine (spec_l13In.calls a1_1 a0_5 true _ A5.out).mono ?_); rintro e w' ⟨rfl, ⟨nd, rfl⟩⟩) | (go_at_call 37; (with_reducible refine (spec_l13In.calls a1_3 a0_4 false _ A7.out).mono ?_); rintro e w' ⟨rfl, ⟨nd, rfl⟩⟩))
    go_ret
    exact ⟨by first | rfl | (simp [errW_none, errW_some] <;> rfl) | (simp [*, errW_none, errW_some] <;> rfl), by repeat (with_reducible first | exact HB.out | refine bz ?_ (by assumption) | apply bA | apply bN | apply bD)⟩
  ·replace c6 := Bool.eq_false_iff.mpr c6
   subst c6
   have H1 : (some false) = some r := by rw [if_neg (show ¬ (false = true) by decide)] at H; exact H
   clear H
   have H := H1
   clear H1
   obtain rfl := Option.some.inj H
   go_enter Try.func22, Try.ntmps22
   go_wp2_with (first | ((with_reducible refine gate_dst (N := 2) rfl ?_); refine box_event ?hg (N := 2) ?hd (cs := #[.int .i64 a0_0, .int .i64 a0_1, .int .i64 a0_2, .int .i64 a0_3, .int .i64 a0_4, .int .i64 a0_5, .int .i64 a0_6]) (t := 30) ?hr ?_; (case hd => rfl); (case hg => rfl); (case hr => first | (go_simp; done) | (go_simp; rfl)); intro gb102 hg w56 hbox hb; have BK102 := a_ (hbox); have GW102 := a_ (bsg hg HB.out); have GE102 := a_ (bsg hg HB.out); replace HB := a_ (below_step (un HB.out) hb); clear hb hbox hg) | ((with_reducible refine gate_dst (N := 3) rfl ?_); refine box_event ?hg (N := 3) ?hd (cs := #[.bool a1_0, .int .i64 a1_1, .int .i64 a1_2, .int .i64 a1_3]) (t := 27) ?hr ?_; (case hd => rfl); (case hg => rfl); (case hr => first | (go_simp; done) | (go_simp; rfl)); intro gb103 hg w57 hbox hb; have BK103 := a_ (hbox); have GW103 := a_ (bsg hg HB.out); have GE103 := a_ (bsg hg HB.out); replace HB := a_ (below_step (by repeat (with_reducible first | exact HB.out | refine bz ?_ (by assumption) | apply bA | apply bN | apply bD)) hb); have NB102_103 := a_ (nel hg BK102.out); have NB103_102 := a_ (nle hg BK102.out); replace BK102 := a_ (blk_below (pk BK102.out) hb); clear hb hbox hg; have hnb58 := NB102_103.out; have hnc58 := NB103_102.out; have hcz59_0 : _ = some (Value.int .i64 a0_0) := (blk_cell BK102.out 0).trans rfl; have hcz59_1 : _ = some (Value.int .i64 a0_1) := (blk_cell BK102.out 1).trans rfl; have hcz59_2 : _ = some (Value.int .i64 a0_2) := (blk_cell BK102.out 2).trans rfl; have hcz59_3 : _ = some (Value.int .i64 a0_3) := (blk_cell BK102.out 3).trans rfl; have hcz59_4 : _ = some (Value.int .i64 a0_4) := (blk_cell BK102.out 4).trans rfl; have hcz59_5 : _ = some (Value.int .i64 a0_5) := (blk_cell BK102.out 5).trans rfl; have hcz59_6 : _ = some (Value.int .i64 a0_6) := (blk_cell BK102.out 6).trans rfl; have hfz59_0 := blk_frozen BK102.out 0; have hfz59_1 := blk_frozen BK102.out 1; have hfz59_2 := blk_frozen BK102.out 2; have hfz59_3 := blk_frozen BK102.out 3; have hfz59_4 := blk_frozen BK102.out 4; have hfz59_5 := blk_frozen BK102.out 5; have hfz59_6 := blk_frozen BK102.out 6) | ((with_reducible refine gate_callee (f := 30) rfl ?_); refine goesL_ (some 6) rfl rfl Try.func30 (by kernel_rfl) rfl #[.agg #[.int .i64 a0_0, .int .i64 a0_1, .int .i64 a0_2, .int .i64 a0_3, .int .i64 a0_4, .int .i64 a0_5, .int .i64 a0_6]] rfl (by (try simp only [lA, lB, lC]); first | done | rfl | (simp only [lD, lE]; rfl)) ?_; (with_reducible refine (spec_GoodLoop.calls a0_0 a0_1 a0_2 a0_3 a0_4 a0_5 a0_6 true _ A3.out).mono ?_); rintro e w60 ⟨rfl, hb⟩; refine ⟨_, rfl, ?_⟩; replace BK102 := a_ (blk_below (pk BK102.out) hb); replace BK103 := a_ (blk_below (pk BK103.out) hb); replace HB := a_ (below_step (by repeat (with_reducible first | exact HB.out | refine bz ?_ (by assumption) | apply bA | apply bN | apply bD)) hb); clear hb; have hcz61_0 : _ = some (Value.bool a1_0) := (blk_cell BK103.out 0).trans rfl; have hcz61_1 : _ = some (Value.int .i64 a1_1) := (blk_cell BK103.out 1).trans rfl; have hcz61_2 : _ = some (Value.int .i64 a1_2) := (blk_cell BK103.out 2).trans rfl; have hcz61_3 : _ = some (Value.int .i64 a1_3) := (blk_cell BK103.out 3).trans rfl; have hfz61_0 := blk_frozen BK103.out 0; have hfz61_1 := blk_frozen BK103.out 1; have hfz61_2 := blk_frozen BK103.out 2; have hfz61_3 := blk_frozen BK103.out 3; have hcz62_0 : _ = some (Value.int .i64 a0_0) := (blk_cell BK102.out 0).trans rfl; have hcz62_1 : _ = some (Value.int .i64 a0_1) := (blk_cell BK102.out 1).trans rfl; have hcz62_2 : _ = some (Value.int .i64 a0_2) := (blk_cell BK102.out 2).trans rfl; have hcz62_3 : _ = some (Value.int .i64 a0_3) := (blk_cell BK102.out 3).trans rfl; have hcz62_4 : _ = some (Value.int .i64 a0_4) := (blk_cell BK102.out 4).trans rfl; have hcz62_5 : _ = some (Value.int .i64 a0_5) := (blk_cell BK102.out 5).trans rfl; have hcz62_6 : _ = some (Value.int .i64 a0_6) := (blk_cell BK102.out 6).trans rfl; have hfz62_0 := blk_frozen BK102.out 0; have hfz62_1 := blk_frozen BK102.out 1; have hfz62_2 := blk_frozen BK102.out 2; have hfz62_3 := blk_frozen BK102.out 3; have hfz62_4 := blk_frozen BK102.out 4; have hfz62_5 := blk_frozen BK102.out 5; have hfz62_6 := blk_frozen BK102.out 6) | (go_at_call 37; (with_reducible refine (spec_l13In.calls a1_1 a0_5 false _ A5.out).mono ?_); rintro e w' ⟨rfl, ⟨nd, rfl⟩⟩))
   go_ret
   exact ⟨by first | rfl | (simp [errW_none, errW_some] <;> rfl) | (simp [*, errW_none, errW_some] <;> rfl), by repeat (with_reducible first | exact HB.out | refine bz ?_ (by assumption) | apply bA | apply bN | apply bD)⟩
 ·replace c4 := Bool.eq_false_iff.mpr c4
  subst c4
  have H1 : (some false) = some r := by rw [if_neg (show ¬ (false = true) by decide)] at H; exact H
  clear H
  have H := H1
  clear H1
  obtain rfl := Option.some.inj H
  go_enter Try.func22, Try.ntmps22
  go_wp2_with (first | ((with_reducible refine gate_dst (N := 2) rfl ?_); refine box_event ?hg (N := 2) ?hd (cs := #[.int .i64 a0_0, .int .i64 a0_1, .int .i64 a0_2, .int .i64 a0_3, .int .i64 a0_4, .int .i64 a0_5, .int .i64 a0_6]) (t := 30) ?hr ?_; (case hd => rfl); (case hg => rfl); (case hr => first | (go_simp; done) | (go_simp; rfl)); intro gb102 hg w63 hbox hb; have BK102 := a_ (hbox); have GW102 := a_ (bsg hg HB.out); have GE102 := a_ (bsg hg HB.out); replace HB := a_ (below_step (un HB.out) hb); clear hb hbox hg) | ((with_reducible refine gate_dst (N := 3) rfl ?_); refine box_event ?hg (N := 3) ?hd (cs := #[.bool a1_0, .int .i64 a1_1, .int .i64 a1_2, .int .i64 a1_3]) (t := 27) ?hr ?_; (case hd => rfl); (case hg => rfl); (case hr => first | (go_simp; done) | (go_simp; rfl)); intro gb103 hg w64 hbox hb; have BK103 := a_ (hbox); have GW103 := a_ (bsg hg HB.out); have GE103 := a_ (bsg hg HB.out); replace HB := a_ (below_step (by repeat (with_reducible first | exact HB.out | refine bz ?_ (by assumption) | apply bA | apply bN | apply bD)) hb); have NB102_103 := a_ (nel hg BK102.out); have NB103_102 := a_ (nle hg BK102.out); replace BK102 := a_ (blk_below (pk BK102.out) hb); clear hb hbox hg; have hnb65 := NB102_103.out; have hnc65 := NB103_102.out; have hcz66_0 : _ = some (Value.int .i64 a0_0) := (blk_cell BK102.out 0).trans rfl; have hcz66_1 : _ = some (Value.int .i64 a0_1) := (blk_cell BK102.out 1).trans rfl; have hcz66_2 : _ = some (Value.int .i64 a0_2) := (blk_cell BK102.out 2).trans rfl; have hcz66_3 : _ = some (Value.int .i64 a0_3) := (blk_cell BK102.out 3).trans rfl; have hcz66_4 : _ = some (Value.int .i64 a0_4) := (blk_cell BK102.out 4).trans rfl; have hcz66_5 : _ = some (Value.int .i64 a0_5) := (blk_cell BK102.out 5).trans rfl; have hcz66_6 : _ = some (Value.int .i64 a0_6) := (blk_cell BK102.out 6).trans rfl; have hfz66_0 := blk_frozen BK102.out 0; have hfz66_1 := blk_frozen BK102.out 1; have hfz66_2 := blk_frozen BK102.out 2; have hfz66_3 := blk_frozen BK102.out 3; have hfz66_4 := blk_frozen BK102.out 4; have hfz66_5 := blk_frozen BK102.out 5; have hfz66_6 := blk_frozen BK102.out 6) | ((with_reducible refine gate_callee (f := 30) rfl ?_); refine goesL_ (some 6) rfl rfl Try.func30 (by kernel_rfl) rfl #[.agg #[.int .i64 a0_0, .int .i64 a0_1, .int .i64 a0_2, .int .i64 a0_3, .int .i64 a0_4, .int .i64 a0_5, .int .i64 a0_6]] rfl (by (try simp only [lA, lB, lC]); first | done | rfl | (simp only [lD, lE]; rfl)) ?_; (with_reducible refine (spec_GoodLoop.calls a0_0 a0_1 a0_2 a0_3 a0_4 a0_5 a0_6 false _ A3.out).mono ?_); rintro e w67 ⟨rfl, hb⟩; refine ⟨_, rfl, ?_⟩; replace BK102 := a_ (blk_below (pk BK102.out) hb); replace BK103 := a_ (blk_below (pk BK103.out) hb); replace HB := a_ (below_step (by repeat (with_reducible first | exact HB.out | refine bz ?_ (by assumption) | apply bA | apply bN | apply bD)) hb); clear hb))
  go_ret
  exact ⟨by first | rfl | (simp [errW_none, errW_some] <;> rfl) | (simp [*, errW_none, errW_some] <;> rfl), by repeat (with_reducible first | exact HB.out | refine bz ?_ (by assumption) | apply bA | apply bN | apply bD)⟩

/-! ### spec_l13Down: function 39 -/
def spec_l13Down.f (a0 : Int) (a1 : Int) : Option (Int) := if a1 = 0 then (none) else (if (Int.tmod a0 a1) < 0 then (some (wrap64 ((wrap64 (Int.tdiv a0 a1)) - 1))) else (some (wrap64 (Int.tdiv a0 a1))))
set_option maxHeartbeats 8000000 in
set_option maxRecDepth 100000 in
theorem spec_l13Down.calls (a0 : Int) (a1 : Int) (r : Int) (w : World) (h : spec_l13Down.f a0 a1 = some r) :
  Calls Try.prog 39 #[.int .i64 a0, .int .i64 a1] w fun e w' => e = .returned (.int .i64 r) ∧ Drawn0 w w' := by
 have H : (if a1 = 0 then (none) else (if (Int.tmod a0 a1) < 0 then (some (wrap64 ((wrap64 (Int.tdiv a0 a1)) - 1))) else (some (wrap64 (Int.tdiv a0 a1))))) = some r := h
 clear h
 by_cases c3 : a1 = 0
 ·rw [if_pos c3] at H
  exact absurd H (by simp)
 ·rw [if_neg c3] at H
  have c3b0 : (a1 == 0) = false := beq_eq_false_iff_ne.mpr c3
  have c3b1 : (a1 != 0) = true := bne_iff_ne.mpr c3
  by_cases c4 : (Int.tmod a0 a1) < 0
  ·rw [if_pos c4] at H
   have c4b0 : decide ((Int.tmod a0 a1) < 0) = true := decide_eq_true c4
   clear c4
   obtain rfl := Option.some.inj H
   go_enter Try.func39, Try.ntmps39
   go_wp2
   go_ret
   exact ⟨by first | rfl | (simp; done) | (simp [*]; done), by repeat (first | exact Drawn0.refl _ | apply Drawn0.step)⟩
  ·rw [if_neg c4] at H
   have c4b0 : decide ((Int.tmod a0 a1) < 0) = false := decide_eq_false c4
   clear c4
   obtain rfl := Option.some.inj H
   go_enter Try.func39, Try.ntmps39
   go_wp2
   go_ret
   exact ⟨by first | rfl | (simp; done) | (simp [*]; done), by repeat (first | exact Drawn0.refl _ | apply Drawn0.step)⟩

/-! ### spec_l13Cut: function 40 -/
def spec_l13Cut.f (a0 : Int) (a1 : Int) (a2 : Int) : Option (Int) := if a0 < a1 then (some a1) else (if a0 > a2 then (some a2) else (some a0))
set_option maxHeartbeats 8000000 in
set_option maxRecDepth 100000 in
theorem spec_l13Cut.calls (a0 : Int) (a1 : Int) (a2 : Int) (r : Int) (w : World) (h : spec_l13Cut.f a0 a1 a2 = some r) :
  Calls Try.prog 40 #[.int .i64 a0, .int .i64 a1, .int .i64 a2] w fun e w' => e = .returned (.int .i64 r) ∧ Drawn0 w w' := by
 have H : (if a0 < a1 then (some a1) else (if a0 > a2 then (some a2) else (some a0))) = some r := h
 clear h
 by_cases c4 : a0 < a1
 ·rw [if_pos c4] at H
  have c4b0 : decide (a0 < a1) = true := decide_eq_true c4
  clear c4
  obtain rfl := Option.some.inj H
  go_enter Try.func40, Try.ntmps40
  go_wp2
  go_ret
  exact ⟨by first | rfl | (simp; done) | (simp [*]; done), by repeat (first | exact Drawn0.refl _ | apply Drawn0.step)⟩
 ·rw [if_neg c4] at H
  have c4b0 : decide (a0 < a1) = false := decide_eq_false c4
  clear c4
  by_cases c5 : a0 > a2
  ·rw [if_pos c5] at H
   have c5b0 : decide (a2 < a0) = true := decide_eq_true c5
   clear c5
   obtain rfl := Option.some.inj H
   go_enter Try.func40, Try.ntmps40
   go_wp2
   go_ret
   exact ⟨by first | rfl | (simp; done) | (simp [*]; done), by repeat (first | exact Drawn0.refl _ | apply Drawn0.step)⟩
  ·rw [if_neg c5] at H
   have c5b0 : decide (a2 < a0) = false := decide_eq_false c5
   clear c5
   obtain rfl := Option.some.inj H
   go_enter Try.func40, Try.ntmps40
   go_wp2
   go_ret
   exact ⟨by first | rfl | (simp; done) | (simp [*]; done), by repeat (first | exact Drawn0.refl _ | apply Drawn0.step)⟩

/-! ### spec_l13Value: function 41 -/
def spec_l13Value.f (a0 : Int) : Option (Bool) := (spec_l13In.f a0 1000000).bind fun t108 => (some t108)
set_option maxHeartbeats 8000000 in
set_option maxRecDepth 100000 in
theorem spec_l13Value.calls (a0 : Int) (r : Bool) (w : World) (h : spec_l13Value.f a0 = some r) :
  Calls Try.prog 41 #[.int .i64 a0] w fun e w' => e = .returned (.bool r) ∧ Drawn0 w w' := by
 have H : ((spec_l13In.f a0 1000000).bind fun t108 => (some t108)) = some r := h
 clear h
 replace H := Option.bind_eq_some_iff.mp H
 obtain ⟨t108, A20, H⟩ := H
 have A2 := Aside0.mk A20
 clear A20
 obtain rfl := Option.some.inj H
 go_enter Try.func41, Try.ntmps41
 go_wp2_with (first | ((with_reducible refine gate_callee (f := 37) rfl ?_); refine goesL_ (some 4) rfl rfl Try.func37 (by kernel_rfl) rfl #[.int .i64 a0, .int .i64 1000000] rfl (by (try simp only [lA, lB, lC]); first | done | rfl | (simp only [lD, lE]; rfl)) ?_; (with_reducible refine (spec_l13In.calls a0 1000000 t108 _ A2.out).mono ?_); rintro e w' ⟨rfl, ⟨nd, rfl⟩⟩; refine ⟨_, rfl, ?_⟩))
 go_ret
 exact ⟨by first | rfl | (simp; done) | (simp [*]; done), by repeat (first | exact Drawn0.refl _ | apply Drawn0.step)⟩

end Go.Proofs.Ytineniimpdjpnaa.PFnExactRunHold
