-- Written by a program of this session out of the loaded functions' print; helper lemmas as print.sh lays them.
import Derived.Test.YtineniimpdjpnaaUp
import Derived.Test.YtineniimpdjpnaaRFnGainsx0
namespace Go.Proofs.Ytineniimpdjpnaa.PFnGains
open Go.RowKit Go.Proofs.YtineniimpdjpnaaW.PrintWords Go.Proofs.YtineniimpdjpnaaW.PrintLast Go.Proofs.YtineniimpdjpnaaW.PrintMore
attribute [local go_sem] max2_int min2_int max_two min_two max_three min_three max_four min_four  -- for this text's walks alone
set_option linter.unusedVariables false
set_option linter.unusedSimpArgs false

/-! ### spec_GoodLoop: function 30 -/
def spec_GoodLoop.f (a0_0 : Int) (a0_1 : Int) (a0_2 : Int) (a0_3 : Int) (a0_4 : Int) (a0_5 : Int) (a0_6 : Int) : Option (Bool) := if a0_0 ≥ 0 then (if a0_0 ≤ 1000 then (if a0_1 ≥ 0 then (if a0_1 ≤ 1000 then (if a0_2 ≥ 0 then (if a0_2 ≤ 1000 then (if a0_3 ≥ 1 then (if a0_3 ≤ 1000 then (if a0_4 ≥ 1 then (if a0_4 ≤ 1000000 then (if a0_5 ≥ 0 then (if a0_5 ≤ 1000000 then (if a0_6 ≥ 0 then (some (decide (a0_6 ≤ 1000000))) else (some false)) else (some false)) else (some false)) else (some false)) else (some false)) else (some false)) else (some false)) else (some false)) else (some false)) else (some false)) else (some false)) else (some false)) else (some false)
set_option maxHeartbeats 8000000 in
set_option maxRecDepth 100000 in
theorem spec_GoodLoop.calls (a0_0 : Int) (a0_1 : Int) (a0_2 : Int) (a0_3 : Int) (a0_4 : Int) (a0_5 : Int) (a0_6 : Int) (r : Bool) (w : World) (h : spec_GoodLoop.f a0_0 a0_1 a0_2 a0_3 a0_4 a0_5 a0_6 = some r) :
  Calls Try.prog 30 #[.agg #[.int .i64 a0_0, .int .i64 a0_1, .int .i64 a0_2, .int .i64 a0_3, .int .i64 a0_4, .int .i64 a0_5, .int .i64 a0_6]] w fun e w' => e = .returned (.bool r) ∧ Below w.heap.size w w' := by
 have hu30 := Try.underlying30
 have HB := a_ (Below.refl w.heap.size w)
 have H : (if a0_0 ≥ 0 then (if a0_0 ≤ 1000 then (if a0_1 ≥ 0 then (if a0_1 ≤ 1000 then (if a0_2 ≥ 0 then (if a0_2 ≤ 1000 then (if a0_3 ≥ 1 then (if a0_3 ≤ 1000 then (if a0_4 ≥ 1 then (if a0_4 ≤ 1000000 then (if a0_5 ≥ 0 then (if a0_5 ≤ 1000000 then (if a0_6 ≥ 0 then (some (decide (a0_6 ≤ 1000000))) else (some false)) else (some false)) else (some false)) else (some false)) else (some false)) else (some false)) else (some false)) else (some false)) else (some false)) else (some false)) else (some false)) else (some false)) else (some false)) = some r := h
 clear h
 by_cases c2 : a0_0 ≥ 0
 ·rw [if_pos c2] at H
  have c2b0 : decide (0 ≤ a0_0) = true := decide_eq_true c2
  clear c2
  by_cases c3 : a0_0 ≤ 1000
  ·rw [if_pos c3] at H
   have c3b0 : decide (a0_0 ≤ 1000) = true := decide_eq_true c3
   clear c3
   by_cases c4 : a0_1 ≥ 0
   ·rw [if_pos c4] at H
    have c4b0 : decide (0 ≤ a0_1) = true := decide_eq_true c4
    clear c4
    by_cases c5 : a0_1 ≤ 1000
    ·rw [if_pos c5] at H
     have c5b0 : decide (a0_1 ≤ 1000) = true := decide_eq_true c5
     clear c5
     by_cases c6 : a0_2 ≥ 0
     ·rw [if_pos c6] at H
      have c6b0 : decide (0 ≤ a0_2) = true := decide_eq_true c6
      clear c6
      by_cases c7 : a0_2 ≤ 1000
      ·rw [if_pos c7] at H
       have c7b0 : decide (a0_2 ≤ 1000) = true := decide_eq_true c7
       clear c7
       by_cases c8 : a0_3 ≥ 1
       ·rw [if_pos c8] at H
        have c8b0 : decide (1 ≤ a0_3) = true := decide_eq_true c8
        clear c8
        by_cases c9 : a0_3 ≤ 1000
        ·rw [if_pos c9] at H
         have c9b0 : decide (a0_3 ≤ 1000) = true := decide_eq_true c9
         clear c9
         by_cases c10 : a0_4 ≥ 1
         ·rw [if_pos c10] at H
          have c10b0 : decide (1 ≤ a0_4) = true := decide_eq_true c10
          clear c10
          by_cases c11 : a0_4 ≤ 1000000
          ·rw [if_pos c11] at H
           have c11b0 : decide (a0_4 ≤ 1000000) = true := decide_eq_true c11
           clear c11
           by_cases c12 : a0_5 ≥ 0
           ·rw [if_pos c12] at H
            have c12b0 : decide (0 ≤ a0_5) = true := decide_eq_true c12
            clear c12
            by_cases c13 : a0_5 ≤ 1000000
            ·rw [if_pos c13] at H
             have c13b0 : decide (a0_5 ≤ 1000000) = true := decide_eq_true c13
             clear c13
             by_cases c14 : a0_6 ≥ 0
             ·rw [if_pos c14] at H
              have c14b0 : decide (0 ≤ a0_6) = true := decide_eq_true c14
              clear c14
              obtain rfl := Option.some.inj H
              go_enter Try.func30, Try.ntmps30
              go_wp2_with (first | ((with_reducible refine gate_dst (N := 1) rfl ?_); refine box_event ?hg (N := 1) ?hd (cs := #[.int .i64 a0_0, .int .i64 a0_1, .int .i64 a0_2, .int .i64 a0_3, .int .i64 a0_4, .int .i64 a0_5, .int .i64 a0_6]) (t := 30) ?hr ?_; (case hd => rfl); (case hg => rfl); (case hr => first | (go_simp; done) | (go_simp; rfl)); intro gb217 hg w15 hbox hb; have BK217 := a_ (hbox); have GW217 := a_ (bsg hg HB.out); have GE217 := a_ (bsg hg HB.out); replace HB := a_ (below_step (un HB.out) hb); clear hb hbox hg; have hcz16_0 : _ = some (Value.int .i64 a0_0) := (blk_cell BK217.out 0).trans rfl; have hcz16_1 : _ = some (Value.int .i64 a0_1) := (blk_cell BK217.out 1).trans rfl; have hcz16_2 : _ = some (Value.int .i64 a0_2) := (blk_cell BK217.out 2).trans rfl; have hcz16_3 : _ = some (Value.int .i64 a0_3) := (blk_cell BK217.out 3).trans rfl; have hcz16_4 : _ = some (Value.int .i64 a0_4) := (blk_cell BK217.out 4).trans rfl; have hcz16_5 : _ = some (Value.int .i64 a0_5) := (blk_cell BK217.out 5).trans rfl; have hcz16_6 : _ = some (Value.int .i64 a0_6) := (blk_cell BK217.out 6).trans rfl; have hfz16_0 := blk_frozen BK217.out 0; have hfz16_1 := blk_frozen BK217.out 1; have hfz16_2 := blk_frozen BK217.out 2; have hfz16_3 := blk_frozen BK217.out 3; have hfz16_4 := blk_frozen BK217.out 4; have hfz16_5 := blk_frozen BK217.out 5; have hfz16_6 := blk_frozen BK217.out 6))
              go_ret
              exact ⟨by first | rfl | (simp [errW_none, errW_some] <;> rfl) | (simp [*, errW_none, errW_some] <;> rfl), by repeat first | (with_reducible first | exact HB.out | refine bz ?_ (by assumption) | apply bA | apply bN | apply bD) | exact HB.out⟩
             ·rw [if_neg c14] at H
              have c14b0 : decide (0 ≤ a0_6) = false := decide_eq_false c14
              clear c14
              obtain rfl := Option.some.inj H
              go_enter Try.func30, Try.ntmps30
              go_wp2_with (first | ((with_reducible refine gate_dst (N := 1) rfl ?_); refine box_event ?hg (N := 1) ?hd (cs := #[.int .i64 a0_0, .int .i64 a0_1, .int .i64 a0_2, .int .i64 a0_3, .int .i64 a0_4, .int .i64 a0_5, .int .i64 a0_6]) (t := 30) ?hr ?_; (case hd => rfl); (case hg => rfl); (case hr => first | (go_simp; done) | (go_simp; rfl)); intro gb217 hg w17 hbox hb; have BK217 := a_ (hbox); have GW217 := a_ (bsg hg HB.out); have GE217 := a_ (bsg hg HB.out); replace HB := a_ (below_step (un HB.out) hb); clear hb hbox hg; have hcz18_0 : _ = some (Value.int .i64 a0_0) := (blk_cell BK217.out 0).trans rfl; have hcz18_1 : _ = some (Value.int .i64 a0_1) := (blk_cell BK217.out 1).trans rfl; have hcz18_2 : _ = some (Value.int .i64 a0_2) := (blk_cell BK217.out 2).trans rfl; have hcz18_3 : _ = some (Value.int .i64 a0_3) := (blk_cell BK217.out 3).trans rfl; have hcz18_4 : _ = some (Value.int .i64 a0_4) := (blk_cell BK217.out 4).trans rfl; have hcz18_5 : _ = some (Value.int .i64 a0_5) := (blk_cell BK217.out 5).trans rfl; have hcz18_6 : _ = some (Value.int .i64 a0_6) := (blk_cell BK217.out 6).trans rfl; have hfz18_0 := blk_frozen BK217.out 0; have hfz18_1 := blk_frozen BK217.out 1; have hfz18_2 := blk_frozen BK217.out 2; have hfz18_3 := blk_frozen BK217.out 3; have hfz18_4 := blk_frozen BK217.out 4; have hfz18_5 := blk_frozen BK217.out 5; have hfz18_6 := blk_frozen BK217.out 6))
              go_ret
              exact ⟨by first | rfl | (simp [errW_none, errW_some] <;> rfl) | (simp [*, errW_none, errW_some] <;> rfl), by repeat first | (with_reducible first | exact HB.out | refine bz ?_ (by assumption) | apply bA | apply bN | apply bD) | exact HB.out⟩
            ·rw [if_neg c13] at H
             have c13b0 : decide (a0_5 ≤ 1000000) = false := decide_eq_false c13
             clear c13
             obtain rfl := Option.some.inj H
             go_enter Try.func30, Try.ntmps30
             go_wp2_with (first | ((with_reducible refine gate_dst (N := 1) rfl ?_); refine box_event ?hg (N := 1) ?hd (cs := #[.int .i64 a0_0, .int .i64 a0_1, .int .i64 a0_2, .int .i64 a0_3, .int .i64 a0_4, .int .i64 a0_5, .int .i64 a0_6]) (t := 30) ?hr ?_; (case hd => rfl); (case hg => rfl); (case hr => first | (go_simp; done) | (go_simp; rfl)); intro gb217 hg w19 hbox hb; have BK217 := a_ (hbox); have GW217 := a_ (bsg hg HB.out); have GE217 := a_ (bsg hg HB.out); replace HB := a_ (below_step (un HB.out) hb); clear hb hbox hg; have hcz20_0 : _ = some (Value.int .i64 a0_0) := (blk_cell BK217.out 0).trans rfl; have hcz20_1 : _ = some (Value.int .i64 a0_1) := (blk_cell BK217.out 1).trans rfl; have hcz20_2 : _ = some (Value.int .i64 a0_2) := (blk_cell BK217.out 2).trans rfl; have hcz20_3 : _ = some (Value.int .i64 a0_3) := (blk_cell BK217.out 3).trans rfl; have hcz20_4 : _ = some (Value.int .i64 a0_4) := (blk_cell BK217.out 4).trans rfl; have hcz20_5 : _ = some (Value.int .i64 a0_5) := (blk_cell BK217.out 5).trans rfl; have hcz20_6 : _ = some (Value.int .i64 a0_6) := (blk_cell BK217.out 6).trans rfl; have hfz20_0 := blk_frozen BK217.out 0; have hfz20_1 := blk_frozen BK217.out 1; have hfz20_2 := blk_frozen BK217.out 2; have hfz20_3 := blk_frozen BK217.out 3; have hfz20_4 := blk_frozen BK217.out 4; have hfz20_5 := blk_frozen BK217.out 5; have hfz20_6 := blk_frozen BK217.out 6))
             go_ret
             exact ⟨by first | rfl | (simp [errW_none, errW_some] <;> rfl) | (simp [*, errW_none, errW_some] <;> rfl), by repeat first | (with_reducible first | exact HB.out | refine bz ?_ (by assumption) | apply bA | apply bN | apply bD) | exact HB.out⟩
           ·rw [if_neg c12] at H
            have c12b0 : decide (0 ≤ a0_5) = false := decide_eq_false c12
            clear c12
            obtain rfl := Option.some.inj H
            go_enter Try.func30, Try.ntmps30
            go_wp2_with (first | ((with_reducible refine gate_dst (N := 1) rfl ?_); refine box_event ?hg (N := 1) ?hd (cs := #[.int .i64 a0_0, .int .i64 a0_1, .int .i64 a0_2, .int .i64 a0_3, .int .i64 a0_4, .int .i64 a0_5, .int .i64 a0_6]) (t := 30) ?hr ?_; (case hd => rfl); (case hg => rfl); (case hr => first | (go_simp; done) | (go_simp; rfl)); intro gb217 hg w21 hbox hb; have BK217 := a_ (hbox); have GW217 := a_ (bsg hg HB.out); have GE217 := a_ (bsg hg HB.out); replace HB := a_ (below_step (un HB.out) hb); clear hb hbox hg; have hcz22_0 : _ = some (Value.int .i64 a0_0) := (blk_cell BK217.out 0).trans rfl; have hcz22_1 : _ = some (Value.int .i64 a0_1) := (blk_cell BK217.out 1).trans rfl; have hcz22_2 : _ = some (Value.int .i64 a0_2) := (blk_cell BK217.out 2).trans rfl; have hcz22_3 : _ = some (Value.int .i64 a0_3) := (blk_cell BK217.out 3).trans rfl; have hcz22_4 : _ = some (Value.int .i64 a0_4) := (blk_cell BK217.out 4).trans rfl; have hcz22_5 : _ = some (Value.int .i64 a0_5) := (blk_cell BK217.out 5).trans rfl; have hcz22_6 : _ = some (Value.int .i64 a0_6) := (blk_cell BK217.out 6).trans rfl; have hfz22_0 := blk_frozen BK217.out 0; have hfz22_1 := blk_frozen BK217.out 1; have hfz22_2 := blk_frozen BK217.out 2; have hfz22_3 := blk_frozen BK217.out 3; have hfz22_4 := blk_frozen BK217.out 4; have hfz22_5 := blk_frozen BK217.out 5; have hfz22_6 := blk_frozen BK217.out 6))
            go_ret
            exact ⟨by first | rfl | (simp [errW_none, errW_some] <;> rfl) | (simp [*, errW_none, errW_some] <;> rfl), by repeat first | (with_reducible first | exact HB.out | refine bz ?_ (by assumption) | apply bA | apply bN | apply bD) | exact HB.out⟩
          ·rw [if_neg c11] at H
           have c11b0 : decide (a0_4 ≤ 1000000) = false := decide_eq_false c11
           clear c11
           obtain rfl := Option.some.inj H
           go_enter Try.func30, Try.ntmps30
           go_wp2_with (first | ((with_reducible refine gate_dst (N := 1) rfl ?_); refine box_event ?hg (N := 1) ?hd (cs := #[.int .i64 a0_0, .int .i64 a0_1, .int .i64 a0_2, .int .i64 a0_3, .int .i64 a0_4, .int .i64 a0_5, .int .i64 a0_6]) (t := 30) ?hr ?_; (case hd => rfl); (case hg => rfl); (case hr => first | (go_simp; done) | (go_simp; rfl)); intro gb217 hg w23 hbox hb; have BK217 := a_ (hbox); have GW217 := a_ (bsg hg HB.out); have GE217 := a_ (bsg hg HB.out); replace HB := a_ (below_step (un HB.out) hb); clear hb hbox hg; have hcz24_0 : _ = some (Value.int .i64 a0_0) := (blk_cell BK217.out 0).trans rfl; have hcz24_1 : _ = some (Value.int .i64 a0_1) := (blk_cell BK217.out 1).trans rfl; have hcz24_2 : _ = some (Value.int .i64 a0_2) := (blk_cell BK217.out 2).trans rfl; have hcz24_3 : _ = some (Value.int .i64 a0_3) := (blk_cell BK217.out 3).trans rfl; have hcz24_4 : _ = some (Value.int .i64 a0_4) := (blk_cell BK217.out 4).trans rfl; have hcz24_5 : _ = some (Value.int .i64 a0_5) := (blk_cell BK217.out 5).trans rfl; have hcz24_6 : _ = some (Value.int .i64 a0_6) := (blk_cell BK217.out 6).trans rfl; have hfz24_0 := blk_frozen BK217.out 0; have hfz24_1 := blk_frozen BK217.out 1; have hfz24_2 := blk_frozen BK217.out 2; have hfz24_3 := blk_frozen BK217.out 3; have hfz24_4 := blk_frozen BK217.out 4; have hfz24_5 := blk_frozen BK217.out 5; have hfz24_6 := blk_frozen BK217.out 6))
           go_ret
           exact ⟨by first | rfl | (simp [errW_none, errW_some] <;> rfl) | (simp [*, errW_none, errW_some] <;> rfl), by repeat first | (with_reducible first | exact HB.out | refine bz ?_ (by assumption) | apply bA | apply bN | apply bD) | exact HB.out⟩
         ·rw [if_neg c10] at H
          have c10b0 : decide (1 ≤ a0_4) = false := decide_eq_false c10
          clear c10
          obtain rfl := Option.some.inj H
          go_enter Try.func30, Try.ntmps30
          go_wp2_with (first | ((with_reducible refine gate_dst (N := 1) rfl ?_); refine box_event ?hg (N := 1) ?hd (cs := #[.int .i64 a0_0, .int .i64 a0_1, .int .i64 a0_2, .int .i64 a0_3, .int .i64 a0_4, .int .i64 a0_5, .int .i64 a0_6]) (t := 30) ?hr ?_; (case hd => rfl); (case hg => rfl); (case hr => first | (go_simp; done) | (go_simp; rfl)); intro gb217 hg w25 hbox hb; have BK217 := a_ (hbox); have GW217 := a_ (bsg hg HB.out); have GE217 := a_ (bsg hg HB.out); replace HB := a_ (below_step (un HB.out) hb); clear hb hbox hg; have hcz26_0 : _ = some (Value.int .i64 a0_0) := (blk_cell BK217.out 0).trans rfl; have hcz26_1 : _ = some (Value.int .i64 a0_1) := (blk_cell BK217.out 1).trans rfl; have hcz26_2 : _ = some (Value.int .i64 a0_2) := (blk_cell BK217.out 2).trans rfl; have hcz26_3 : _ = some (Value.int .i64 a0_3) := (blk_cell BK217.out 3).trans rfl; have hcz26_4 : _ = some (Value.int .i64 a0_4) := (blk_cell BK217.out 4).trans rfl; have hcz26_5 : _ = some (Value.int .i64 a0_5) := (blk_cell BK217.out 5).trans rfl; have hcz26_6 : _ = some (Value.int .i64 a0_6) := (blk_cell BK217.out 6).trans rfl; have hfz26_0 := blk_frozen BK217.out 0; have hfz26_1 := blk_frozen BK217.out 1; have hfz26_2 := blk_frozen BK217.out 2; have hfz26_3 := blk_frozen BK217.out 3; have hfz26_4 := blk_frozen BK217.out 4; have hfz26_5 := blk_frozen BK217.out 5; have hfz26_6 := blk_frozen BK217.out 6))
          go_ret
          exact ⟨by first | rfl | (simp [errW_none, errW_some] <;> rfl) | (simp [*, errW_none, errW_some] <;> rfl), by repeat first | (with_reducible first | exact HB.out | refine bz ?_ (by assumption) | apply bA | apply bN | apply bD) | exact HB.out⟩
        ·rw [if_neg c9] at H
         have c9b0 : decide (a0_3 ≤ 1000) = false := decide_eq_false c9
         clear c9
         obtain rfl := Option.some.inj H
         go_enter Try.func30, Try.ntmps30
         go_wp2_with (first | ((with_reducible refine gate_dst (N := 1) rfl ?_); refine box_event ?hg (N := 1) ?hd (cs := #[.int .i64 a0_0, .int .i64 a0_1, .int .i64 a0_2, .int .i64 a0_3, .int .i64 a0_4, .int .i64 a0_5, .int .i64 a0_6]) (t := 30) ?hr ?_; (case hd => rfl); (case hg => rfl); (case hr => first | (go_simp; done) | (go_simp; rfl)); intro gb217 hg w27 hbox hb; have BK217 := a_ (hbox); have GW217 := a_ (bsg hg HB.out); have GE217 := a_ (bsg hg HB.out); replace HB := a_ (below_step (un HB.out) hb); clear hb hbox hg; have hcz28_0 : _ = some (Value.int .i64 a0_0) := (blk_cell BK217.out 0).trans rfl; have hcz28_1 : _ = some (Value.int .i64 a0_1) := (blk_cell BK217.out 1).trans rfl; have hcz28_2 : _ = some (Value.int .i64 a0_2) := (blk_cell BK217.out 2).trans rfl; have hcz28_3 : _ = some (Value.int .i64 a0_3) := (blk_cell BK217.out 3).trans rfl; have hcz28_4 : _ = some (Value.int .i64 a0_4) := (blk_cell BK217.out 4).trans rfl; have hcz28_5 : _ = some (Value.int .i64 a0_5) := (blk_cell BK217.out 5).trans rfl; have hcz28_6 : _ = some (Value.int .i64 a0_6) := (blk_cell BK217.out 6).trans rfl; have hfz28_0 := blk_frozen BK217.out 0; have hfz28_1 := blk_frozen BK217.out 1; have hfz28_2 := blk_frozen BK217.out 2; have hfz28_3 := blk_frozen BK217.out 3; have hfz28_4 := blk_frozen BK217.out 4; have hfz28_5 := blk_frozen BK217.out 5; have hfz28_6 := blk_frozen BK217.out 6))
         go_ret
         exact ⟨by first | rfl | (simp [errW_none, errW_some] <;> rfl) | (simp [*, errW_none, errW_some] <;> rfl), by repeat first | (with_reducible first | exact HB.out | refine bz ?_ (by assumption) | apply bA | apply bN | apply bD) | exact HB.out⟩
       ·rw [if_neg c8] at H
        have c8b0 : decide (1 ≤ a0_3) = false := decide_eq_false c8
        clear c8
        obtain rfl := Option.some.inj H
        go_enter Try.func30, Try.ntmps30
        go_wp2_with (first | ((with_reducible refine gate_dst (N := 1) rfl ?_); refine box_event ?hg (N := 1) ?hd (cs := #[.int .i64 a0_0, .int .i64 a0_1, .int .i64 a0_2, .int .i64 a0_3, .int .i64 a0_4, .int .i64 a0_5, .int .i64 a0_6]) (t := 30) ?hr ?_; (case hd => rfl); (case hg => rfl); (case hr => first | (go_simp; done) | (go_simp; rfl)); intro gb217 hg w29 hbox hb; have BK217 := a_ (hbox); have GW217 := a_ (bsg hg HB.out); have GE217 := a_ (bsg hg HB.out); replace HB := a_ (below_step (un HB.out) hb); clear hb hbox hg; have hcz30_0 : _ = some (Value.int .i64 a0_0) := (blk_cell BK217.out 0).trans rfl; have hcz30_1 : _ = some (Value.int .i64 a0_1) := (blk_cell BK217.out 1).trans rfl; have hcz30_2 : _ = some (Value.int .i64 a0_2) := (blk_cell BK217.out 2).trans rfl; have hcz30_3 : _ = some (Value.int .i64 a0_3) := (blk_cell BK217.out 3).trans rfl; have hcz30_4 : _ = some (Value.int .i64 a0_4) := (blk_cell BK217.out 4).trans rfl; have hcz30_5 : _ = some (Value.int .i64 a0_5) := (blk_cell BK217.out 5).trans rfl; have hcz30_6 : _ = some (Value.int .i64 a0_6) := (blk_cell BK217.out 6).trans rfl; have hfz30_0 := blk_frozen BK217.out 0; have hfz30_1 := blk_frozen BK217.out 1; have hfz30_2 := blk_frozen BK217.out 2; have hfz30_3 := blk_frozen BK217.out 3; have hfz30_4 := blk_frozen BK217.out 4; have hfz30_5 := blk_frozen BK217.out 5; have hfz30_6 := blk_frozen BK217.out 6))
        go_ret
        exact ⟨by first | rfl | (simp [errW_none, errW_some] <;> rfl) | (simp [*, errW_none, errW_some] <;> rfl), by repeat first | (with_reducible first | exact HB.out | refine bz ?_ (by assumption) | apply bA | apply bN | apply bD) | exact HB.out⟩
      ·rw [if_neg c7] at H
       have c7b0 : decide (a0_2 ≤ 1000) = false := decide_eq_false c7
       clear c7
       obtain rfl := Option.some.inj H
       go_enter Try.func30, Try.ntmps30
       go_wp2_with (first | ((with_reducible refine gate_dst (N := 1) rfl ?_); refine box_event ?hg (N := 1) ?hd (cs := #[.int .i64 a0_0, .int .i64 a0_1, .int .i64 a0_2, .int .i64 a0_3, .int .i64 a0_4, .int .i64 a0_5, .int .i64 a0_6]) (t := 30) ?hr ?_; (case hd => rfl); (case hg => rfl); (case hr => first | (go_simp; done) | (go_simp; rfl)); intro gb217 hg w31 hbox hb; have BK217 := a_ (hbox); have GW217 := a_ (bsg hg HB.out); have GE217 := a_ (bsg hg HB.out); replace HB := a_ (below_step (un HB.out) hb); clear hb hbox hg; have hcz32_0 : _ = some (Value.int .i64 a0_0) := (blk_cell BK217.out 0).trans rfl; have hcz32_1 : _ = some (Value.int .i64 a0_1) := (blk_cell BK217.out 1).trans rfl; have hcz32_2 : _ = some (Value.int .i64 a0_2) := (blk_cell BK217.out 2).trans rfl; have hcz32_3 : _ = some (Value.int .i64 a0_3) := (blk_cell BK217.out 3).trans rfl; have hcz32_4 : _ = some (Value.int .i64 a0_4) := (blk_cell BK217.out 4).trans rfl; have hcz32_5 : _ = some (Value.int .i64 a0_5) := (blk_cell BK217.out 5).trans rfl; have hcz32_6 : _ = some (Value.int .i64 a0_6) := (blk_cell BK217.out 6).trans rfl; have hfz32_0 := blk_frozen BK217.out 0; have hfz32_1 := blk_frozen BK217.out 1; have hfz32_2 := blk_frozen BK217.out 2; have hfz32_3 := blk_frozen BK217.out 3; have hfz32_4 := blk_frozen BK217.out 4; have hfz32_5 := blk_frozen BK217.out 5; have hfz32_6 := blk_frozen BK217.out 6))
       go_ret
       exact ⟨by first | rfl | (simp [errW_none, errW_some] <;> rfl) | (simp [*, errW_none, errW_some] <;> rfl), by repeat first | (with_reducible first | exact HB.out | refine bz ?_ (by assumption) | apply bA | apply bN | apply bD) | exact HB.out⟩
     ·rw [if_neg c6] at H
      have c6b0 : decide (0 ≤ a0_2) = false := decide_eq_false c6
      clear c6
      obtain rfl := Option.some.inj H
      go_enter Try.func30, Try.ntmps30
      go_wp2_with (first | ((with_reducible refine gate_dst (N := 1) rfl ?_); refine box_event ?hg (N := 1) ?hd (cs := #[.int .i64 a0_0, .int .i64 a0_1, .int .i64 a0_2, .int .i64 a0_3, .int .i64 a0_4, .int .i64 a0_5, .int .i64 a0_6]) (t := 30) ?hr ?_; (case hd => rfl); (case hg => rfl); (case hr => first | (go_simp; done) | (go_simp; rfl)); intro gb217 hg w33 hbox hb; have BK217 := a_ (hbox); have GW217 := a_ (bsg hg HB.out); have GE217 := a_ (bsg hg HB.out); replace HB := a_ (below_step (un HB.out) hb); clear hb hbox hg; have hcz34_0 : _ = some (Value.int .i64 a0_0) := (blk_cell BK217.out 0).trans rfl; have hcz34_1 : _ = some (Value.int .i64 a0_1) := (blk_cell BK217.out 1).trans rfl; have hcz34_2 : _ = some (Value.int .i64 a0_2) := (blk_cell BK217.out 2).trans rfl; have hcz34_3 : _ = some (Value.int .i64 a0_3) := (blk_cell BK217.out 3).trans rfl; have hcz34_4 : _ = some (Value.int .i64 a0_4) := (blk_cell BK217.out 4).trans rfl; have hcz34_5 : _ = some (Value.int .i64 a0_5) := (blk_cell BK217.out 5).trans rfl; have hcz34_6 : _ = some (Value.int .i64 a0_6) := (blk_cell BK217.out 6).trans rfl; have hfz34_0 := blk_frozen BK217.out 0; have hfz34_1 := blk_frozen BK217.out 1; have hfz34_2 := blk_frozen BK217.out 2; have hfz34_3 := blk_frozen BK217.out 3; have hfz34_4 := blk_frozen BK217.out 4; have hfz34_5 := blk_frozen BK217.out 5; have hfz34_6 := blk_frozen BK217.out 6))
      go_ret
      exact ⟨by first | rfl | (simp [errW_none, errW_some] <;> rfl) | (simp [*, errW_none, errW_some] <;> rfl), by repeat first | (with_reducible first | exact HB.out | refine bz ?_ (by assumption) | apply bA | apply bN | apply bD) | exact HB.out⟩
    ·rw [if_neg c5] at H
     have c5b0 : decide (a0_1 ≤ 1000) = false := decide_eq_false c5
     clear c5
     obtain rfl := Option.some.inj H
     go_enter Try.func30, Try.ntmps30
     go_wp2_with (first | ((with_reducible refine gate_dst (N := 1) rfl ?_); refine box_event ?hg (N := 1) ?hd (cs := #[.int .i64 a0_0, .int .i64 a0_1, .int .i64 a0_2, .int .i64 a0_3, .int .i64 a0_4, .int .i64 a0_5, .int .i64 a0_6]) (t := 30) ?hr ?_; (case hd => rfl); (case hg => rfl); (case hr => first | (go_simp; done) | (go_simp; rfl)); intro gb217 hg w35 hbox hb; have BK217 := a_ (hbox); have GW217 := a_ (bsg hg HB.out); have GE217 := a_ (bsg hg HB.out); replace HB := a_ (below_step (un HB.out) hb); clear hb hbox hg; have hcz36_0 : _ = some (Value.int .i64 a0_0) := (blk_cell BK217.out 0).trans rfl; have hcz36_1 : _ = some (Value.int .i64 a0_1) := (blk_cell BK217.out 1).trans rfl; have hcz36_2 : _ = some (Value.int .i64 a0_2) := (blk_cell BK217.out 2).trans rfl; have hcz36_3 : _ = some (Value.int .i64 a0_3) := (blk_cell BK217.out 3).trans rfl; have hcz36_4 : _ = some (Value.int .i64 a0_4) := (blk_cell BK217.out 4).trans rfl; have hcz36_5 : _ = some (Value.int .i64 a0_5) := (blk_cell BK217.out 5).trans rfl; have hcz36_6 : _ = some (Value.int .i64 a0_6) := (blk_cell BK217.out 6).trans rfl; have hfz36_0 := blk_frozen BK217.out 0; have hfz36_1 := blk_frozen BK217.out 1; have hfz36_2 := blk_frozen BK217.out 2; have hfz36_3 := blk_frozen BK217.out 3; have hfz36_4 := blk_frozen BK217.out 4; have hfz36_5 := blk_frozen BK217.out 5; have hfz36_6 := blk_frozen BK217.out 6))
     go_ret
     exact ⟨by first | rfl | (simp [errW_none, errW_some] <;> rfl) | (simp [*, errW_none, errW_some] <;> rfl), by repeat first | (with_reducible first | exact HB.out | refine bz ?_ (by assumption) | apply bA | apply bN | apply bD) | exact HB.out⟩
   ·rw [if_neg c4] at H
    have c4b0 : decide (0 ≤ a0_1) = false := decide_eq_false c4
    clear c4
    obtain rfl := Option.some.inj H
    go_enter Try.func30, Try.ntmps30
    go_wp2_with (first | ((with_reducible refine gate_dst (N := 1) rfl ?_); refine box_event ?hg (N := 1) ?hd (cs := #[.int .i64 a0_0, .int .i64 a0_1, .int .i64 a0_2, .int .i64 a0_3, .int .i64 a0_4, .int .i64 a0_5, .int .i64 a0_6]) (t := 30) ?hr ?_; (case hd => rfl); (case hg => rfl); (case hr => first | (go_simp; done) | (go_simp; rfl)); intro gb217 hg w37 hbox hb; have BK217 := a_ (hbox); have GW217 := a_ (bsg hg HB.out); have GE217 := a_ (bsg hg HB.out); replace HB := a_ (below_step (un HB.out) hb); clear hb hbox hg; have hcz38_0 : _ = some (Value.int .i64 a0_0) := (blk_cell BK217.out 0).trans rfl; have hcz38_1 : _ = some (Value.int .i64 a0_1) := (blk_cell BK217.out 1).trans rfl; have hcz38_2 : _ = some (Value.int .i64 a0_2) := (blk_cell BK217.out 2).trans rfl; have hcz38_3 : _ = some (Value.int .i64 a0_3) := (blk_cell BK217.out 3).trans rfl; have hcz38_4 : _ = some (Value.int .i64 a0_4) := (blk_cell BK217.out 4).trans rfl; have hcz38_5 : _ = some (Value.int .i64 a0_5) := (blk_cell BK217.out 5).trans rfl; have hcz38_6 : _ = some (Value.int .i64 a0_6) := (blk_cell BK217.out 6).trans rfl; have hfz38_0 := blk_frozen BK217.out 0; have hfz38_1 := blk_frozen BK217.out 1; have hfz38_2 := blk_frozen BK217.out 2; have hfz38_3 := blk_frozen BK217.out 3; have hfz38_4 := blk_frozen BK217.out 4; have hfz38_5 := blk_frozen BK217.out 5; have hfz38_6 := blk_frozen BK217.out 6))
    go_ret
    exact ⟨by first | rfl | (simp [errW_none, errW_some] <;> rfl) | (simp [*, errW_none, errW_some] <;> rfl), by repeat first | (with_reducible first | exact HB.out | refine bz ?_ (by assumption) | apply bA | apply bN | apply bD) | exact HB.out⟩
  ·rw [if_neg c3] at H
   have c3b0 : decide (a0_0 ≤ 1000) = false := decide_eq_false c3
   clear c3
   obtain rfl := Option.some.inj H
   go_enter Try.func30, Try.ntmps30
   go_wp2_with (first | ((with_reducible refine gate_dst (N := 1) rfl ?_); refine box_event ?hg (N := 1) ?hd (cs := #[.int .i64 a0_0, .int .i64 a0_1, .int .i64 a0_2, .int .i64 a0_3, .int .i64 a0_4, .int .i64 a0_5, .int .i64 a0_6]) (t := 30) ?hr ?_; (case hd => rfl); (case hg => rfl); (case hr => first | (go_simp; done) | (go_simp; rfl)); intro gb217 hg w39 hbox hb; have BK217 := a_ (hbox); have GW217 := a_ (bsg hg HB.out); have GE217 := a_ (bsg hg HB.out); replace HB := a_ (below_step (un HB.out) hb); clear hb hbox hg; have hcz40_0 : _ = some (Value.int .i64 a0_0) := (blk_cell BK217.out 0).trans rfl; have hcz40_1 : _ = some (Value.int .i64 a0_1) := (blk_cell BK217.out 1).trans rfl; have hcz40_2 : _ = some (Value.int .i64 a0_2) := (blk_cell BK217.out 2).trans rfl; have hcz40_3 : _ = some (Value.int .i64 a0_3) := (blk_cell BK217.out 3).trans rfl; have hcz40_4 : _ = some (Value.int .i64 a0_4) := (blk_cell BK217.out 4).trans rfl; have hcz40_5 : _ = some (Value.int .i64 a0_5) := (blk_cell BK217.out 5).trans rfl; have hcz40_6 : _ = some (Value.int .i64 a0_6) := (blk_cell BK217.out 6).trans rfl; have hfz40_0 := blk_frozen BK217.out 0; have hfz40_1 := blk_frozen BK217.out 1; have hfz40_2 := blk_frozen BK217.out 2; have hfz40_3 := blk_frozen BK217.out 3; have hfz40_4 := blk_frozen BK217.out 4; have hfz40_5 := blk_frozen BK217.out 5; have hfz40_6 := blk_frozen BK217.out 6))
   go_ret
   exact ⟨by first | rfl | (simp [errW_none, errW_some] <;> rfl) | (simp [*, errW_none, errW_some] <;> rfl), by repeat first | (with_reducible first | exact HB.out | refine bz ?_ (by assumption) | apply bA | apply bN | apply bD) | exact HB.out⟩
 ·rw [if_neg c2] at H
  have c2b0 : decide (0 ≤ a0_0) = false := decide_eq_false c2
  clear c2
  obtain rfl := Option.some.inj H
  go_enter Try.func30, Try.ntmps30
  go_wp2_with (first | ((with_reducible refine gate_dst (N := 1) rfl ?_); refine box_event ?hg (N := 1) ?hd (cs := #[.int .i64 a0_0, .int .i64 a0_1, .int .i64 a0_2, .int .i64 a0_3, .int .i64 a0_4, .int .i64 a0_5, .int .i64 a0_6]) (t := 30) ?hr ?_; (case hd => rfl); (case hg => rfl); (case hr => first | (go_simp; done) | (go_simp; rfl)); intro gb217 hg w41 hbox hb; have BK217 := a_ (hbox); have GW217 := a_ (bsg hg HB.out); have GE217 := a_ (bsg hg HB.out); replace HB := a_ (below_step (un HB.out) hb); clear hb hbox hg; have hcz42_0 : _ = some (Value.int .i64 a0_0) := (blk_cell BK217.out 0).trans rfl; have hcz42_1 : _ = some (Value.int .i64 a0_1) := (blk_cell BK217.out 1).trans rfl; have hcz42_2 : _ = some (Value.int .i64 a0_2) := (blk_cell BK217.out 2).trans rfl; have hcz42_3 : _ = some (Value.int .i64 a0_3) := (blk_cell BK217.out 3).trans rfl; have hcz42_4 : _ = some (Value.int .i64 a0_4) := (blk_cell BK217.out 4).trans rfl; have hcz42_5 : _ = some (Value.int .i64 a0_5) := (blk_cell BK217.out 5).trans rfl; have hcz42_6 : _ = some (Value.int .i64 a0_6) := (blk_cell BK217.out 6).trans rfl; have hfz42_0 := blk_frozen BK217.out 0; have hfz42_1 := blk_frozen BK217.out 1; have hfz42_2 := blk_frozen BK217.out 2; have hfz42_3 := blk_frozen BK217.out 3; have hfz42_4 := blk_frozen BK217.out 4; have hfz42_5 := blk_frozen BK217.out 5; have hfz42_6 := blk_frozen BK217.out 6))
  go_ret
  exact ⟨by first | rfl | (simp [errW_none, errW_some] <;> rfl) | (simp [*, errW_none, errW_some] <;> rfl), by repeat first | (with_reducible first | exact HB.out | refine bz ?_ (by assumption) | apply bA | apply bN | apply bD) | exact HB.out⟩

end Go.Proofs.Ytineniimpdjpnaa.PFnGains
