-- Written by a program of this session out of the loaded functions' print; helper lemmas as print.sh lays them.
import Derived.Test.YtineniimpdjpnaaUp
import Derived.Test.YtineniimpdjpnaaRFnHoldx0
import Derived.Test.YtineniimpdjpnaaRFnHoldx1
namespace Go.Proofs.Ytineniimpdjpnaa.PFnHold
open Go.RowKit Go.Proofs.YtineniimpdjpnaaW.PrintWords Go.Proofs.YtineniimpdjpnaaW.PrintLast Go.Proofs.YtineniimpdjpnaaW.PrintMore
attribute [local go_sem] max2_int min2_int max_two min_two max_three min_three max_four min_four  -- for this text's walks alone
set_option linter.unusedVariables false
set_option linter.unusedSimpArgs false

attribute [local go_sem high] eqA27
/-! ### impl_between: function 44 -/
def impl_between.f (a0 : Int) (a1 : Int) (a2 : Int) : Option (Bool) := if a0 ≥ a1 then (some (decide (a0 ≤ a2))) else (some false)
set_option maxHeartbeats 8000000 in
set_option maxRecDepth 100000 in
theorem impl_between.calls (a0 : Int) (a1 : Int) (a2 : Int) (r : Bool) (w : World) (h : impl_between.f a0 a1 a2 = some r) :
  Calls Try.prog 44 #[.int .i64 a0, .int .i64 a1, .int .i64 a2] w fun e w' => e = .returned (.bool r) ∧ Drawn0 w w' := by
 have H : (if a0 ≥ a1 then (some (decide (a0 ≤ a2))) else (some false)) = some r := h
 clear h
 by_cases c4 : a0 ≥ a1
 ·rw [if_pos c4] at H
  have c4b0 : decide (a1 ≤ a0) = true := decide_eq_true c4
  clear c4
  obtain rfl := Option.some.inj H
  go_enter Try.func44, Try.ntmps44
  go_wp2
  go_ret
  exact ⟨by first | rfl | (simp; done) | (simp [*]; done), by repeat (first | exact Drawn0.refl _ | apply Drawn0.step)⟩
 ·rw [if_neg c4] at H
  have c4b0 : decide (a1 ≤ a0) = false := decide_eq_false c4
  clear c4
  obtain rfl := Option.some.inj H
  go_enter Try.func44, Try.ntmps44
  go_wp2
  go_ret
  exact ⟨by first | rfl | (simp; done) | (simp [*]; done), by repeat (first | exact Drawn0.refl _ | apply Drawn0.step)⟩

/-! ### impl_GoodLoop: function 29 -/
def impl_GoodLoop.f (a0_0 : Int) (a0_1 : Int) (a0_2 : Int) (a0_3 : Int) (a0_4 : Int) (a0_5 : Int) (a0_6 : Int) : Option (Bool) := (impl_between.f a0_0 0 1000).bind fun t137 => (if t137 = true then ((impl_between.f a0_1 0 1000).bind fun t138 => (if t138 = true then ((impl_between.f a0_2 0 1000).bind fun t139 => (if t139 = true then ((impl_between.f a0_3 1 1000).bind fun t140 => (if t140 = true then ((impl_between.f a0_4 1 1000000).bind fun t141 => (if t141 = true then ((impl_between.f a0_5 0 1000000).bind fun t142 => (if t142 = true then ((impl_between.f a0_6 0 1000000).bind fun t143 => (some t143)) else (some false))) else (some false))) else (some false))) else (some false))) else (some false))) else (some false))
set_option maxHeartbeats 8000000 in
set_option maxRecDepth 100000 in
theorem impl_GoodLoop.calls (a0_0 : Int) (a0_1 : Int) (a0_2 : Int) (a0_3 : Int) (a0_4 : Int) (a0_5 : Int) (a0_6 : Int) (r : Bool) (w : World) (h : impl_GoodLoop.f a0_0 a0_1 a0_2 a0_3 a0_4 a0_5 a0_6 = some r) :
  Calls Try.prog 29 #[.agg #[.int .i64 a0_0, .int .i64 a0_1, .int .i64 a0_2, .int .i64 a0_3, .int .i64 a0_4, .int .i64 a0_5, .int .i64 a0_6]] w fun e w' => e = .returned (.bool r) ∧ Below w.heap.size w w' := by
 have hu30 := Try.underlying30
 have HB := a_ (Below.refl w.heap.size w)
 have H : ((impl_between.f a0_0 0 1000).bind fun t137 => (if t137 = true then ((impl_between.f a0_1 0 1000).bind fun t138 => (if t138 = true then ((impl_between.f a0_2 0 1000).bind fun t139 => (if t139 = true then ((impl_between.f a0_3 1 1000).bind fun t140 => (if t140 = true then ((impl_between.f a0_4 1 1000000).bind fun t141 => (if t141 = true then ((impl_between.f a0_5 0 1000000).bind fun t142 => (if t142 = true then ((impl_between.f a0_6 0 1000000).bind fun t143 => (some t143)) else (some false))) else (some false))) else (some false))) else (some false))) else (some false))) else (some false))) = some r := h
 clear h
 replace H := Option.bind_eq_some_iff.mp H
 obtain ⟨t137, A20, H⟩ := H
 have A2 := Aside0.mk A20
 clear A20
 by_cases c3 : t137 = true
 ·subst c3
  have H1 : ((impl_between.f a0_1 0 1000).bind fun t138 => (if t138 = true then ((impl_between.f a0_2 0 1000).bind fun t139 => (if t139 = true then ((impl_between.f a0_3 1 1000).bind fun t140 => (if t140 = true then ((impl_between.f a0_4 1 1000000).bind fun t141 => (if t141 = true then ((impl_between.f a0_5 0 1000000).bind fun t142 => (if t142 = true then ((impl_between.f a0_6 0 1000000).bind fun t143 => (some t143)) else (some false))) else (some false))) else (some false))) else (some false))) else (some false))) = some r := by rw [if_pos rfl] at H; exact H
  clear H
  have H := H1
  clear H1
  replace H := Option.bind_eq_some_iff.mp H
  obtain ⟨t138, A40, H⟩ := H
  have A4 := Aside0.mk A40
  clear A40
  by_cases c5 : t138 = true
  ·subst c5
   have H1 : ((impl_between.f a0_2 0 1000).bind fun t139 => (if t139 = true then ((impl_between.f a0_3 1 1000).bind fun t140 => (if t140 = true then ((impl_between.f a0_4 1 1000000).bind fun t141 => (if t141 = true then ((impl_between.f a0_5 0 1000000).bind fun t142 => (if t142 = true then ((impl_between.f a0_6 0 1000000).bind fun t143 => (some t143)) else (some false))) else (some false))) else (some false))) else (some false))) = some r := by rw [if_pos rfl] at H; exact H
   clear H
   have H := H1
   clear H1
   replace H := Option.bind_eq_some_iff.mp H
   obtain ⟨t139, A60, H⟩ := H
   have A6 := Aside0.mk A60
   clear A60
   by_cases c7 : t139 = true
   ·subst c7
    have H1 : ((impl_between.f a0_3 1 1000).bind fun t140 => (if t140 = true then ((impl_between.f a0_4 1 1000000).bind fun t141 => (if t141 = true then ((impl_between.f a0_5 0 1000000).bind fun t142 => (if t142 = true then ((impl_between.f a0_6 0 1000000).bind fun t143 => (some t143)) else (some false))) else (some false))) else (some false))) = some r := by rw [if_pos rfl] at H; exact H
    clear H
    have H := H1
    clear H1
    replace H := Option.bind_eq_some_iff.mp H
    obtain ⟨t140, A80, H⟩ := H
    have A8 := Aside0.mk A80
    clear A80
    by_cases c9 : t140 = true
    ·subst c9
     have H1 : ((impl_between.f a0_4 1 1000000).bind fun t141 => (if t141 = true then ((impl_between.f a0_5 0 1000000).bind fun t142 => (if t142 = true then ((impl_between.f a0_6 0 1000000).bind fun t143 => (some t143)) else (some false))) else (some false))) = some r := by rw [if_pos rfl] at H; exact H
     clear H
     have H := H1
     clear H1
     replace H := Option.bind_eq_some_iff.mp H
     obtain ⟨t141, A100, H⟩ := H
     have A10 := Aside0.mk A100
     clear A100
     by_cases c11 : t141 = true
     ·subst c11
      have H1 : ((impl_between.f a0_5 0 1000000).bind fun t142 => (if t142 = true then ((impl_between.f a0_6 0 1000000).bind fun t143 => (some t143)) else (some false))) = some r := by rw [if_pos rfl] at H; exact H
      clear H
      have H := H1
      clear H1
      replace H := Option.bind_eq_some_iff.mp H
      obtain ⟨t142, A120, H⟩ := H
      have A12 := Aside0.mk A120
      clear A120
      by_cases c13 : t142 = true
      ·subst c13
       have H1 : ((impl_between.f a0_6 0 1000000).bind fun t143 => (some t143)) = some r := by rw [if_pos rfl] at H; exact H
       clear H
       have H := H1
       clear H1
       replace H := Option.bind_eq_some_iff.mp H
       obtain ⟨t143, A140, H⟩ := H
       have A14 := Aside0.mk A140
       clear A140
       obtain rfl := Option.some.inj H
       go_enter Try.func29, Try.ntmps29
       go_wp2_with (first | ((with_reducible refine gate_dst (N := 1) rfl ?_); refine box_event ?hg (N := 1) ?hd (cs := #[.int .i64 a0_0, .int .i64 a0_1, .int .i64 a0_2, .int .i64 a0_3, .int .i64 a0_4, .int .i64 a0_5, .int .i64 a0_6]) (t := 30) ?hr ?_; (case hd => rfl); (case hg => rfl); (case hr => first | (go_simp; done) | (go_simp; rfl)); intro gb136 hg w15 hbox hb; have BK136 := a_ (hbox); have GW136 := a_ (bsg hg HB.out); have GE136 := a_ (bsg hg HB.out); replace HB := a_ (below_step (un HB.out) hb); clear hb hbox hg; have hcz16_0 : _ = some (Value.int .i64 a0_0) := (blk_cell BK136.out 0).trans rfl; have hcz16_1 : _ = some (Value.int .i64 a0_1) := (blk_cell BK136.out 1).trans rfl; have hcz16_2 : _ = some (Value.int .i64 a0_2) := (blk_cell BK136.out 2).trans rfl; have hcz16_3 : _ = some (Value.int .i64 a0_3) := (blk_cell BK136.out 3).trans rfl; have hcz16_4 : _ = some (Value.int .i64 a0_4) := (blk_cell BK136.out 4).trans rfl; have hcz16_5 : _ = some (Value.int .i64 a0_5) := (blk_cell BK136.out 5).trans rfl; have hcz16_6 : _ = some (Value.int .i64 a0_6) := (blk_cell BK136.out 6).trans rfl; have hfz16_0 := blk_frozen BK136.out 0; have hfz16_1 := blk_frozen BK136.out 1; have hfz16_2 := blk_frozen BK136.out 2; have hfz16_3 := blk_frozen BK136.out 3; have hfz16_4 := blk_frozen BK136.out 4; have hfz16_5 := blk_frozen BK136.out 5; have hfz16_6 := blk_frozen BK136.out 6) | ((with_reducible refine gate_callee (f := 44) rfl ?_); refine goesL_ (some 5) rfl rfl Try.func44 (by kernel_rfl) rfl #[.int .i64 a0_0, .int .i64 0, .int .i64 1000] rfl (by (try simp only [lA, lB, lC]); first | done | rfl | (simp only [lD, lE]; rfl)) ?_; (with_reducible refine (impl_between.calls a0_0 0 1000 true _ A2.out).mono ?_); rintro e w' ⟨rfl, ⟨nd, rfl⟩⟩; refine ⟨_, rfl, ?_⟩) | (go_at_call 44; (with_reducible refine (impl_between.calls a0_1 0 1000 true _ A4.out).mono ?_); rintro e w' ⟨rfl, ⟨nd, rfl⟩⟩) | (go_at_call 44; (with_reducible refine (impl_between.calls a0_2 0 1000 true _ A6.out).mono ?_); rintro e w' ⟨rfl, ⟨nd, rfl⟩⟩) | (go_at_call 44; (with_reducible refine (impl_between.calls a0_3 1 1000 true _ A8.out).mono ?_); rintro e w' ⟨rfl, ⟨nd, rfl⟩⟩) | (go_at_call 44; (with_reducible refine (impl_between.calls a0_4 1 1000000 true _ A10.out).mono ?_); rintro e w' ⟨rfl, ⟨nd, rfl⟩⟩) | (go_at_call 44; (with_reducible refine (impl_between.calls a0_5 0 1000000 true _ A12.out).mono ?_); rintro e w' ⟨rfl, ⟨nd, rfl⟩⟩) | (go_at_call 44; (with_reducible refine (impl_between.calls a0_6 0 1000000 t143 _ A14.out).mono ?_); rintro e w' ⟨rfl, ⟨nd, rfl⟩⟩))
       go_ret
       exact ⟨by first | rfl | (simp [errW_none, errW_some] <;> rfl) | (simp [*, errW_none, errW_some] <;> rfl), by repeat first | (with_reducible first | exact HB.out | refine bz ?_ (by assumption) | apply bA | apply bN | apply bD) | exact HB.out⟩
      ·replace c13 := Bool.eq_false_iff.mpr c13
       subst c13
       have H1 : (some false) = some r := by rw [if_neg (show ¬ (false = true) by decide)] at H; exact H
       clear H
       have H := H1
       clear H1
       obtain rfl := Option.some.inj H
       go_enter Try.func29, Try.ntmps29
       go_wp2_with (first | ((with_reducible refine gate_dst (N := 1) rfl ?_); refine box_event ?hg (N := 1) ?hd (cs := #[.int .i64 a0_0, .int .i64 a0_1, .int .i64 a0_2, .int .i64 a0_3, .int .i64 a0_4, .int .i64 a0_5, .int .i64 a0_6]) (t := 30) ?hr ?_; (case hd => rfl); (case hg => rfl); (case hr => first | (go_simp; done) | (go_simp; rfl)); intro gb136 hg w17 hbox hb; have BK136 := a_ (hbox); have GW136 := a_ (bsg hg HB.out); have GE136 := a_ (bsg hg HB.out); replace HB := a_ (below_step (un HB.out) hb); clear hb hbox hg; have hcz18_0 : _ = some (Value.int .i64 a0_0) := (blk_cell BK136.out 0).trans rfl; have hcz18_1 : _ = some (Value.int .i64 a0_1) := (blk_cell BK136.out 1).trans rfl; have hcz18_2 : _ = some (Value.int .i64 a0_2) := (blk_cell BK136.out 2).trans rfl; have hcz18_3 : _ = some (Value.int .i64 a0_3) := (blk_cell BK136.out 3).trans rfl; have hcz18_4 : _ = some (Value.int .i64 a0_4) := (blk_cell BK136.out 4).trans rfl; have hcz18_5 : _ = some (Value.int .i64 a0_5) := (blk_cell BK136.out 5).trans rfl; have hcz18_6 : _ = some (Value.int .i64 a0_6) := (blk_cell BK136.out 6).trans rfl; have hfz18_0 := blk_frozen BK136.out 0; have hfz18_1 := blk_frozen BK136.out 1; have hfz18_2 := blk_frozen BK136.out 2; have hfz18_3 := blk_frozen BK136.out 3; have hfz18_4 := blk_frozen BK136.out 4; have hfz18_5 := blk_frozen BK136.out 5; have hfz18_6 := blk_frozen BK136.out 6) | ((with_reducible refine gate_callee (f := 44) rfl ?_); refine goesL_ (some 5) rfl rfl Try.func44 (by kernel_rfl) rfl #[.int .i64 a0_0, .int .i64 0, .int .i64 1000] rfl (by (try simp only [lA, lB, lC]); first | done | rfl | (simp only [lD, lE]; rfl)) ?_; (with_reducible refine (impl_between.calls a0_0 0 1000 true _ A2.out).mono ?_); rintro e w' ⟨rfl, ⟨nd, rfl⟩⟩; refine ⟨_, rfl, ?_⟩) | (go_at_call 44; (with_reducible refine (impl_between.calls a0_1 0 1000 true _ A4.out).mono ?_); rintro e w' ⟨rfl, ⟨nd, rfl⟩⟩) | (go_at_call 44; (with_reducible refine (impl_between.calls a0_2 0 1000 true _ A6.out).mono ?_); rintro e w' ⟨rfl, ⟨nd, rfl⟩⟩) | (go_at_call 44; (with_reducible refine (impl_between.calls a0_3 1 1000 true _ A8.out).mono ?_); rintro e w' ⟨rfl, ⟨nd, rfl⟩⟩) | (go_at_call 44; (with_reducible refine (impl_between.calls a0_4 1 1000000 true _ A10.out).mono ?_); rintro e w' ⟨rfl, ⟨nd, rfl⟩⟩) | (go_at_call 44; (with_reducible refine (impl_between.calls a0_5 0 1000000 false _ A12.out).mono ?_); rintro e w' ⟨rfl, ⟨nd, rfl⟩⟩))
       go_ret
       exact ⟨by first | rfl | (simp [errW_none, errW_some] <;> rfl) | (simp [*, errW_none, errW_some] <;> rfl), by repeat first | (with_reducible first | exact HB.out | refine bz ?_ (by assumption) | apply bA | apply bN | apply bD) | exact HB.out⟩
     ·replace c11 := Bool.eq_false_iff.mpr c11
      subst c11
      have H1 : (some false) = some r := by rw [if_neg (show ¬ (false = true) by decide)] at H; exact H
      clear H
      have H := H1
      clear H1
      obtain rfl := Option.some.inj H
      go_enter Try.func29, Try.ntmps29
      go_wp2_with (first | ((with_reducible refine gate_dst (N := 1) rfl ?_); refine box_event ?hg (N := 1) ?hd (cs := #[.int .i64 a0_0, .int .i64 a0_1, .int .i64 a0_2, .int .i64 a0_3, .int .i64 a0_4, .int .i64 a0_5, .int .i64 a0_6]) (t := 30) ?hr ?_; (case hd => rfl); (case hg => rfl); (case hr => first | (go_simp; done) | (go_simp; rfl)); intro gb136 hg w19 hbox hb; have BK136 := a_ (hbox); have GW136 := a_ (bsg hg HB.out); have GE136 := a_ (bsg hg HB.out); replace HB := a_ (below_step (un HB.out) hb); clear hb hbox hg; have hcz20_0 : _ = some (Value.int .i64 a0_0) := (blk_cell BK136.out 0).trans rfl; have hcz20_1 : _ = some (Value.int .i64 a0_1) := (blk_cell BK136.out 1).trans rfl; have hcz20_2 : _ = some (Value.int .i64 a0_2) := (blk_cell BK136.out 2).trans rfl; have hcz20_3 : _ = some (Value.int .i64 a0_3) := (blk_cell BK136.out 3).trans rfl; have hcz20_4 : _ = some (Value.int .i64 a0_4) := (blk_cell BK136.out 4).trans rfl; have hcz20_5 : _ = some (Value.int .i64 a0_5) := (blk_cell BK136.out 5).trans rfl; have hcz20_6 : _ = some (Value.int .i64 a0_6) := (blk_cell BK136.out 6).trans rfl; have hfz20_0 := blk_frozen BK136.out 0; have hfz20_1 := blk_frozen BK136.out 1; have hfz20_2 := blk_frozen BK136.out 2; have hfz20_3 := blk_frozen BK136.out 3; have hfz20_4 := blk_frozen BK136.out 4; have hfz20_5 := blk_frozen BK136.out 5; have hfz20_6 := blk_frozen BK136.out 6) | ((with_reducible refine gate_callee (f := 44) rfl ?_); refine goesL_ (some 5) rfl rfl Try.func44 (by kernel_rfl) rfl #[.int .i64 a0_0, .int .i64 0, .int .i64 1000] rfl (by (try simp only [lA, lB, lC]); first | done | rfl | (simp only [lD, lE]; rfl)) ?_; (with_reducible refine (impl_between.calls a0_0 0 1000 true _ A2.out).mono ?_); rintro e w' ⟨rfl, ⟨nd, rfl⟩⟩; refine ⟨_, rfl, ?_⟩) | (go_at_call 44; (with_reducible refine (impl_between.calls a0_1 0 1000 true _ A4.out).mono ?_); rintro e w' ⟨rfl, ⟨nd, rfl⟩⟩) | (go_at_call 44; (with_reducible refine (impl_between.calls a0_2 0 1000 true _ A6.out).mono ?_); rintro e w' ⟨rfl, ⟨nd, rfl⟩⟩) | (go_at_call 44; (with_reducible refine (impl_between.calls a0_3 1 1000 true _ A8.out).mono ?_); rintro e w' ⟨rfl, ⟨nd, rfl⟩⟩) | (go_at_call 44; (with_reducible refine (impl_between.calls a0_4 1 1000000 false _ A10.out).mono ?_); rintro e w' ⟨rfl, ⟨nd, rfl⟩⟩))
      go_ret
      exact ⟨by first | rfl | (simp [errW_none, errW_some] <;> rfl) | (simp [*, errW_none, errW_some] <;> rfl), by repeat first | (with_reducible first | exact HB.out | refine bz ?_ (by assumption) | apply bA | apply bN | apply bD) | exact HB.out⟩
    ·replace c9 := Bool.eq_false_iff.mpr c9
     subst c9
     have H1 : (some false) = some r := by rw [if_neg (show ¬ (false = true) by decide)] at H; exact H
     clear H
     have H := H1
     clear H1
     obtain rfl := Option.some.inj H
     go_enter Try.func29, Try.ntmps29
     go_wp2_with (first | ((with_reducible refine gate_dst (N := 1) rfl ?_); refine box_event ?hg (N := 1) ?hd (cs := #[.int .i64 a0_0, .int .i64 a0_1, .int .i64 a0_2, .int .i64 a0_3, .int .i64 a0_4, .int .i64 a0_5, .int .i64 a0_6]) (t := 30) ?hr ?_; (case hd => rfl); (case hg => rfl); (case hr => first | (go_simp; done) | (go_simp; rfl)); intro gb136 hg w21 hbox hb; have BK136 := a_ (hbox); have GW136 := a_ (bsg hg HB.out); have GE136 := a_ (bsg hg HB.out); replace HB := a_ (below_step (un HB.out) hb); clear hb hbox hg; have hcz22_0 : _ = some (Value.int .i64 a0_0) := (blk_cell BK136.out 0).trans rfl; have hcz22_1 : _ = some (Value.int .i64 a0_1) := (blk_cell BK136.out 1).trans rfl; have hcz22_2 : _ = some (Value.int .i64 a0_2) := (blk_cell BK136.out 2).trans rfl; have hcz22_3 : _ = some (Value.int .i64 a0_3) := (blk_cell BK136.out 3).trans rfl; have hcz22_4 : _ = some (Value.int .i64 a0_4) := (blk_cell BK136.out 4).trans rfl; have hcz22_5 : _ = some (Value.int .i64 a0_5) := (blk_cell BK136.out 5).trans rfl; have hcz22_6 : _ = some (Value.int .i64 a0_6) := (blk_cell BK136.out 6).trans rfl; have hfz22_0 := blk_frozen BK136.out 0; have hfz22_1 := blk_frozen BK136.out 1; have hfz22_2 := blk_frozen BK136.out 2; have hfz22_3 := blk_frozen BK136.out 3; have hfz22_4 := blk_frozen BK136.out 4; have hfz22_5 := blk_frozen BK136.out 5; have hfz22_6 := blk_frozen BK136.out 6) | ((with_reducible refine gate_callee (f := 44) rfl ?_); refine goesL_ (some 5) rfl rfl Try.func44 (by kernel_rfl) rfl #[.int .i64 a0_0, .int .i64 0, .int .i64 1000] rfl (by (try simp only [lA, lB, lC]); first | done | rfl | (simp only [lD, lE]; rfl)) ?_; (with_reducible refine (impl_between.calls a0_0 0 1000 true _ A2.out).mono ?_); rintro e w' ⟨rfl, ⟨nd, rfl⟩⟩; refine ⟨_, rfl, ?_⟩) | (go_at_call 44; (with_reducible refine (impl_between.calls a0_1 0 1000 true _ A4.out).mono ?_); rintro e w' ⟨rfl, ⟨nd, rfl⟩⟩) | (go_at_call 44; (with_reducible refine (impl_between.calls a0_2 0 1000 true _ A6.out).mono ?_); rintro e w' ⟨rfl, ⟨nd, rfl⟩⟩) | (go_at_call 44; (with_reducible refine (impl_between.calls a0_3 1 1000 false _ A8.out).mono ?_); rintro e w' ⟨rfl, ⟨nd, rfl⟩⟩))
     go_ret
     exact ⟨by first | rfl | (simp [errW_none, errW_some] <;> rfl) | (simp [*, errW_none, errW_some] <;> rfl), by repeat first | (with_reducible first | exact HB.out | refine bz ?_ (by assumption) | apply bA | apply bN | apply bD) | exact HB.out⟩
   ·replace c7 := Bool.eq_false_iff.mpr c7
    subst c7
    have H1 : (some false) = some r := by rw [if_neg (show ¬ (false = true) by decide)] at H; exact H
    clear H
    have H := H1
    clear H1
    obtain rfl := Option.some.inj H
    go_enter Try.func29, Try.ntmps29
    go_wp2_with (first | ((with_reducible refine gate_dst (N := 1) rfl ?_); refine box_event ?hg (N := 1) ?hd (cs := #[.int .i64 a0_0, .int .i64 a0_1, .int .i64 a0_2, .int .i64 a0_3, .int .i64 a0_4, .int .i64 a0_5, .int .i64 a0_6]) (t := 30) ?hr ?_; (case hd => rfl); (case hg => rfl); (case hr => first | (go_simp; done) | (go_simp; rfl)); intro gb136 hg w23 hbox hb; have BK136 := a_ (hbox); have GW136 := a_ (bsg hg HB.out); have GE136 := a_ (bsg hg HB.out); replace HB := a_ (below_step (un HB.out) hb); clear hb hbox hg; have hcz24_0 : _ = some (Value.int .i64 a0_0) := (blk_cell BK136.out 0).trans rfl; have hcz24_1 : _ = some (Value.int .i64 a0_1) := (blk_cell BK136.out 1).trans rfl; have hcz24_2 : _ = some (Value.int .i64 a0_2) := (blk_cell BK136.out 2).trans rfl; have hcz24_3 : _ = some (Value.int .i64 a0_3) := (blk_cell BK136.out 3).trans rfl; have hcz24_4 : _ = some (Value.int .i64 a0_4) := (blk_cell BK136.out 4).trans rfl; have hcz24_5 : _ = some (Value.int .i64 a0_5) := (blk_cell BK136.out 5).trans rfl; have hcz24_6 : _ = some (Value.int .i64 a0_6) := (blk_cell BK136.out 6).trans rfl; have hfz24_0 := blk_frozen BK136.out 0; have hfz24_1 := blk_frozen BK136.out 1; have hfz24_2 := blk_frozen BK136.out 2; have hfz24_3 := blk_frozen BK136.out 3; have hfz24_4 := blk_frozen BK136.out 4; have hfz24_5 := blk_frozen BK136.out 5; have hfz24_6 := blk_frozen BK136.out 6) | ((with_reducible refine gate_callee (f := 44) rfl ?_); refine goesL_ (some 5) rfl rfl Try.func44 (by kernel_rfl) rfl #[.int .i64 a0_0, .int .i64 0, .int .i64 1000] rfl (by (try simp only [lA, lB, lC]); first | done | rfl | (simp only [lD, lE]; rfl)) ?_; (with_reducible refine (impl_between.calls a0_0 0 1000 true _ A2.out).mono ?_); rintro e w' ⟨rfl, ⟨nd, rfl⟩⟩; refine ⟨_, rfl, ?_⟩) | (go_at_call 44; (with_reducible refine (impl_between.calls a0_1 0 1000 true _ A4.out).mono ?_); rintro e w' ⟨rfl, ⟨nd, rfl⟩⟩) | (go_at_call 44; (with_reducible refine (impl_between.calls a0_2 0 1000 false _ A6.out).mono ?_); rintro e w' ⟨rfl, ⟨nd, rfl⟩⟩))
    go_ret
    exact ⟨by first | rfl | (simp [errW_none, errW_some] <;> rfl) | (simp [*, errW_none, errW_some] <;> rfl), by repeat first | (with_reducible first | exact HB.out | refine bz ?_ (by assumption) | apply bA | apply bN | apply bD) | exact HB.out⟩
  ·replace c5 := Bool.eq_false_iff.mpr c5
   subst c5
   have H1 : (some false) = some r := by rw [if_neg (show ¬ (false = true) by decide)] at H; exact H
   clear H
   have H := H1
   clear H1
   obtain rfl := Option.some.inj H
   go_enter Try.func29, Try.ntmps29
   go_wp2_with (first | ((with_reducible refine gate_dst (N := 1) rfl ?_); refine box_event ?hg (N := 1) ?hd (cs := #[.int .i64 a0_0, .int .i64 a0_1, .int .i64 a0_2, .int .i64 a0_3, .int .i64 a0_4, .int .i64 a0_5, .int .i64 a0_6]) (t := 30) ?hr ?_; (case hd => rfl); (case hg => rfl); (case hr => first | (go_simp; done) | (go_simp; rfl)); intro gb136 hg w25 hbox hb; have BK136 := a_ (hbox); have GW136 := a_ (bsg hg HB.out); have GE136 := a_ (bsg hg HB.out); replace HB := a_ (below_step (un HB.out) hb); clear hb hbox hg; have hcz26_0 : _ = some (Value.int .i64 a0_0) := (blk_cell BK136.out 0).trans rfl; have hcz26_1 : _ = some (Value.int .i64 a0_1) := (blk_cell BK136.out 1).trans rfl; have hcz26_2 : _ = some (Value.int .i64 a0_2) := (blk_cell BK136.out 2).trans rfl; have hcz26_3 : _ = some (Value.int .i64 a0_3) := (blk_cell BK136.out 3).trans rfl; have hcz26_4 : _ = some (Value.int .i64 a0_4) := (blk_cell BK136.out 4).trans rfl; have hcz26_5 : _ = some (Value.int .i64 a0_5) := (blk_cell BK136.out 5).trans rfl; have hcz26_6 : _ = some (Value.int .i64 a0_6) := (blk_cell BK136.out 6).trans rfl; have hfz26_0 := blk_frozen BK136.out 0; have hfz26_1 := blk_frozen BK136.out 1; have hfz26_2 := blk_frozen BK136.out 2; have hfz26_3 := blk_frozen BK136.out 3; have hfz26_4 := blk_frozen BK136.out 4; have hfz26_5 := blk_frozen BK136.out 5; have hfz26_6 := blk_frozen BK136.out 6) | ((with_reducible refine gate_callee (f := 44) rfl ?_); refine goesL_ (some 5) rfl rfl Try.func44 (by kernel_rfl) rfl #[.int .i64 a0_0, .int .i64 0, .int .i64 1000] rfl (by (try simp only [lA, lB, lC]); first | done | rfl | (simp only [lD, lE]; rfl)) ?_; (with_reducible refine (impl_between.calls a0_0 0 1000 true _ A2.out).mono ?_); rintro e w' ⟨rfl, ⟨nd, rfl⟩⟩; refine ⟨_, rfl, ?_⟩) | (go_at_call 44; (with_reducible refine (impl_between.calls a0_1 0 1000 false _ A4.out).mono ?_); rintro e w' ⟨rfl, ⟨nd, rfl⟩⟩))
   go_ret
   exact ⟨by first | rfl | (simp [errW_none, errW_some] <;> rfl) | (simp [*, errW_none, errW_some] <;> rfl), by repeat first | (with_reducible first | exact HB.out | refine bz ?_ (by assumption) | apply bA | apply bN | apply bD) | exact HB.out⟩
 ·replace c3 := Bool.eq_false_iff.mpr c3
  subst c3
  have H1 : (some false) = some r := by rw [if_neg (show ¬ (false = true) by decide)] at H; exact H
  clear H
  have H := H1
  clear H1
  obtain rfl := Option.some.inj H
  go_enter Try.func29, Try.ntmps29
  go_wp2_with (first | ((with_reducible refine gate_dst (N := 1) rfl ?_); refine box_event ?hg (N := 1) ?hd (cs := #[.int .i64 a0_0, .int .i64 a0_1, .int .i64 a0_2, .int .i64 a0_3, .int .i64 a0_4, .int .i64 a0_5, .int .i64 a0_6]) (t := 30) ?hr ?_; (case hd => rfl); (case hg => rfl); (case hr => first | (go_simp; done) | (go_simp; rfl)); intro gb136 hg w27 hbox hb; have BK136 := a_ (hbox); have GW136 := a_ (bsg hg HB.out); have GE136 := a_ (bsg hg HB.out); replace HB := a_ (below_step (un HB.out) hb); clear hb hbox hg; have hcz28_0 : _ = some (Value.int .i64 a0_0) := (blk_cell BK136.out 0).trans rfl; have hcz28_1 : _ = some (Value.int .i64 a0_1) := (blk_cell BK136.out 1).trans rfl; have hcz28_2 : _ = some (Value.int .i64 a0_2) := (blk_cell BK136.out 2).trans rfl; have hcz28_3 : _ = some (Value.int .i64 a0_3) := (blk_cell BK136.out 3).trans rfl; have hcz28_4 : _ = some (Value.int .i64 a0_4) := (blk_cell BK136.out 4).trans rfl; have hcz28_5 : _ = some (Value.int .i64 a0_5) := (blk_cell BK136.out 5).trans rfl; have hcz28_6 : _ = some (Value.int .i64 a0_6) := (blk_cell BK136.out 6).trans rfl; have hfz28_0 := blk_frozen BK136.out 0; have hfz28_1 := blk_frozen BK136.out 1; have hfz28_2 := blk_frozen BK136.out 2; have hfz28_3 := blk_frozen BK136.out 3; have hfz28_4 := blk_frozen BK136.out 4; have hfz28_5 := blk_frozen BK136.out 5; have hfz28_6 := blk_frozen BK136.out 6) | ((with_reducible refine gate_callee (f := 44) rfl ?_); refine goesL_ (some 5) rfl rfl Try.func44 (by kernel_rfl) rfl #[.int .i64 a0_0, .int .i64 0, .int .i64 1000] rfl (by (try simp only [lA, lB, lC]); first | done | rfl | (simp only [lD, lE]; rfl)) ?_; (with_reducible refine (impl_between.calls a0_0 0 1000 false _ A2.out).mono ?_); rintro e w' ⟨rfl, ⟨nd, rfl⟩⟩; refine ⟨_, rfl, ?_⟩))
  go_ret
  exact ⟨by first | rfl | (simp [errW_none, errW_some] <;> rfl) | (simp [*, errW_none, errW_some] <;> rfl), by repeat first | (with_reducible first | exact HB.out | refine bz ?_ (by assumption) | apply bA | apply bN | apply bD) | exact HB.out⟩

/-! ### impl_within: function 33 -/
def impl_within.f (a0 : Int) (a1 : Int) : Option (Bool) := if a0 ≥ (wrap64 (-a1)) then (some (decide (a0 ≤ a1))) else (some false)
set_option maxHeartbeats 8000000 in
set_option maxRecDepth 100000 in
theorem impl_within.calls (a0 : Int) (a1 : Int) (r : Bool) (w : World) (h : impl_within.f a0 a1 = some r) :
  Calls Try.prog 33 #[.int .i64 a0, .int .i64 a1] w fun e w' => e = .returned (.bool r) ∧ Drawn0 w w' := by
 have H : (if a0 ≥ (wrap64 (-a1)) then (some (decide (a0 ≤ a1))) else (some false)) = some r := h
 clear h
 by_cases c3 : a0 ≥ (wrap64 (-a1))
 ·rw [if_pos c3] at H
  have c3b0 : decide ((wrap64 (-a1)) ≤ a0) = true := decide_eq_true c3
  clear c3
  obtain rfl := Option.some.inj H
  go_enter Try.func33, Try.ntmps33
  go_wp2
  go_ret
  exact ⟨by first | rfl | (simp; done) | (simp [*]; done), by repeat (first | exact Drawn0.refl _ | apply Drawn0.step)⟩
 ·rw [if_neg c3] at H
  have c3b0 : decide ((wrap64 (-a1)) ≤ a0) = false := decide_eq_false c3
  clear c3
  obtain rfl := Option.some.inj H
  go_enter Try.func33, Try.ntmps33
  go_wp2
  go_ret
  exact ⟨by first | rfl | (simp; done) | (simp [*]; done), by repeat (first | exact Drawn0.refl _ | apply Drawn0.step)⟩

/-! ### impl_GoodHold: function 25 -/
def impl_GoodHold.f (a0_0 : Int) (a0_1 : Int) (a0_2 : Int) (a0_3 : Int) (a0_4 : Int) (a0_5 : Int) (a0_6 : Int) (a1_0 : Bool) (a1_1 : Int) (a1_2 : Int) (a1_3 : Int) : Option (Bool) := (impl_GoodLoop.f a0_0 a0_1 a0_2 a0_3 a0_4 a0_5 a0_6).bind fun t146 => (if t146 = true then ((impl_within.f a1_1 a0_5).bind fun t147 => (if t147 = true then ((impl_within.f a1_3 a0_4).bind fun t148 => (if t148 = true then ((impl_within.f a1_2 2000000).bind fun t149 => (if t149 = true then (if a1_0 = true then (some true) else (some (!a1_0 && (a1_1 == 0 && (a1_2 == 0 && (a1_3 == 0)))))) else (some false))) else (some false))) else (some false))) else (some false))
set_option maxHeartbeats 8000000 in
set_option maxRecDepth 100000 in
theorem impl_GoodHold.calls (a0_0 : Int) (a0_1 : Int) (a0_2 : Int) (a0_3 : Int) (a0_4 : Int) (a0_5 : Int) (a0_6 : Int) (a1_0 : Bool) (a1_1 : Int) (a1_2 : Int) (a1_3 : Int) (r : Bool) (w : World) (h : impl_GoodHold.f a0_0 a0_1 a0_2 a0_3 a0_4 a0_5 a0_6 a1_0 a1_1 a1_2 a1_3 = some r) :
  Calls Try.prog 25 #[.agg #[.int .i64 a0_0, .int .i64 a0_1, .int .i64 a0_2, .int .i64 a0_3, .int .i64 a0_4, .int .i64 a0_5, .int .i64 a0_6], .agg #[.bool a1_0, .int .i64 a1_1, .int .i64 a1_2, .int .i64 a1_3]] w fun e w' => e = .returned (.bool r) ∧ Below w.heap.size w w' := by
 have hu30 := Try.underlying30
 have hu27 := Try.underlying27
 have HB := a_ (Below.refl w.heap.size w)
 have H : ((impl_GoodLoop.f a0_0 a0_1 a0_2 a0_3 a0_4 a0_5 a0_6).bind fun t146 => (if t146 = true then ((impl_within.f a1_1 a0_5).bind fun t147 => (if t147 = true then ((impl_within.f a1_3 a0_4).bind fun t148 => (if t148 = true then ((impl_within.f a1_2 2000000).bind fun t149 => (if t149 = true then (if a1_0 = true then (some true) else (some (!a1_0 && (a1_1 == 0 && (a1_2 == 0 && (a1_3 == 0)))))) else (some false))) else (some false))) else (some false))) else (some false))) = some r := h
 clear h
 replace H := Option.bind_eq_some_iff.mp H
 obtain ⟨t146, A30, H⟩ := H
 have A3 := Aside0.mk A30
 clear A30
 by_cases c4 : t146 = true
 ·subst c4
  have H1 : ((impl_within.f a1_1 a0_5).bind fun t147 => (if t147 = true then ((impl_within.f a1_3 a0_4).bind fun t148 => (if t148 = true then ((impl_within.f a1_2 2000000).bind fun t149 => (if t149 = true then (if a1_0 = true then (some true) else (some (!a1_0 && (a1_1 == 0 && (a1_2 == 0 && (a1_3 == 0)))))) else (some false))) else (some false))) else (some false))) = some r := by rw [if_pos rfl] at H; exact H
  clear H
  have H := H1
  clear H1
  replace H := Option.bind_eq_some_iff.mp H
  obtain ⟨t147, A50, H⟩ := H
  have A5 := Aside0.mk A50
  clear A50
  by_cases c6 : t147 = true
  ·subst c6
   have H1 : ((impl_within.f a1_3 a0_4).bind fun t148 => (if t148 = true then ((impl_within.f a1_2 2000000).bind fun t149 => (if t149 = true then (if a1_0 = true then (some true) else (some (!a1_0 && (a1_1 == 0 && (a1_2 == 0 && (a1_3 == 0)))))) else (some false))) else (some false))) = some r := by rw [if_pos rfl] at H; exact H
   clear H
   have H := H1
   clear H1
   replace H := Option.bind_eq_some_iff.mp H
   obtain ⟨t148, A70, H⟩ := H
   have A7 := Aside0.mk A70
   clear A70
   by_cases c8 : t148 = true
   ·subst c8
    have H1 : ((impl_within.f a1_2 2000000).bind fun t149 => (if t149 = true then (if a1_0 = true then (some true) else (some (!a1_0 && (a1_1 == 0 && (a1_2 == 0 && (a1_3 == 0)))))) else (some false))) = some r := by rw [if_pos rfl] at H; exact H
    clear H
    have H := H1
    clear H1
    replace H := Option.bind_eq_some_iff.mp H
    obtain ⟨t149, A90, H⟩ := H
    have A9 := Aside0.mk A90
    clear A90
    by_cases c10 : t149 = true
    ·subst c10
     have H1 : (if a1_0 = true then (some true) else (some (!a1_0 && (a1_1 == 0 && (a1_2 == 0 && (a1_3 == 0)))))) = some r := by rw [if_pos rfl] at H; exact H
     clear H
     have H := H1
     clear H1
     by_cases c11 : a1_0 = true
     ·subst c11
      have H1 : (some true) = some r := by rw [if_pos rfl] at H; exact H
      clear H
      have H := H1
      clear H1
      obtain rfl := Option.some.inj H
      go_enter Try.func25, Try.ntmps25
      go_wp2_with (first | ((with_reducible refine gate_dst (N := 2) rfl ?_); refine box_event ?hg (N := 2) ?hd (cs := #[.int .i64 a0_0, .int .i64 a0_1, .int .i64 a0_2, .int .i64 a0_3, .int .i64 a0_4, .int .i64 a0_5, .int .i64 a0_6]) (t := 30) ?hr ?_; (case hd => rfl); (case hg => rfl); (case hr => first | (go_simp; done) | (go_simp; rfl)); intro gb144 hg w12 hbox hb; have BK144 := a_ (hbox); have GW144 := a_ (bsg hg HB.out); have GE144 := a_ (bsg hg HB.out); replace HB := a_ (below_step (un HB.out) hb); clear hb hbox hg) | ((with_reducible refine gate_dst (N := 3) rfl ?_); refine box_event ?hg (N := 3) ?hd (cs := #[.bool true, .int .i64 a1_1, .int .i64 a1_2, .int .i64 a1_3]) (t := 27) ?hr ?_; (case hd => rfl); (case hg => rfl); (case hr => first | (go_simp; done) | (go_simp; rfl)); intro gb145 hg w13 hbox hb; have BK145 := a_ (hbox); have GW145 := a_ (bsg hg HB.out); have GE145 := a_ (bsg hg HB.out); replace HB := a_ (below_step (by repeat first | (with_reducible first | exact HB.out | refine bz ?_ (by assumption) | apply bA | apply bN | apply bD) | exact HB.out) hb); have NB144_145 := a_ (nel hg BK144.out); have NB145_144 := a_ (nle hg BK144.out); replace BK144 := a_ (blk_below (pk BK144.out) hb); clear hb hbox hg; have hnb14 := NB144_145.out; have hnc14 := NB145_144.out; have hcz15_0 : _ = some (Value.int .i64 a0_0) := (blk_cell BK144.out 0).trans rfl; have hcz15_1 : _ = some (Value.int .i64 a0_1) := (blk_cell BK144.out 1).trans rfl; have hcz15_2 : _ = some (Value.int .i64 a0_2) := (blk_cell BK144.out 2).trans rfl; have hcz15_3 : _ = some (Value.int .i64 a0_3) := (blk_cell BK144.out 3).trans rfl; have hcz15_4 : _ = some (Value.int .i64 a0_4) := (blk_cell BK144.out 4).trans rfl; have hcz15_5 : _ = some (Value.int .i64 a0_5) := (blk_cell BK144.out 5).trans rfl; have hcz15_6 : _ = some (Value.int .i64 a0_6) := (blk_cell BK144.out 6).trans rfl; have hfz15_0 := blk_frozen BK144.out 0; have hfz15_1 := blk_frozen BK144.out 1; have hfz15_2 := blk_frozen BK144.out 2; have hfz15_3 := blk_frozen BK144.out 3; have hfz15_4 := blk_frozen BK144.out 4; have hfz15_5 := blk_frozen BK144.out 5; have hfz15_6 := blk_frozen BK144.out 6) | ((with_reducible refine gate_callee (f := 29) rfl ?_); refine goesL_ (some 6) rfl rfl Try.func29 (by kernel_rfl) rfl #[.agg #[.int .i64 a0_0, .int .i64 a0_1, .int .i64 a0_2, .int .i64 a0_3, .int .i64 a0_4, .int .i64 a0_5, .int .i64 a0_6]] rfl (by (try simp only [lA, lB, lC]); first | done | rfl | (simp only [lD, lE]; rfl)) ?_; (with_reducible refine (impl_GoodLoop.calls a0_0 a0_1 a0_2 a0_3 a0_4 a0_5 a0_6 true _ A3.out).mono ?_); rintro e w16 ⟨rfl, hb⟩; refine ⟨_, rfl, ?_⟩; replace BK144 := a_ (blk_below (pk BK144.out) hb); replace BK145 := a_ (blk_below (pk BK145.out) hb); replace HB := a_ (below_step (by repeat first | (with_reducible first | exact HB.out | refine bz ?_ (by assumption) | apply bA | apply bN | apply bD) | exact HB.out) hb); clear hb; have hcz17_0 : _ = some (Value.bool true) := (blk_cell BK145.out 0).trans rfl; have hcz17_1 : _ = some (Value.int .i64 a1_1) := (blk_cell BK145.out 1).trans rfl; have hcz17_2 : _ = some (Value.int .i64 a1_2) := (blk_cell BK145.out 2).trans rfl; have hcz17_3 : _ = some (Value.int .i64 a1_3) := (blk_cell BK145.out 3).trans rfl; have hfz17_0 := blk_frozen BK145.out 0; have hfz17_1 := blk_frozen BK145.out 1; have hfz17_2 := blk_frozen BK145.out 2; have hfz17_3 := blk_frozen BK145.out 3; have hcz18_0 : _ = some (Value.int .i64 a0_0) := (blk_cell BK144.out 0).trans rfl; have hcz18_1 : _ = some (Value.int .i64 a0_1) := (blk_cell BK144.out 1).trans rfl; have hcz18_2 : _ = some (Value.int .i64 a0_2) := (blk_cell BK144.out 2).trans rfl; have hcz18_3 : _ = some (Value.int .i64 a0_3) := (blk_cell BK144.out 3).trans rfl; have hcz18_4 : _ = some (Value.int .i64 a0_4) := (blk_cell BK144.out 4).trans rfl; have hcz18_5 : _ = some (Value.int .i64 a0_5) := (blk_cell BK144.out 5).trans rfl; have hcz18_6 : _ = some (Value.int .i64 a0_6) := (blk_cell BK144.out 6).trans rfl; have hfz18_0 := blk_frozen BK144.out 0; have hfz18_1 := blk_frozen BK144.out 1; have hfz18_2 := blk_frozen BK144.out 2; have hfz18_3 := blk_frozen BK144.out 3; have hfz18_4 := blk_frozen BK144.out 4; have hfz18_5 := blk_frozen BK144.out 5; have hfz18_6 := blk_frozen BK144.out 6) | (go_at_call 33; (with_reducible refine (impl_within.calls a1_1 a0_5 true _ A5.out).mono ?_); rintro e w' ⟨rfl, ⟨nd, rfl⟩⟩) | (go_at_call 33; (with_reducible refine (impl_within.calls a1_3 a0_4 true _ A7.out).mono ?_); rintro e w' ⟨rfl, ⟨nd, rfl⟩⟩) | (go_at_call 33; (with_reducible refine (impl_within.calls a1_2 2000000 true _ A9.out).mono ?_); rintro e w' ⟨rfl, ⟨nd, rfl⟩⟩))
      go_ret
      exact ⟨by first | rfl | (simp [errW_none, errW_some] <;> rfl) | (simp [*, errW_none, errW_some] <;> rfl), by repeat first | (with_reducible first | exact HB.out | refine bz ?_ (by assumption) | apply bA | apply bN | apply bD) | exact HB.out⟩
     ·replace c11 := Bool.eq_false_iff.mpr c11
      subst c11
      have H1 : (some (!false && (a1_1 == 0 && (a1_2 == 0 && (a1_3 == 0))))) = some r := by rw [if_neg (show ¬ (false = true) by decide)] at H; exact H
      clear H
      have H := H1
      clear H1
      obtain rfl := Option.some.inj H
      go_enter Try.func25, Try.ntmps25
      go_wp2_with (first | ((with_reducible refine gate_dst (N := 2) rfl ?_); refine box_event ?hg (N := 2) ?hd (cs := #[.int .i64 a0_0, .int .i64 a0_1, .int .i64 a0_2, .int .i64 a0_3, .int .i64 a0_4, .int .i64 a0_5, .int .i64 a0_6]) (t := 30) ?hr ?_; (case hd => rfl); (case hg => rfl); (case hr => first | (go_simp; done) | (go_simp; rfl)); intro gb144 hg w19 hbox hb; have BK144 := a_ (hbox); have GW144 := a_ (bsg hg HB.out); have GE144 := a_ (bsg hg HB.out); replace HB := a_ (below_step (un HB.out) hb); clear hb hbox hg) | ((with_reducible refine gate_dst (N := 3) rfl ?_); refine box_event ?hg (N := 3) ?hd (cs := #[.bool false, .int .i64 a1_1, .int .i64 a1_2, .int .i64 a1_3]) (t := 27) ?hr ?_; (case hd => rfl); (case hg => rfl); (case hr => first | (go_simp; done) | (go_simp; rfl)); intro gb145 hg w20 hbox hb; have BK145 := a_ (hbox); have GW145 := a_ (bsg hg HB.out); have GE145 := a_ (bsg hg HB.out); replace HB := a_ (below_step (by repeat first | (with_reducible first | exact HB.out | refine bz ?_ (by assumption) | apply bA | apply bN | apply bD) | exact HB.out) hb); have NB144_145 := a_ (nel hg BK144.out); have NB145_144 := a_ (nle hg BK144.out); replace BK144 := a_ (blk_below (pk BK144.out) hb); clear hb hbox hg; have hnb21 := NB144_145.out; have hnc21 := NB145_144.out; have hcz22_0 : _ = some (Value.int .i64 a0_0) := (blk_cell BK144.out 0).trans rfl; have hcz22_1 : _ = some (Value.int .i64 a0_1) := (blk_cell BK144.out 1).trans rfl; have hcz22_2 : _ = some (Value.int .i64 a0_2) := (blk_cell BK144.out 2).trans rfl; have hcz22_3 : _ = some (Value.int .i64 a0_3) := (blk_cell BK144.out 3).trans rfl; have hcz22_4 : _ = some (Value.int .i64 a0_4) := (blk_cell BK144.out 4).trans rfl; have hcz22_5 : _ = some (Value.int .i64 a0_5) := (blk_cell BK144.out 5).trans rfl; have hcz22_6 : _ = some (Value.int .i64 a0_6) := (blk_cell BK144.out 6).trans rfl; have hfz22_0 := blk_frozen BK144.out 0; have hfz22_1 := blk_frozen BK144.out 1; have hfz22_2 := blk_frozen BK144.out 2; have hfz22_3 := blk_frozen BK144.out 3; have hfz22_4 := blk_frozen BK144.out 4; have hfz22_5 := blk_frozen BK144.out 5; have hfz22_6 := blk_frozen BK144.out 6) | ((with_reducible refine gate_callee (f := 29) rfl ?_); refine goesL_ (some 6) rfl rfl Try.func29 (by kernel_rfl) rfl #[.agg #[.int .i64 a0_0, .int .i64 a0_1, .int .i64 a0_2, .int .i64 a0_3, .int .i64 a0_4, .int .i64 a0_5, .int .i64 a0_6]] rfl (by (try simp only [lA, lB, lC]); first | done | rfl | (simp only [lD, lE]; rfl)) ?_; (with_reducible refine (impl_GoodLoop.calls a0_0 a0_1 a0_2 a0_3 a0_4 a0_5 a0_6 true _ A3.out).mono ?_); rintro e w23 ⟨rfl, hb⟩; refine ⟨_, rfl, ?_⟩; replace BK144 := a_ (blk_below (pk BK144.out) hb); replace BK145 := a_ (blk_below (pk BK145.out) hb); replace HB := a_ (below_step (by repeat first | (with_reducible first | exact HB.out | refine bz ?_ (by assumption) | apply bA | apply bN | apply bD) | exact HB.out) hb); clear hb; have hcz24_0 : _ = some (Value.bool false) := (blk_cell BK145.out 0).trans rfl; have hcz24_1 : _ = some (Value.int .i64 a1_1) := (blk_cell BK145.out 1).trans rfl; have hcz24_2 : _ = some (Value.int .i64 a1_2) := (blk_cell BK145.out 2).trans rfl; have hcz24_3 : _ = some (Value.int .i64 a1_3) := (blk_cell BK145.out 3).trans rfl; have hfz24_0 := blk_frozen BK145.out 0; have hfz24_1 := blk_frozen BK145.out 1; have hfz24_2 := blk_frozen BK145.out 2; have hfz24_3 := blk_frozen BK145.out 3; have hcz25_0 : _ = some (Value.int .i64 a0_0) := (blk_cell BK144.out 0).trans rfl; have hcz25_1 : _ = some (Value.int .i64 a0_1) := (blk_cell BK144.out 1).trans rfl; have hcz25_2 : _ = some (Value.int .i64 a0_2) := (blk_cell BK144.out 2).trans rfl; have hcz25_3 : _ = some (Value.int .i64 a0_3) := (blk_cell BK144.out 3).trans rfl; have hcz25_4 : _ = some (Value.int .i64 a0_4) := (blk_cell BK144.out 4).trans rfl; have hcz25_5 : _ = some (Value.int .i64 a0_5) := (blk_cell BK144.out 5).trans rfl; have hcz25_6 : _ = some (Value.int .i64 a0_6) := (blk_cell BK144.out 6).trans rfl; have hfz25_0 := blk_frozen BK144.out 0; have hfz25_1 := blk_frozen BK144.out 1; have hfz25_2 := blk_frozen BK144.out 2; have hfz25_3 := blk_frozen BK144.out 3; have hfz25_4 := blk_frozen BK144.out 4; have hfz25_5 := blk_frozen BK144.out 5; have hfz25_6 := blk_frozen BK144.out 6) | (go_at_call 33; (with_reducible refine (impl_within.calls a1_1 a0_5 true _ A5.out).mono ?_); rintro e w' ⟨rfl, ⟨nd, rfl⟩⟩) | (go_at_call 33; (with_reducible refine (impl_within.calls a1_3 a0_4 true _ A7.out).mono ?_); rintro e w' ⟨rfl, ⟨nd, rfl⟩⟩) | (go_at_call 33; (with_reducible refine (impl_within.calls a1_2 2000000 true _ A9.out).mono ?_); rintro e w' ⟨rfl, ⟨nd, rfl⟩⟩))
      go_ret
      exact ⟨by first | rfl | (simp [errW_none, errW_some] <;> rfl) | (simp [*, errW_none, errW_some] <;> rfl), by repeat first | (with_reducible first | exact HB.out | refine bz ?_ (by assumption) | apply bA | apply bN | apply bD) | exact HB.out⟩
    ·replace c10 := Bool.eq_false_iff.mpr c10
     subst c10
     have H1 : (some false) = some r := by rw [if_neg (show ¬ (false = true) by decide)] at H; exact H
     clear H
     have H := H1
     clear H1
     obtain rfl := Option.some.inj H
     go_enter Try.func25, Try.ntmps25
     go_wp2_with (first | ((with_reducible refine gate_dst (N := 2) rfl ?_); refine box_event ?hg (N := 2) ?hd (cs := #[.int .i64 a0_0, .int .i64 a0_1, .int .i64 a0_2, .int .i64 a0_3, .int .i64 a0_4, .int .i64 a0_5, .int .i64 a0_6]) (t := 30) ?hr ?_; (case hd => rfl); (case hg => rfl); (case hr => first | (go_simp; done) | (go_simp; rfl)); intro gb144 hg w26 hbox hb; have BK144 := a_ (hbox); have GW144 := a_ (bsg hg HB.out); have GE144 := a_ (bsg hg HB.out); replace HB := a_ (below_step (un HB.out) hb); clear hb hbox hg) | ((with_reducible refine gate_dst (N := 3) rfl ?_); refine box_event ?hg (N := 3) ?hd (cs := #[.bool a1_0, .int .i64 a1_1, .int .i64 a1_2, .int .i64 a1_3]) (t := 27) ?hr ?_; (case hd => rfl); (case hg => rfl); (case hr => first | (go_simp; done) | (go_simp; rfl)); intro gb145 hg w27 hbox hb; have BK145 := a_ (hbox); have GW145 := a_ (bsg hg HB.out); have GE145 := a_ (bsg hg HB.out); replace HB := a_ (below_step (by repeat first | (with_reducible first | exact HB.out | refine bz ?_ (by assumption) | apply bA | apply bN | apply bD) | exact HB.out) hb); have NB144_145 := a_ (nel hg BK144.out); have NB145_144 := a_ (nle hg BK144.out); replace BK144 := a_ (blk_below (pk BK144.out) hb); clear hb hbox hg; have hnb28 := NB144_145.out; have hnc28 := NB145_144.out; have hcz29_0 : _ = some (Value.int .i64 a0_0) := (blk_cell BK144.out 0).trans rfl; have hcz29_1 : _ = some (Value.int .i64 a0_1) := (blk_cell BK144.out 1).trans rfl; have hcz29_2 : _ = some (Value.int .i64 a0_2) := (blk_cell BK144.out 2).trans rfl; have hcz29_3 : _ = some (Value.int .i64 a0_3) := (blk_cell BK144.out 3).trans rfl; have hcz29_4 : _ = some (Value.int .i64 a0_4) := (blk_cell BK144.out 4).trans rfl; have hcz29_5 : _ = some (Value.int .i64 a0_5) := (blk_cell BK144.out 5).trans rfl; have hcz29_6 : _ = some (Value.int .i64 a0_6) := (blk_cell BK144.out 6).trans rfl; have hfz29_0 := blk_frozen BK144.out 0; have hfz29_1 := blk_frozen BK144.out 1; have hfz29_2 := blk_frozen BK144.out 2; have hfz29_3 := blk_frozen BK144.out 3; have hfz29_4 := blk_frozen BK144.out 4; have hfz29_5 := blk_frozen BK144.out 5; have hfz29_6 := blk_frozen BK144.out 6) | ((with_reducible refine gate_callee (f := 29) rfl ?_); refine goesL_ (some 6) rfl rfl Try.func29 (by kernel_rfl) rfl #[.agg #[.int .i64 a0_0, .int .i64 a0_1, .int .i64 a0_2, .int .i64 a0_3, .int .i64 a0_4, .int .i64 a0_5, .int .i64 a0_6]] rfl (by (try simp only [lA, lB, lC]); first | done | rfl | (simp only [lD, lE]; rfl)) ?_; (with_reducible refine (impl_GoodLoop.calls a0_0 a0_1 a0_2 a0_3 a0_4 a0_5 a0_6 true _ A3.out).mono ?_); rintro e w30 ⟨rfl, hb⟩; refine ⟨_, rfl, ?_⟩; replace BK144 := a_ (blk_below (pk BK144.out) hb); replace BK145 := a_ (blk_below (pk BK145.out) hb); replace HB := a_ (below_step (by repeat first | (with_reducible first | exact HB.out | refine bz ?_ (by assumption) | apply bA | apply bN | apply bD) | exact HB.out) hb); clear hb; have hcz31_0 : _ = some (Value.bool a1_0) := (blk_cell BK145.out 0).trans rfl; have hcz31_1 : _ = some (Value.int .i64 a1_1) := (blk_cell BK145.out 1).trans rfl; have hcz31_2 : _ = some (Value.int .i64 a1_2) := (blk_cell BK145.out 2).trans rfl; have hcz31_3 : _ = some (Value.int .i64 a1_3) := (blk_cell BK145.out 3).trans rfl; have hfz31_0 := blk_frozen BK145.out 0; have hfz31_1 := blk_frozen BK145.out 1; have hfz31_2 := blk_frozen BK145.out 2; have hfz31_3 := blk_frozen BK145.out 3; have hcz32_0 : _ = some (Value.int .i64 a0_0) := (blk_cell BK144.out 0).trans rfl; have hcz32_1 : _ = some (Value.int .i64 a0_1) := (blk_cell BK144.out 1).trans rfl; have hcz32_2 : _ = some (Value.int .i64 a0_2) := (blk_cell BK144.out 2).trans rfl; have hcz32_3 : _ = some (Value.int .i64 a0_3) := (blk_cell BK144.out 3).trans rfl; have hcz32_4 : _ = some (Value.int .i64 a0_4) := (blk_cell BK144.out 4).trans rfl; have hcz32_5 : _ = some (Value.int .i64 a0_5) := (blk_cell BK144.out 5).trans rfl; have hcz32_6 : _ = some (Value.int .i64 a0_6) := (blk_cell BK144.out 6).trans rfl; have hfz32_0 := blk_frozen BK144.out 0; have hfz32_1 := blk_frozen BK144.out 1; have hfz32_2 := blk_frozen BK144.out 2; have hfz32_3 := blk_frozen BK144.out 3; have hfz32_4 := blk_frozen BK144.out 4; have hfz32_5 := blk_frozen BK144.out 5; have hfz32_6 := blk_frozen BK144.out 6) | (go_at_call 33; (with_reducible refine (impl_within.calls a1_1 a0_5 true _ A5.out).mono ?_); rintro e w' ⟨rfl, ⟨nd, rfl⟩⟩) | (go_at_call 33; (with_reducible refine (impl_within.calls a1_3 a0_4 true _ A7.out).mono ?_); rintro e w' ⟨rfl, ⟨nd, rfl⟩⟩) | (go_at_call 33; (with_reducible refine (impl_within.calls a1_2 2000000 false _ A9.out).mono ?_); rintro e w' ⟨rfl, ⟨nd, rfl⟩⟩))
     go_ret
     exact ⟨by first | rfl | (simp [errW_none, errW_some] <;> rfl) | (simp [*, errW_none, errW_some] <;> rfl), by repeat first | (with_reducible first | exact HB.out | refine bz ?_ (by assumption) | apply bA | apply bN | apply bD) | exact HB.out⟩
   ·replace c8 := Bool.eq_false_iff.mpr c8
    subst c8
    have H1 : (some false) = some r := by rw [if_neg (show ¬ (false = true) by decide)] at H; exact H
    clear H
    have H := H1
    clear H1
    obtain rfl := Option.some.inj H
    go_enter Try.func25, Try.ntmps25
    go_wp2_with (first | ((with_reducible refine gate_dst (N := 2) rfl ?_); refine box_event ?hg (N := 2) ?hd (cs := #[.int .i64 a0_0, .int .i64 a0_1, .int .i64 a0_2, .int .i64 a0_3, .int .i64 a0_4, .int .i64 a0_5, .int .i64 a0_6]) (t := 30) ?hr ?_; (case hd => rfl); (case hg => rfl); (case hr => first | (go_simp; done) | (go_simp; rfl)); intro gb144 hg w33 hbox hb; have BK144 := a_ (hbox); have GW144 := a_ (bsg hg HB.out); have GE144 := a_ (bsg hg HB.out); replace HB := a_ (below_step (un HB.out) hb); clear hb hbox hg) | ((with_reducible refine gate_dst (N := 3) rfl ?_); refine box_event ?hg (N := 3) ?hd (cs := #[.bool a1_0, .int .i64 a1_1, .int .i64 a1_2, .int .i64 a1_3]) (t := 27) ?hr ?_; (case hd => rfl); (case hg => rfl); (case hr => first | (go_simp; done) | (go_simp; rfl)); intro gb145 hg w34 hbox hb; have BK145 := a_ (hbox); have GW145 := a_ (bsg hg HB.out); have GE145 := a_ (bsg hg HB.out); replace HB := a_ (below_step (by repeat first | (with_reducible first | exact HB.out | refine bz ?_ (by assumption) | apply bA | apply bN | apply bD) | exact HB.out) hb); have NB144_145 := a_ (nel hg BK144.out); have NB145_144 := a_ (nle hg BK144.out); replace BK144 := a_ (blk_below (pk BK144.out) hb); clear hb hbox hg; have hnb35 := NB144_145.out; have hnc35 := NB145_144.out; have hcz36_0 : _ = some (Value.int .i64 a0_0) := (blk_cell BK144.out 0).trans rfl; have hcz36_1 : _ = some (Value.int .i64 a0_1) := (blk_cell BK144.out 1).trans rfl; have hcz36_2 : _ = some (Value.int .i64 a0_2) := (blk_cell BK144.out 2).trans rfl; have hcz36_3 : _ = some (Value.int .i64 a0_3) := (blk_cell BK144.out 3).trans rfl; have hcz36_4 : _ = some (Value.int .i64 a0_4) := (blk_cell BK144.out 4).trans rfl; have hcz36_5 : _ = some (Value.int .i64 a0_5) := (blk_cell BK144.out 5).trans rfl; have hcz36_6 : _ = some (Value.int .i64 a0_6) := (blk_cell BK144.out 6).trans rfl; have hfz36_0 := blk_frozen BK144.out 0; have hfz36_1 := blk_frozen BK144.out 1; have hfz36_2 := blk_frozen BK144.out 2; have hfz36_3 := blk_frozen BK144.out 3; have hfz36_4 := blk_frozen BK144.out 4; have hfz36_5 := blk_frozen BK144.out 5; have hfz36_6 := blk_frozen BK144.out 6) | ((with_reducible refine gate_callee (f := 29) rfl ?_); refine goesL_ (some 6) rfl rfl Try.func29 (by kernel_rfl) rfl #[.agg #[.int .i64 a0_0, .int .i64 a0_1, .int .i64 a0_2, .int .i64 a0_3, .int .i64 a0_4, .int .i64 a0_5, .int .i64 a0_6]] rfl (by (try simp only [lA, lB, lC]); first | done | rfl | (simp only [lD, lE]; rfl)) ?_; (with_reducible refine (impl_GoodLoop.calls a0_0 a0_1 a0_2 a0_3 a0_4 a0_5 a0_6 true _ A3.out).mono ?_); rintro e w37 ⟨rfl, hb⟩; refine ⟨_, rfl, ?_⟩; replace BK144 := a_ (blk_below (pk BK144.out) hb); replace BK145 := a_ (blk_below (pk BK145.out) hb); replace HB := a_ (below_step (by repeat first | (with_reducible first | exact HB.out | refine bz ?_ (by assumption) | apply bA | apply bN | apply bD) | exact HB.out) hb); clear hb; have hcz38_0 : _ = some (Value.bool a1_0) := (blk_cell BK145.out 0).trans rfl; have hcz38_1 : _ = some (Value.int .i64 a1_1) := (blk_cell BK145.out 1).trans rfl; have hcz38_2 : _ = some (Value.int .i64 a1_2) := (blk_cell BK145.out 2).trans rfl; have hcz38_3 : _ = some (Value.int .i64 a1_3) := (blk_cell BK145.out 3).trans rfl; have hfz38_0 := blk_frozen BK145.out 0; have hfz38_1 := blk_frozen BK145.out 1; have hfz38_2 := blk_frozen BK145.out 2; have hfz38_3 := blk_frozen BK145.out 3; have hcz39_0 : _ = some (Value.int .i64 a0_0) := (blk_cell BK144.out 0).trans rfl; have hcz39_1 : _ = some (Value.int .i64 a0_1) := (blk_cell BK144.out 1).trans rfl; have hcz39_2 : _ = some (Value.int .i64 a0_2) := (blk_cell BK144.out 2).trans rfl; have hcz39_3 : _ = some (Value.int .i64 a0_3) := (blk_cell BK144.out 3).trans rfl; have hcz39_4 : _ = some (Value.int .i64 a0_4) := (blk_cell BK144.out 4).trans rfl; have hcz39_5 : _ = some (Value.int .i64 a0_5) := (blk_cell BK144.out 5).trans rfl; have hcz39_6 : _ = some (Value.int .i64 a0_6) := (blk_cell BK144.out 6).trans rfl; have hfz39_0 := blk_frozen BK144.out 0; have hfz39_1 := blk_frozen BK144.out 1; have hfz39_2 := blk_frozen BK144.out 2; have hfz39_3 := blk_frozen BK144.out 3; have hfz39_4 := blk_frozen BK144.out 4; have hfz39_5 := blk_frozen BK144.out 5; have hfz39_6 := blk_frozen BK144.out 6) | (go_at_call 33; (with_reducible refine (impl_within.calls a1_1 a0_5 true _ A5.out).mono ?_); rintro e w' ⟨rfl, ⟨nd, rfl⟩⟩) | (go_at_call 33; (with_reducible refine (impl_within.calls a1_3 a0_4 false _ A7.out).mono ?_); rintro e w' ⟨rfl, ⟨nd, rfl⟩⟩))
    go_ret
    exact ⟨by first | rfl | (simp [errW_none, errW_some] <;> rfl) | (simp [*, errW_none, errW_some] <;> rfl), by repeat first | (with_reducible first | exact HB.out | refine bz ?_ (by assumption) | apply bA | apply bN | apply bD) | exact HB.out⟩
  ·replace c6 := Bool.eq_false_iff.mpr c6
   subst c6
   have H1 : (some false) = some r := by rw [if_neg (show ¬ (false = true) by decide)] at H; exact H
   clear H
   have H := H1
   clear H1
   obtain rfl := Option.some.inj H
   go_enter Try.func25, Try.ntmps25
   go_wp2_with (first | ((with_reducible refine gate_dst (N := 2) rfl ?_); refine box_event ?hg (N := 2) ?hd (cs := #[.int .i64 a0_0, .int .i64 a0_1, .int .i64 a0_2, .int .i64 a0_3, .int .i64 a0_4, .int .i64 a0_5, .int .i64 a0_6]) (t := 30) ?hr ?_; (case hd => rfl); (case hg => rfl); (case hr => first | (go_simp; done) | (go_simp; rfl)); intro gb144 hg w40 hbox hb; have BK144 := a_ (hbox); have GW144 := a_ (bsg hg HB.out); have GE144 := a_ (bsg hg HB.out); replace HB := a_ (below_step (un HB.out) hb); clear hb hbox hg) | ((with_reducible refine gate_dst (N := 3) rfl ?_); refine box_event ?hg (N := 3) ?hd (cs := #[.bool a1_0, .int .i64 a1_1, .int .i64 a1_2, .int .i64 a1_3]) (t := 27) ?hr ?_; (case hd => rfl); (case hg => rfl); (case hr => first | (go_simp; done) | (go_simp; rfl)); intro gb145 hg w41 hbox hb; have BK145 := a_ (hbox); have GW145 := a_ (bsg hg HB.out); have GE145 := a_ (bsg hg HB.out); replace HB := a_ (below_step (by repeat first | (with_reducible first | exact HB.out | refine bz ?_ (by assumption) | apply bA | apply bN | apply bD) | exact HB.out) hb); have NB144_145 := a_ (nel hg BK144.out); have NB145_144 := a_ (nle hg BK144.out); replace BK144 := a_ (blk_below (pk BK144.out) hb); clear hb hbox hg; have hnb42 := NB144_145.out; have hnc42 := NB145_144.out; have hcz43_0 : _ = some (Value.int .i64 a0_0) := (blk_cell BK144.out 0).trans rfl; have hcz43_1 : _ = some (Value.int .i64 a0_1) := (blk_cell BK144.out 1).trans rfl; have hcz43_2 : _ = some (Value.int .i64 a0_2) := (blk_cell BK144.out 2).trans rfl; have hcz43_3 : _ = some (Value.int .i64 a0_3) := (blk_cell BK144.out 3).trans rfl; have hcz43_4 : _ = some (Value.int .i64 a0_4) := (blk_cell BK144.out 4).trans rfl; have hcz43_5 : _ = some (Value.int .i64 a0_5) := (blk_cell BK144.out 5).trans rfl; have hcz43_6 : _ = some (Value.int .i64 a0_6) := (blk_cell BK144.out 6).trans rfl; have hfz43_0 := blk_frozen BK144.out 0; have hfz43_1 := blk_frozen BK144.out 1; have hfz43_2 := blk_frozen BK144.out 2; have hfz43_3 := blk_frozen BK144.out 3; have hfz43_4 := blk_frozen BK144.out 4; have hfz43_5 := blk_frozen BK144.out 5; have hfz43_6 := blk_frozen BK144.out 6) | ((with_reducible refine gate_callee (f := 29) rfl ?_); refine goesL_ (some 6) rfl rfl Try.func29 (by kernel_rfl) rfl #[.agg #[.int .i64 a0_0, .int .i64 a0_1, .int .i64 a0_2, .int .i64 a0_3, .int .i64 a0_4, .int .i64 a0_5, .int .i64 a0_6]] rfl (by (try simp only [lA, lB, lC]); first | done | rfl | (simp only [lD, lE]; rfl)) ?_; (with_reducible refine (impl_GoodLoop.calls a0_0 a0_1 a0_2 a0_3 a0_4 a0_5 a0_6 true _ A3.out).mono ?_); rintro e w44 ⟨rfl, hb⟩; refine ⟨_, rfl, ?_⟩; replace BK144 := a_ (blk_below (pk BK144.out) hb); replace BK145 := a_ (blk_below (pk BK145.out) hb); replace HB := a_ (below_step (by repeat first | (with_reducible first | exact HB.out | refine bz ?_ (by assumption) | apply bA | apply bN | apply bD) | exact HB.out) hb); clear hb; have hcz45_0 : _ = some (Value.bool a1_0) := (blk_cell BK145.out 0).trans rfl; have hcz45_1 : _ = some (Value.int .i64 a1_1) := (blk_cell BK145.out 1).trans rfl; have hcz45_2 : _ = some (Value.int .i64 a1_2) := (blk_cell BK145.out 2).trans rfl; have hcz45_3 : _ = some (Value.int .i64 a1_3) := (blk_cell BK145.out 3).trans rfl; have hfz45_0 := blk_frozen BK145.out 0; have hfz45_1 := blk_frozen BK145.out 1; have hfz45_2 := blk_frozen BK145.out 2; have hfz45_3 := blk_frozen BK145.out 3; have hcz46_0 : _ = some (Value.int .i64 a0_0) := (blk_cell BK144.out 0).trans rfl; have hcz46_1 : _ = some (Value.int .i64 a0_1) := (blk_cell BK144.out 1).trans rfl; have hcz46_2 : _ = some (Value.int .i64 a0_2) := (blk_cell BK144.out 2).trans rfl; have hcz46_3 : _ = some (Value.int .i64 a0_3) := (blk_cell BK144.out 3).trans rfl; have hcz46_4 : _ = some (Value.int .i64 a0_4) := (blk_cell BK144.out 4).trans rfl; have hcz46_5 : _ = some (Value.int .i64 a0_5) := (blk_cell BK144.out 5).trans rfl; have hcz46_6 : _ = some (Value.int .i64 a0_6) := (blk_cell BK144.out 6).trans rfl; have hfz46_0 := blk_frozen BK144.out 0; have hfz46_1 := blk_frozen BK144.out 1; have hfz46_2 := blk_frozen BK144.out 2; have hfz46_3 := blk_frozen BK144.out 3; have hfz46_4 := blk_frozen BK144.out 4; have hfz46_5 := blk_frozen BK144.out 5; have hfz46_6 := blk_frozen BK144.out 6) | (go_at_call 33; (with_reducible refine (impl_within.calls a1_1 a0_5 false _ A5.out).mono ?_); rintro e w' ⟨rfl, ⟨nd, rfl⟩⟩))
   go_ret
   exact ⟨by first | rfl | (simp [errW_none, errW_some] <;> rfl) | (simp [*, errW_none, errW_some] <;> rfl), by repeat first | (with_reducible first | exact HB.out | refine bz ?_ (by assumption) | apply bA | apply bN | apply bD) | exact HB.out⟩
 ·replace c4 := Bool.eq_false_iff.mpr c4
  subst c4
  have H1 : (some false) = some r := by rw [if_neg (show ¬ (false = true) by decide)] at H; exact H
  clear H
  have H := H1
  clear H1
  obtain rfl := Option.some.inj H
  go_enter Try.func25, Try.ntmps25
  go_wp2_with (first | ((with_reducible refine gate_dst (N := 2) rfl ?_); refine box_event ?hg (N := 2) ?hd (cs := #[.int .i64 a0_0, .int .i64 a0_1, .int .i64 a0_2, .int .i64 a0_3, .int .i64 a0_4, .int .i64 a0_5, .int .i64 a0_6]) (t := 30) ?hr ?_; (case hd => rfl); (case hg => rfl); (case hr => first | (go_simp; done) | (go_simp; rfl)); intro gb144 hg w47 hbox hb; have BK144 := a_ (hbox); have GW144 := a_ (bsg hg HB.out); have GE144 := a_ (bsg hg HB.out); replace HB := a_ (below_step (un HB.out) hb); clear hb hbox hg) | ((with_reducible refine gate_dst (N := 3) rfl ?_); refine box_event ?hg (N := 3) ?hd (cs := #[.bool a1_0, .int .i64 a1_1, .int .i64 a1_2, .int .i64 a1_3]) (t := 27) ?hr ?_; (case hd => rfl); (case hg => rfl); (case hr => first | (go_simp; done) | (go_simp; rfl)); intro gb145 hg w48 hbox hb; have BK145 := a_ (hbox); have GW145 := a_ (bsg hg HB.out); have GE145 := a_ (bsg hg HB.out); replace HB := a_ (below_step (by repeat first | (with_reducible first | exact HB.out | refine bz ?_ (by assumption) | apply bA | apply bN | apply bD) | exact HB.out) hb); have NB144_145 := a_ (nel hg BK144.out); have NB145_144 := a_ (nle hg BK144.out); replace BK144 := a_ (blk_below (pk BK144.out) hb); clear hb hbox hg; have hnb49 := NB144_145.out; have hnc49 := NB145_144.out; have hcz50_0 : _ = some (Value.int .i64 a0_0) := (blk_cell BK144.out 0).trans rfl; have hcz50_1 : _ = some (Value.int .i64 a0_1) := (blk_cell BK144.out 1).trans rfl; have hcz50_2 : _ = some (Value.int .i64 a0_2) := (blk_cell BK144.out 2).trans rfl; have hcz50_3 : _ = some (Value.int .i64 a0_3) := (blk_cell BK144.out 3).trans rfl; have hcz50_4 : _ = some (Value.int .i64 a0_4) := (blk_cell BK144.out 4).trans rfl; have hcz50_5 : _ = some (Value.int .i64 a0_5) := (blk_cell BK144.out 5).trans rfl; have hcz50_6 : _ = some (Value.int .i64 a0_6) := (blk_cell BK144.out 6).trans rfl; have hfz50_0 := blk_frozen BK144.out 0; have hfz50_1 := blk_frozen BK144.out 1; have hfz50_2 := blk_frozen BK144.out 2; have hfz50_3 := blk_frozen BK144.out 3; have hfz50_4 := blk_frozen BK144.out 4; have hfz50_5 := blk_frozen BK144.out 5; have hfz50_6 := blk_frozen BK144.out 6) | ((with_reducible refine gate_callee (f := 29) rfl ?_); refine goesL_ (some 6) rfl rfl Try.func29 (by kernel_rfl) rfl #[.agg #[.int .i64 a0_0, .int .i64 a0_1, .int .i64 a0_2, .int .i64 a0_3, .int .i64 a0_4, .int .i64 a0_5, .int .i64 a0_6]] rfl (by (try simp only [lA, lB, lC]); first | done | rfl | (simp only [lD, lE]; rfl)) ?_; (with_reducible refine (impl_GoodLoop.calls a0_0 a0_1 a0_2 a0_3 a0_4 a0_5 a0_6 false _ A3.out).mono ?_); rintro e w51 ⟨rfl, hb⟩; refine ⟨_, rfl, ?_⟩; replace BK144 := a_ (blk_below (pk BK144.out) hb); replace BK145 := a_ (blk_below (pk BK145.out) hb); replace HB := a_ (below_step (by repeat first | (with_reducible first | exact HB.out | refine bz ?_ (by assumption) | apply bA | apply bN | apply bD) | exact HB.out) hb); clear hb))
  go_ret
  exact ⟨by first | rfl | (simp [errW_none, errW_some] <;> rfl) | (simp [*, errW_none, errW_some] <;> rfl), by repeat first | (with_reducible first | exact HB.out | refine bz ?_ (by assumption) | apply bA | apply bN | apply bD) | exact HB.out⟩

/-! ### impl_cut: function 34 -/
def impl_cut.f (a0 : Int) (a1 : Int) (a2 : Int) : Option (Int) := some (mn (mx a0 a1) a2)
set_option maxHeartbeats 8000000 in
set_option maxRecDepth 100000 in
theorem impl_cut.calls (a0 : Int) (a1 : Int) (a2 : Int) (r : Int) (w : World) (h : impl_cut.f a0 a1 a2 = some r) :
  Calls Try.prog 34 #[.int .i64 a0, .int .i64 a1, .int .i64 a2] w fun e w' => e = .returned (.int .i64 r) ∧ Below w.heap.size w w' := by
 have HB := a_ (Below.refl w.heap.size w)
 have H : (some (mn (mx a0 a1) a2)) = some r := h
 clear h
 obtain ⟨ji4, hji4⟩ : ∃ j_ : Int, (mx a0 a1) = j_ := ⟨_, rfl⟩
 replace H : (some (mn (ji4) a2)) = some r := by first | (rw [hji4] at H; exact H) | (simp only [hji4] at H ⊢; exact H)
 have hji4_ : (if a0 < a1 then a1 else a0) = ji4 := hji4
 obtain ⟨ji5, hji5⟩ : ∃ j_ : Int, (mn (ji4) a2) = j_ := ⟨_, rfl⟩
 replace H : (some ji5) = some r := by first | (rw [hji5] at H; exact H) | (simp only [hji5] at H ⊢; exact H)
 have hji5_ : (if a2 < (ji4) then a2 else (ji4)) = ji5 := hji5
 obtain rfl := Option.some.inj H
 go_enter Try.func34, Try.ntmps34
 go_wp2
 go_ret
 exact ⟨by first | rfl | (simp [errW_none, errW_some] <;> rfl) | (simp only [← hji4, ← hji5]; first | rfl | (simp [errW_none, errW_some] <;> rfl)) | (simp [*, errW_none, errW_some] <;> rfl), un HB.out⟩

/-! ### impl_down: function 35 -/
def impl_down.f (a0 : Int) (a1 : Int) : Option (Int) := if a1 = 0 then (none) else (if (Int.tmod a0 a1) < 0 then (some (wrap64 ((wrap64 (Int.tdiv a0 a1)) - 1))) else (some (wrap64 (Int.tdiv a0 a1))))
set_option maxHeartbeats 8000000 in
set_option maxRecDepth 100000 in
theorem impl_down.calls (a0 : Int) (a1 : Int) (r : Int) (w : World) (h : impl_down.f a0 a1 = some r) :
  Calls Try.prog 35 #[.int .i64 a0, .int .i64 a1] w fun e w' => e = .returned (.int .i64 r) ∧ Drawn0 w w' := by
 have H : (if a1 = 0 then (none) else (if (Int.tmod a0 a1) < 0 then (some (wrap64 ((wrap64 (Int.tdiv a0 a1)) - 1))) else (some (wrap64 (Int.tdiv a0 a1))))) = some r := h
 clear h
 by_cases c3 : a1 = 0
 ·rw [if_pos c3] at H
  exact absurd H (by simp)
 ·rw [if_neg c3] at H
  have c3b0 : (a1 == 0) = false := beq_eq_false_iff_ne.mpr c3
  have c3b1 : (a1 != 0) = true := bne_iff_ne.mpr c3
  by_cases c4 : (Int.tmod a0 a1) < 0
  ·rw [if_pos c4] at H
   have c4b0 : decide ((Int.tmod a0 a1) < 0) = true := decide_eq_true c4
   clear c4
   obtain rfl := Option.some.inj H
   go_enter Try.func35, Try.ntmps35
   go_wp2
   go_ret
   exact ⟨by first | rfl | (simp; done) | (simp [*]; done), by repeat (first | exact Drawn0.refl _ | apply Drawn0.step)⟩
  ·rw [if_neg c4] at H
   have c4b0 : decide ((Int.tmod a0 a1) < 0) = false := decide_eq_false c4
   clear c4
   obtain rfl := Option.some.inj H
   go_enter Try.func35, Try.ntmps35
   go_wp2
   go_ret
   exact ⟨by first | rfl | (simp; done) | (simp [*]; done), by repeat (first | exact Drawn0.refl _ | apply Drawn0.step)⟩

end Go.Proofs.Ytineniimpdjpnaa.PFnHold
