-- Written by a program of this session out of the loaded functions' print; helper lemmas as print.sh lays them.
import Derived.Test.YtddfolmimgkokaaUp
import Derived.Test.YtddfolmimgkokaaRFnLinex0
import Derived.Test.YtddfolmimgkokaaRFnLinex1
import Derived.Test.YtddfolmimgkokaaRFnLinex2
import Derived.Test.YtddfolmimgkokaaRFnLinex3
namespace Go.Proofs.Ytddfolmimgkokaa.PFnLine
open Go.RowKit Go.Proofs.YtddfolmimgkokaaW.PrintWords Go.Proofs.YtddfolmimgkokaaW.PrintLast Go.Proofs.YtddfolmimgkokaaW.PrintMore
attribute [local go_sem] max2_int min2_int max_two min_two max_three min_three max_four min_four  -- for this text's walks alone
set_option linter.unusedVariables false
set_option linter.unusedSimpArgs false

/-! ### laws_FnLine: function 5 -/
def laws_FnLine.f (k : Nat) (l0 : List Int) : Option (Bool) := if (l0.length : Int) > 1048576 then (some true) else ((spec_DrawLineCells.f l0).bind fun bt195 => ((impl_LineCells.f k bt195.1 bt195.2.1 bt195.2.2.1 bt195.2.2.2).bind fun t199 => ((spec_LineCells.f k bt195.1 bt195.2.1 bt195.2.2.1 bt195.2.2.2).bind fun t202 => (if (t199.length : Int) = (t202.length : Int) then (if (t199.length : Int) = 0 then (some true) else ((spec_LineFine.f k t199 bt195.1 bt195.2.1 bt195.2.2.1 bt195.2.2.2).bind fun t205 => (some t205))) else (none)))))
theorem laws_FnLine.mono : ∀ a0 k, LeO (laws_FnLine.f k a0) (laws_FnLine.f (k + 1) a0) := by
 intro a0 k
 unfold laws_FnLine.f
 repeat' first
   | (with_reducible exact impl_LineCells.mono _ _ _ _ _)
   | (with_reducible exact spec_LineCells.mono _ _ _ _ _)
   | (with_reducible exact spec_LineFine.mono _ _ _ _ _ _)
   | (with_reducible exact LeO.refl _)
   | (with_reducible exact LeO.none _)
   | (with_reducible refine LeO.ite ?_ ?_)
   | (with_reducible refine LeO.bind ?_ (fun _ => ?_))
   | exact impl_LineCells.mono _ _ _ _ _
   | exact spec_LineCells.mono _ _ _ _ _
   | exact spec_LineFine.mono _ _ _ _ _ _
   | exact LeO.none _
   | refine LeO.ite ?_ ?_
   | refine LeO.bind ?_ (fun _ => ?_)
set_option maxHeartbeats 8000000 in
set_option maxRecDepth 100000 in
theorem laws_FnLine.calls (k : Nat) (A0 : Option Addr) (c0 : Nat) (l0 : List Int) (r : Bool) (w : World) (hr0 : Kd.C (Kd.int .u8) w A0 l0.length l0) (hc0 : l0.length ≤ c0) (h : laws_FnLine.f k l0 = some r) :
  Calls Try.prog 5 #[.slice A0 l0.length c0] w fun e w' => e = .returned (.bool r) ∧ Below w.heap.size w w' := by
 have HR0 := Aside0.mk hr0
 have HC0 := Aside0.mk hc0
 clear hr0 hc0
 have HB := a_ (Below.refl w.heap.size w)
 have H : (if (l0.length : Int) > 1048576 then (some true) else ((spec_DrawLineCells.f l0).bind fun bt195 => ((impl_LineCells.f k bt195.1 bt195.2.1 bt195.2.2.1 bt195.2.2.2).bind fun t199 => ((spec_LineCells.f k bt195.1 bt195.2.1 bt195.2.2.1 bt195.2.2.2).bind fun t202 => (if (t199.length : Int) = (t202.length : Int) then (if (t199.length : Int) = 0 then (some true) else ((spec_LineFine.f k t199 bt195.1 bt195.2.1 bt195.2.2.1 bt195.2.2.2).bind fun t205 => (some t205))) else (none)))))) = some r := h
 clear h
 by_cases c2 : (l0.length : Int) > 1048576
 ·rw [if_pos c2] at H
  have c2b0 : decide (1048576 < (l0.length : Int)) = true := decide_eq_true c2
  have c2b1 : decide (1048576 < l0.length) = true := decide_eq_true (by omega)
  clear c2
  obtain rfl := Option.some.inj H
  go_enter Try.func5, Try.ntmps5
  go_wp2
  go_ret
  exact ⟨by first | rfl | (simp [errW_none, errW_some] <;> rfl) | (simp [*, errW_none, errW_some] <;> rfl), un HB.out⟩
 ·rw [if_neg c2] at H
  have c2b0 : decide (1048576 < (l0.length : Int)) = false := decide_eq_false c2
  have c2b1 : decide (1048576 < l0.length) = false := decide_eq_false (by omega)
  clear c2
  replace H := Option.bind_eq_some_iff.mp H
  obtain ⟨⟨t195, t196, t197, t198⟩, A30, H⟩ := H
  replace H : ((impl_LineCells.f k t195 t196 t197 t198).bind fun t199 => ((spec_LineCells.f k t195 t196 t197 t198).bind fun t202 => (if (t199.length : Int) = (t202.length : Int) then (if (t199.length : Int) = 0 then (some true) else ((spec_LineFine.f k t199 t195 t196 t197 t198).bind fun t205 => (some t205))) else (none)))) = some r := H
  have A3 := Aside0.mk A30
  clear A30
  replace H := Option.bind_eq_some_iff.mp H
  obtain ⟨t199, A40, H⟩ := H
  have A4 := Aside0.mk A40
  clear A40
  replace H := Option.bind_eq_some_iff.mp H
  obtain ⟨t202, A50, H⟩ := H
  have A5 := Aside0.mk A50
  clear A50
  by_cases c6 : (t199.length : Int) = (t202.length : Int)
  ·rw [if_pos c6] at H
   have c6b0 : ((t199.length : Int) == (t202.length : Int)) = true := beq_iff_eq.mpr c6
   have c6b1 : ((t199.length : Int) != (t202.length : Int)) = false := bne_eq_false_iff_eq.mpr c6
   have c6b2 : (t199.length == t202.length) = true := by first | simpa using c6 | (simp at c6 ⊢; omega)
   clear c6
   by_cases c7 : (t199.length : Int) = 0
   ·rw [if_pos c7] at H
    have c7b0 : ((t199.length : Int) == 0) = true := beq_iff_eq.mpr c7
    have c7b1 : ((t199.length : Int) != 0) = false := bne_eq_false_iff_eq.mpr c7
    clear c7
    obtain rfl := Option.some.inj H
    go_enter Try.func5, Try.ntmps5
    go_wp2_with (first | ((with_reducible refine gate_callee (f := 19) rfl ?_); refine goesL_ (some 13) rfl rfl Try.func19 (by kernel_rfl) rfl #[.slice A0 l0.length c0] rfl (by (try simp only [lA, lB, lC]); first | done | rfl | (simp only [lD, lE]; rfl)) ?_; (with_reducible refine (spec_DrawLineCells.calls _ _ l0 t195 t196 t197 t198 _ ?side1 ?side2 A3.out).mono ?_); (case side1 => repeat (first | exact HR0.out | (with_reducible refine Kd.C_alloc ?_ _) | (with_reducible refine Kd.C_drewN ?_ _) | (with_reducible refine Kd.C_drew ?_))); (case side2 => exact HC0.out); rintro e w8 ⟨rfl, hb⟩; refine ⟨_, rfl, ?_⟩; replace HB := a_ (below_step (un HB.out) hb); clear hb) | ((with_reducible refine gate_callee (f := 8) rfl ?_); refine goesL_ (some 22) rfl rfl Try.func8 (by kernel_rfl) rfl #[.int .i64 t195, .int .i64 t196, .int .i64 t197, .int .i64 t198] rfl (by (try simp only [lA, lB, lC]); first | done | rfl | (simp only [lD, lE]; rfl)) ?_; (with_reducible refine (impl_LineCells.calls k t195 t196 t197 t198 t199 _ A4.out).mono ?_); rintro e w9 ⟨v200, rfl, ho0, hb⟩; refine ⟨_, rfl, ?_⟩; have HO201 := a_ (Kd.S_lower ho0 (bs HB.out)); replace HB := a_ (below_step (un HB.out) hb); clear hb ho0; obtain ⟨Ao10, co10, eo10⟩ := Kd.S_slice HO201.out; subst eo10) | ((with_reducible refine gate_callee (f := 7) rfl ?_); refine goesL_ (some 29) rfl rfl Try.func7 (by kernel_rfl) rfl #[.int .i64 t195, .int .i64 t196, .int .i64 t197, .int .i64 t198] rfl (by (try simp only [lA, lB, lC]); first | done | rfl | (simp only [lD, lE]; rfl)) ?_; (with_reducible refine (spec_LineCells.calls k t195 t196 t197 t198 t202 _ A5.out).mono ?_); rintro e w11 ⟨v203, rfl, ho0, hb⟩; refine ⟨_, rfl, ?_⟩; have HO204 := a_ (Kd.S_lower (Kd.S_new' ho0 (Kd.S_lt (by (with_reducible repeat (first | apply Kd.S_alloc | apply Kd.S_drewN | apply Kd.S_drew)); exact HO201.out))) (bs HB.out)); replace HO201 := a_ (Kd.S_elder' (by (with_reducible repeat (first | apply Kd.S_alloc | apply Kd.S_drewN | apply Kd.S_drew)); exact HO201.out) (Kd.S_base ho0) hb); replace HB := a_ (below_step (un HB.out) hb); clear hb ho0; obtain ⟨Ao12, co12, eo12⟩ := Kd.S_slice HO204.out; subst eo12))
    go_ret
    exact ⟨by first | rfl | (simp [errW_none, errW_some] <;> rfl) | (simp [*, errW_none, errW_some] <;> rfl), un HB.out⟩
   ·rw [if_neg c7] at H
    have c7b0 : ((t199.length : Int) == 0) = false := beq_eq_false_iff_ne.mpr c7
    have c7b1 : ((t199.length : Int) != 0) = true := bne_iff_ne.mpr c7
    have c7b2 : ¬ (t199 = []) := fun h_ => c7 (by rw [h_]; rfl)
    replace H := Option.bind_eq_some_iff.mp H
    obtain ⟨t205, A130, H⟩ := H
    have A13 := Aside0.mk A130
    clear A130
    obtain rfl := Option.some.inj H
    go_enter Try.func5, Try.ntmps5
    go_wp2_with (first | ((with_reducible refine gate_callee (f := 19) rfl ?_); refine goesL_ (some 13) rfl rfl Try.func19 (by kernel_rfl) rfl #[.slice A0 l0.length c0] rfl (by (try simp only [lA, lB, lC]); first | done | rfl | (simp only [lD, lE]; rfl)) ?_; (with_reducible refine (spec_DrawLineCells.calls _ _ l0 t195 t196 t197 t198 _ ?side1 ?side2 A3.out).mono ?_); (case side1 => repeat (first | exact HR0.out | (with_reducible refine Kd.C_alloc ?_ _) | (with_reducible refine Kd.C_drewN ?_ _) | (with_reducible refine Kd.C_drew ?_))); (case side2 => exact HC0.out); rintro e w14 ⟨rfl, hb⟩; refine ⟨_, rfl, ?_⟩; replace HB := a_ (below_step (un HB.out) hb); clear hb) | ((with_reducible refine gate_callee (f := 8) rfl ?_); refine goesL_ (some 22) rfl rfl Try.func8 (by kernel_rfl) rfl #[.int .i64 t195, .int .i64 t196, .int .i64 t197, .int .i64 t198] rfl (by (try simp only [lA, lB, lC]); first | done | rfl | (simp only [lD, lE]; rfl)) ?_; (with_reducible refine (impl_LineCells.calls k t195 t196 t197 t198 t199 _ A4.out).mono ?_); rintro e w15 ⟨v200, rfl, ho0, hb⟩; refine ⟨_, rfl, ?_⟩; have HO201 := a_ (Kd.S_lower ho0 (bs HB.out)); replace HB := a_ (below_step (un HB.out) hb); clear hb ho0; obtain ⟨Ao16, co16, eo16⟩ := Kd.S_slice HO201.out; subst eo16) | ((with_reducible refine gate_callee (f := 7) rfl ?_); refine goesL_ (some 29) rfl rfl Try.func7 (by kernel_rfl) rfl #[.int .i64 t195, .int .i64 t196, .int .i64 t197, .int .i64 t198] rfl (by (try simp only [lA, lB, lC]); first | done | rfl | (simp only [lD, lE]; rfl)) ?_; (with_reducible refine (spec_LineCells.calls k t195 t196 t197 t198 t202 _ A5.out).mono ?_); rintro e w17 ⟨v203, rfl, ho0, hb⟩; refine ⟨_, rfl, ?_⟩; have HO204 := a_ (Kd.S_lower (Kd.S_new' ho0 (Kd.S_lt (by (with_reducible repeat (first | apply Kd.S_alloc | apply Kd.S_drewN | apply Kd.S_drew)); exact HO201.out))) (bs HB.out)); replace HO201 := a_ (Kd.S_elder' (by (with_reducible repeat (first | apply Kd.S_alloc | apply Kd.S_drewN | apply Kd.S_drew)); exact HO201.out) (Kd.S_base ho0) hb); replace HB := a_ (below_step (un HB.out) hb); clear hb ho0; obtain ⟨Ao18, co18, eo18⟩ := Kd.S_slice HO204.out; subst eo18) | ((with_reducible refine gate_callee (f := 20) rfl ?_); refine goesL_ (some 40) rfl rfl Try.func20 (by kernel_rfl) rfl #[.slice Ao16 t199.length co16, .int .i64 t195, .int .i64 t196, .int .i64 t197, .int .i64 t198] rfl (by (try simp only [lA, lB, lC]); first | done | rfl | (simp only [lD, lE]; rfl)) ?_; (with_reducible refine (spec_LineFine.calls k _ _ t199 t195 t196 t197 t198 t205 _ ?side1 ?side2 A13.out).mono ?_); (case side1 => repeat (first | exact (Kd.S_reads' HO201.out).2.2 | (with_reducible refine Kd.C_alloc ?_ _) | (with_reducible refine Kd.C_drewN ?_ _) | (with_reducible refine Kd.C_drew ?_))); (case side2 => exact (Kd.S_reads' HO201.out).2.1); rintro e w19 ⟨rfl, hb⟩; refine ⟨_, rfl, ?_⟩; replace HO201 := a_ (Kd.S_below (by (with_reducible repeat (first | apply Kd.S_alloc | apply Kd.S_drewN | apply Kd.S_drew)); exact HO201.out) hb); replace HO204 := a_ (Kd.S_below (by (with_reducible repeat (first | apply Kd.S_alloc | apply Kd.S_drewN | apply Kd.S_drew)); exact HO204.out) hb); replace HB := a_ (below_step (un HB.out) hb); clear hb))
    go_ret
    exact ⟨by first | rfl | (simp [errW_none, errW_some] <;> rfl) | (simp [*, errW_none, errW_some] <;> rfl), un HB.out⟩
  ·rw [if_neg c6] at H
   exact absurd H (by simp)

/-- THE ONE PURE STATEMENT of laws_FnLine: yours. -/
def laws_FnLine.Pure : Prop := ∀ (l0 : List Int), l0.length ≤ maxLen → l0.length * 1 ≤ 140737488351232 → (∀ x ∈ l0, (Lit.int .u8 x).wf = true) → ∃ k, laws_FnLine.f k l0 = some true
theorem laws_FnLine.walk (P : laws_FnLine.Pure) (a0 : Option Addr) (len0 cap0 : Nat) (z0 : List Int) (w : World) (w0 : (a0 = none ∧ len0 = 0 ∧ cap0 = 0 ∧ z0 = []) ∨ ∃ x, a0 = some x ∧ len0 ≤ cap0 ∧ cap0 ≤ maxLen ∧ z0.length = cap0 ∧ (∀ i, i < z0.length → w.cell? (x.add i) = some (.int .u8 (z0.getD i 0))) ∧ ∀ n ∈ z0, (Lit.int .u8 n).wf = true) (y0 : len0 * 1 ≤ 140737488351232) :
  Calls Try.prog 5 #[.slice a0 len0 cap0] w fun e w' => e = .returned (.bool true) ∧ Below w.heap.size w w' := by
 obtain ⟨l0, rfl, hr0, hm0, hw0, hc0⟩ := ReadsInt.ofRowC w0
 obtain ⟨k, h⟩ := P l0 hm0 y0 hw0
 refine (laws_FnLine.calls k _ _ l0 true w (Kd.C_of_reads (d := (0 : Int)) (h1 := fun _ => rfl) hr0) hc0 h).mono ?_
 rintro e w' ⟨rfl, hd⟩
 exact ⟨rfl, hd⟩

end Go.Proofs.Ytddfolmimgkokaa.PFnLine
