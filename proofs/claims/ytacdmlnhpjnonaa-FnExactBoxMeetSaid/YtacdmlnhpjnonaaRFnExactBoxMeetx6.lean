-- Written by a program of this session out of the loaded functions' print; helper lemmas as print.sh lays them.
import Derived.Test.YtacdmlnhpjnonaaUp2
import Derived.Test.YtacdmlnhpjnonaaUp
import Derived.Test.YtacdmlnhpjnonaaRFnExactBoxMeetx0
import Derived.Test.YtacdmlnhpjnonaaRFnExactBoxMeetx1
import Derived.Test.YtacdmlnhpjnonaaRFnExactBoxMeetx2
import Derived.Test.YtacdmlnhpjnonaaRFnExactBoxMeetx3
import Derived.Test.YtacdmlnhpjnonaaRFnExactBoxMeetx5
namespace Go.Proofs.Ytacdmlnhpjnonaa.PFnExactBoxMeet
open Go.RowKit Go.Proofs.YtacdmlnhpjnonaaW.PrintWords Go.Proofs.YtacdmlnhpjnonaaW.PrintLast Go.Proofs.YtacdmlnhpjnonaaW.PrintMore
attribute [local go_sem] max2_int min2_int max_two min_two max_three min_three max_four min_four go_fstore go_fneg go_fadd go_fsub go_fmul go_fquo go_fmax go_fmin go_fconv go_bits go_frombits  -- for this text's walks alone
set_option linter.unusedVariables false
set_option linter.unusedSimpArgs false

/-! ### laws_FnExactBoxMeet: function 4 -/
mutual
def laws_FnExactBoxMeet.j0 : Nat → Bool → Bool → Bool → List Nat → List Nat → List Nat → List Nat → List Nat → List Nat → List Nat → List Nat → List Nat → List Nat → List Nat → List Nat → Option (Bool)
 | 0, _, _, _, _, _, _, _, _, _, _, _, _, _, _, _ => none
 | k + 1, x7, x11, x53, x205000, x205001, x206000, x206001, x228000, x228001, x235000, x235001, x242000, x242001, x250000, x250001 => if x53 = true then (none) else ((laws_toBox.f k x205000 x205001).bind fun bt251 => ((laws_eqBox.f k x235000 x235001 bt251.1 bt251.2).bind fun t257 => (if t257 = true then ((laws_toBox.f k x206000 x206001).bind fun bt258 => ((laws_eqBox.f k x242000 x242001 bt258.1 bt258.2).bind fun t264 => (if t264 = true then ((laws_markBox.f k x235000 x235001 1).bind fun bt265 => ((laws_markBox.f k x242000 x242001 bt265.1).bind fun bt268 => (if bt268.1 < 0 then (laws_FnExactBoxMeet.j1 k x7 true x205000 x205001 x206000 x206001 x228000 x228001 x250000 x250001) else ((laws_eqBox.f k x250000 x250001 x228000 x228001).bind fun t271 => (if t271 = true then (laws_FnExactBoxMeet.j1 k x7 (x11 != x7) x205000 x205001 x206000 x206001 x228000 x228001 x250000 x250001) else (laws_FnExactBoxMeet.j1 k x7 true x205000 x205001 x206000 x206001 x228000 x228001 x250000 x250001)))))) else (none)))) else (none))))
def laws_FnExactBoxMeet.j1 : Nat → Bool → Bool → List Nat → List Nat → List Nat → List Nat → List Nat → List Nat → List Nat → List Nat → Option (Bool)
 | 0, _, _, _, _, _, _, _, _, _, _ => none
 | k + 1, x7, x82, x205000, x205001, x206000, x206001, x228000, x228001, x250000, x250001 => if x82 = true then (none) else ((laws_markBox.f k x250000 x250001 1).bind fun bt272 => ((laws_heldBox.f k bt272.2.1 bt272.2.2 1).bind fun t275 => (if t275 < 0 then (none) else (if t275 = bt272.1 then ((laws_toBox.f k x205000 x205001).bind fun bt276 => ((laws_toBox.f k x206000 x206001).bind fun bt282 => ((impl_BoxMeet.f k bt276.1 bt276.2 bt282.1 bt282.2).bind fun bt288 => ((laws_eqBox.f k bt288.1 bt288.2.1 x228000 x228001).bind fun t296 => (if t296 = true then (laws_FnExactBoxMeet.j2 k bt272.1 (bt288.2.2 != x7) bt272.2.1 bt272.2.2) else (laws_FnExactBoxMeet.j2 k bt272.1 true bt272.2.1 bt272.2.2)))))) else (none)))))
def laws_FnExactBoxMeet.j2 : Nat → Int → Bool → List Nat → List Nat → Option (Bool)
 | 0, _, _, _, _ => none
 | k + 1, x13, x110, x250000, x250001 => if x110 = true then (none) else ((laws_heldBox.f k x250000 x250001 1).bind fun t297 => (if t297 < 0 then (none) else (if t297 = x13 then (some true) else (none))))
end
def laws_FnExactBoxMeet.f (k : Nat) (l0_0 : List Nat) (l0_1 : List Nat) (l1_0 : List Nat) (l1_1 : List Nat) : Option (Bool) := (laws_szBox.f l0_0 l0_1 1048576).bind fun t206 => (if t206 < 0 then (some true) else ((laws_szBox.f l1_0 l1_1 t206).bind fun t207 => (if t207 < 0 then (some true) else ((laws_toBox.f k l0_0 l0_1).bind fun bt208 => ((laws_toBox.f k l1_0 l1_1).bind fun bt214 => ((spec_BoxMeet.f k bt208.1 bt208.2 bt214.1 bt214.2).bind fun bt220 => ((laws_toBox.f k l0_0 l0_1).bind fun bt228 => ((laws_toBox.f k l1_0 l1_1).bind fun bt235 => ((impl_BoxMeet.f k bt228.1 bt228.2 bt235.1 bt235.2).bind fun bt242 => ((laws_eqBox.f k bt242.1 bt242.2.1 bt220.1 bt220.2.1).bind fun t250 => (if t250 = true then (laws_FnExactBoxMeet.j0 k bt220.2.2 bt242.2.2 (bt242.2.2 != bt220.2.2) l0_0 l0_1 l1_0 l1_1 bt220.1 bt220.2.1 bt228.1 bt228.2 bt235.1 bt235.2 bt242.1 bt242.2.1) else (laws_FnExactBoxMeet.j0 k bt220.2.2 bt242.2.2 true l0_0 l0_1 l1_0 l1_1 bt220.1 bt220.2.1 bt228.1 bt228.2 bt235.1 bt235.2 bt242.1 bt242.2.1))))))))))))
theorem laws_FnExactBoxMeet.mono_l : ∀ k, (∀ y0 y1 y2 y3 y4 y5 y6 y7 y8 y9 y10 y11 y12 y13 y14, LeO (laws_FnExactBoxMeet.j0 k y0 y1 y2 y3 y4 y5 y6 y7 y8 y9 y10 y11 y12 y13 y14) (laws_FnExactBoxMeet.j0 (k + 1) y0 y1 y2 y3 y4 y5 y6 y7 y8 y9 y10 y11 y12 y13 y14)) ∧ (∀ y0 y1 y2 y3 y4 y5 y6 y7 y8 y9, LeO (laws_FnExactBoxMeet.j1 k y0 y1 y2 y3 y4 y5 y6 y7 y8 y9) (laws_FnExactBoxMeet.j1 (k + 1) y0 y1 y2 y3 y4 y5 y6 y7 y8 y9)) ∧ (∀ y0 y1 y2 y3, LeO (laws_FnExactBoxMeet.j2 k y0 y1 y2 y3) (laws_FnExactBoxMeet.j2 (k + 1) y0 y1 y2 y3))
 | 0 => ⟨fun _ _ _ _ _ _ _ _ _ _ _ _ _ _ _ r h => by simp [laws_FnExactBoxMeet.j0] at h, fun _ _ _ _ _ _ _ _ _ _ r h => by simp [laws_FnExactBoxMeet.j1] at h, fun _ _ _ _ r h => by simp [laws_FnExactBoxMeet.j2] at h⟩
 | k + 1 => by
  obtain ⟨ih0, ih1, ih2⟩ := laws_FnExactBoxMeet.mono_l k
  refine ⟨?_, ?_, ?_⟩
  ·intro y0 y1 y2 y3 y4 y5 y6 y7 y8 y9 y10 y11 y12 y13 y14
   unfold laws_FnExactBoxMeet.j0
   repeat' first
   | (with_reducible exact ih0 _ _ _ _ _ _ _ _ _ _ _ _ _ _ _)
   | (with_reducible exact ih1 _ _ _ _ _ _ _ _ _ _)
   | (with_reducible exact ih2 _ _ _ _)
   | (with_reducible exact impl_BoxMeet.mono _ _ _ _ _)
   | (with_reducible exact laws_eqBox.mono _ _ _ _ _)
   | (with_reducible exact laws_heldBox.mono _ _ _ _)
   | (with_reducible exact laws_markBox.mono _ _ _ _)
   | (with_reducible exact laws_toBox.mono _ _ _)
   | (with_reducible exact spec_BoxMeet.mono _ _ _ _ _)
   | (with_reducible exact LeO.refl _)
   | (with_reducible exact LeO.none _)
   | (with_reducible refine LeO.ite ?_ ?_)
   | (with_reducible refine LeO.bind ?_ (fun _ => ?_))
   | exact ih0 _ _ _ _ _ _ _ _ _ _ _ _ _ _ _
   | exact ih1 _ _ _ _ _ _ _ _ _ _
   | exact ih2 _ _ _ _
   | exact impl_BoxMeet.mono _ _ _ _ _
   | exact laws_eqBox.mono _ _ _ _ _
   | exact laws_heldBox.mono _ _ _ _
   | exact laws_markBox.mono _ _ _ _
   | exact laws_toBox.mono _ _ _
   | exact spec_BoxMeet.mono _ _ _ _ _
   | exact LeO.none _
   | refine LeO.ite ?_ ?_
   | refine LeO.bind ?_ (fun _ => ?_)
  ·intro y0 y1 y2 y3 y4 y5 y6 y7 y8 y9
   unfold laws_FnExactBoxMeet.j1
   repeat' first
   | (with_reducible exact ih0 _ _ _ _ _ _ _ _ _ _ _ _ _ _ _)
   | (with_reducible exact ih1 _ _ _ _ _ _ _ _ _ _)
   | (with_reducible exact ih2 _ _ _ _)
   | (with_reducible exact impl_BoxMeet.mono _ _ _ _ _)
   | (with_reducible exact laws_eqBox.mono _ _ _ _ _)
   | (with_reducible exact laws_heldBox.mono _ _ _ _)
   | (with_reducible exact laws_markBox.mono _ _ _ _)
   | (with_reducible exact laws_toBox.mono _ _ _)
   | (with_reducible exact spec_BoxMeet.mono _ _ _ _ _)
   | (with_reducible exact LeO.refl _)
   | (with_reducible exact LeO.none _)
   | (with_reducible refine LeO.ite ?_ ?_)
   | (with_reducible refine LeO.bind ?_ (fun _ => ?_))
   | exact ih0 _ _ _ _ _ _ _ _ _ _ _ _ _ _ _
   | exact ih1 _ _ _ _ _ _ _ _ _ _
   | exact ih2 _ _ _ _
   | exact impl_BoxMeet.mono _ _ _ _ _
   | exact laws_eqBox.mono _ _ _ _ _
   | exact laws_heldBox.mono _ _ _ _
   | exact laws_markBox.mono _ _ _ _
   | exact laws_toBox.mono _ _ _
   | exact spec_BoxMeet.mono _ _ _ _ _
   | exact LeO.none _
   | refine LeO.ite ?_ ?_
   | refine LeO.bind ?_ (fun _ => ?_)
  ·intro y0 y1 y2 y3
   unfold laws_FnExactBoxMeet.j2
   repeat' first
   | (with_reducible exact ih0 _ _ _ _ _ _ _ _ _ _ _ _ _ _ _)
   | (with_reducible exact ih1 _ _ _ _ _ _ _ _ _ _)
   | (with_reducible exact ih2 _ _ _ _)
   | (with_reducible exact impl_BoxMeet.mono _ _ _ _ _)
   | (with_reducible exact laws_eqBox.mono _ _ _ _ _)
   | (with_reducible exact laws_heldBox.mono _ _ _ _)
   | (with_reducible exact laws_markBox.mono _ _ _ _)
   | (with_reducible exact laws_toBox.mono _ _ _)
   | (with_reducible exact spec_BoxMeet.mono _ _ _ _ _)
   | (with_reducible exact LeO.refl _)
   | (with_reducible exact LeO.none _)
   | (with_reducible refine LeO.ite ?_ ?_)
   | (with_reducible refine LeO.bind ?_ (fun _ => ?_))
   | exact ih0 _ _ _ _ _ _ _ _ _ _ _ _ _ _ _
   | exact ih1 _ _ _ _ _ _ _ _ _ _
   | exact ih2 _ _ _ _
   | exact impl_BoxMeet.mono _ _ _ _ _
   | exact laws_eqBox.mono _ _ _ _ _
   | exact laws_heldBox.mono _ _ _ _
   | exact laws_markBox.mono _ _ _ _
   | exact laws_toBox.mono _ _ _
   | exact spec_BoxMeet.mono _ _ _ _ _
   | exact LeO.none _
   | refine LeO.ite ?_ ?_
   | refine LeO.bind ?_ (fun _ => ?_)
theorem laws_FnExactBoxMeet.mono : ∀ a0 a1 a2 a3 k, LeO (laws_FnExactBoxMeet.f k a0 a1 a2 a3) (laws_FnExactBoxMeet.f (k + 1) a0 a1 a2 a3) := by
 intro a0 a1 a2 a3 k
 obtain ⟨ih0, ih1, ih2⟩ := laws_FnExactBoxMeet.mono_l k
 unfold laws_FnExactBoxMeet.f
 repeat' first
   | (with_reducible exact ih0 _ _ _ _ _ _ _ _ _ _ _ _ _ _ _)
   | (with_reducible exact ih1 _ _ _ _ _ _ _ _ _ _)
   | (with_reducible exact ih2 _ _ _ _)
   | (with_reducible exact impl_BoxMeet.mono _ _ _ _ _)
   | (with_reducible exact laws_eqBox.mono _ _ _ _ _)
   | (with_reducible exact laws_heldBox.mono _ _ _ _)
   | (with_reducible exact laws_markBox.mono _ _ _ _)
   | (with_reducible exact laws_toBox.mono _ _ _)
   | (with_reducible exact spec_BoxMeet.mono _ _ _ _ _)
   | (with_reducible exact LeO.refl _)
   | (with_reducible exact LeO.none _)
   | (with_reducible refine LeO.ite ?_ ?_)
   | (with_reducible refine LeO.bind ?_ (fun _ => ?_))
   | exact ih0 _ _ _ _ _ _ _ _ _ _ _ _ _ _ _
   | exact ih1 _ _ _ _ _ _ _ _ _ _
   | exact ih2 _ _ _ _
   | exact impl_BoxMeet.mono _ _ _ _ _
   | exact laws_eqBox.mono _ _ _ _ _
   | exact laws_heldBox.mono _ _ _ _
   | exact laws_markBox.mono _ _ _ _
   | exact laws_toBox.mono _ _ _
   | exact spec_BoxMeet.mono _ _ _ _ _
   | exact LeO.none _
   | refine LeO.ite ?_ ?_
   | refine LeO.bind ?_ (fun _ => ?_)
def laws_FnExactBoxMeet.T8 : Bool × List (List Nat × List Nat) := (true, [([], []), ([0], [0]), ([], []), ([2, 1], [2]), ([1, 3, 3], [1, 3]), ([4], [4]), ([5], [5]), ([5], [5]), ([], []), ([8, 6, 4, 0, 1, 2, 3, 4, 5, 6, 8], [6, 8]), ([7, 9, 0, 1, 2, 3, 4, 5, 6, 7, 8, 9], [7])])
def laws_FnExactBoxMeet.B8 : List Nat := [0, 1, 0, 7, 15, 31, 63, 63, 0, 383, 1023]
theorem laws_FnExactBoxMeet.tab8 : rtab .any (opsOf Try.f4 8) = laws_FnExactBoxMeet.T8 := by kernel_rfl
theorem laws_FnExactBoxMeet.bits8 : waitsOk laws_FnExactBoxMeet.T8.2 laws_FnExactBoxMeet.B8 = true := by kernel_rfl
def laws_FnExactBoxMeet.T31 : Bool × List (List Nat × List Nat) := (true, [([], []), ([0], [0]), ([], []), ([2, 1], [2]), ([1, 3, 3], [1, 3]), ([4], [4]), ([5], [5]), ([5], [5]), ([], []), ([8, 6, 4, 0, 1, 2, 3, 4, 5, 6, 8], [6, 8]), ([7, 9, 0, 1, 2, 3, 4, 5, 6, 7, 8, 9], [7])])
def laws_FnExactBoxMeet.B31 : List Nat := [0, 1, 0, 7, 15, 31, 63, 63, 0, 383, 1023]
theorem laws_FnExactBoxMeet.tab31 : rtab .any (opsOf Try.f4 31) = laws_FnExactBoxMeet.T31 := by kernel_rfl
theorem laws_FnExactBoxMeet.bits31 : waitsOk laws_FnExactBoxMeet.T31.2 laws_FnExactBoxMeet.B31 = true := by kernel_rfl
set_option maxHeartbeats 8000000 in
set_option maxRecDepth 100000 in
theorem laws_FnExactBoxMeet.calls (k : Nat) (A0_0 : Option Addr) (c0_0 : Nat) (l0_0 : List Nat) (A0_1 : Option Addr) (c0_1 : Nat) (l0_1 : List Nat) (A1_0 : Option Addr) (c1_0 : Nat) (l1_0 : List Nat) (A1_1 : Option Addr) (c1_1 : Nat) (l1_1 : List Nat) (r : Bool) (w : World) (hr0_0 : Kd.C Kd.flt w A0_0 l0_0.length l0_0) (hc0_0 : l0_0.length ≤ c0_0) (hr0_1 : Kd.C Kd.flt w A0_1 l0_1.length l0_1) (hc0_1 : l0_1.length ≤ c0_1) (hr1_0 : Kd.C Kd.flt w A1_0 l1_0.length l1_0) (hc1_0 : l1_0.length ≤ c1_0) (hr1_1 : Kd.C Kd.flt w A1_1 l1_1.length l1_1) (hc1_1 : l1_1.length ≤ c1_1) (h : laws_FnExactBoxMeet.f k l0_0 l0_1 l1_0 l1_1 = some r) :
  Calls Try.prog 4 #[.agg #[.slice A0_0 l0_0.length c0_0, .slice A0_1 l0_1.length c0_1], .agg #[.slice A1_0 l1_0.length c1_0, .slice A1_1 l1_1.length c1_1]] w fun e w' => e = .returned (.bool r) ∧ Below w.heap.size w w' := by
 have hu24 := Try.underlying24
 have hu26 := Try.underlying26
 have t2 := Aside0.mk hr0_0
 have t3 := Aside0.mk hc0_0
 clear hr0_0 hc0_0
 have t4 := Aside0.mk hr0_1
 have t5 := Aside0.mk hc0_1
 clear hr0_1 hc0_1
 have s8 := Aside0.mk hr1_0
 have s9 := Aside0.mk hc1_0
 clear hr1_0 hc1_0
 have t0 := Aside0.mk hr1_1
 have t1 := Aside0.mk hc1_1
 clear hr1_1 hc1_1
 have HB := a_ (Below.refl w.heap.size w)
 have H : ((laws_szBox.f l0_0 l0_1 1048576).bind fun t206 => (if t206 < 0 then (some true) else ((laws_szBox.f l1_0 l1_1 t206).bind fun t207 => (if t207 < 0 then (some true) else ((laws_toBox.f k l0_0 l0_1).bind fun bt208 => ((laws_toBox.f k l1_0 l1_1).bind fun bt214 => ((spec_BoxMeet.f k bt208.1 bt208.2 bt214.1 bt214.2).bind fun bt220 => ((laws_toBox.f k l0_0 l0_1).bind fun bt228 => ((laws_toBox.f k l1_0 l1_1).bind fun bt235 => ((impl_BoxMeet.f k bt228.1 bt228.2 bt235.1 bt235.2).bind fun bt242 => ((laws_eqBox.f k bt242.1 bt242.2.1 bt220.1 bt220.2.1).bind fun t250 => (if t250 = true then (laws_FnExactBoxMeet.j0 k bt220.2.2 bt242.2.2 (bt242.2.2 != bt220.2.2) l0_0 l0_1 l1_0 l1_1 bt220.1 bt220.2.1 bt228.1 bt228.2 bt235.1 bt235.2 bt242.1 bt242.2.1) else (laws_FnExactBoxMeet.j0 k bt220.2.2 bt242.2.2 true l0_0 l0_1 l1_0 l1_1 bt220.1 bt220.2.1 bt228.1 bt228.2 bt235.1 bt235.2 bt242.1 bt242.2.1))))))))))))) = some r := h
 clear h
 replace H := Option.bind_eq_some_iff.mp H
 obtain ⟨t206, Yx, H⟩ := H
 have A3 := Aside0.mk Yx
 clear Yx
 by_cases c4 : t206 < 0
 ·rw [if_pos c4] at H
  have P0 : decide (t206 < 0) = true := decide_eq_true c4
  clear c4
  obtain rfl := Option.some.inj H
  go_enter Try.func4, Try.ntmps4
  go_wp2_with (first | ((with_reducible refine gate_dst (N := 2) rfl ?_); refine box_event ?hg (N := 2) ?hd (cs := #[.slice A0_0 l0_0.length c0_0, .slice A0_1 l0_1.length c0_1]) (t := 24) ?hr ?_; (case hd => rfl); (case hg => rfl); (case hr => first | (go_simp; done) | (go_simp; rfl)); intro i9 hg w5 hbox hb; have b0 := a_ (hbox); have H0 := a_ (bsg hg HB.out); have H2 := a_ (bsg hg HB.out); replace HB := a_ (below_step (un HB.out) hb); clear hb hbox hg) | ((with_reducible refine gate_dst (N := 3) rfl ?_); refine box_event ?hg (N := 3) ?hd (cs := #[.slice A1_0 l1_0.length c1_0, .slice A1_1 l1_1.length c1_1]) (t := 24) ?hr ?_; (case hd => rfl); (case hg => rfl); (case hr => first | (go_simp; done) | (go_simp; rfl)); intro j3 hg w6 hbox hb; have b3 := a_ (hbox); have H3 := a_ (bsg hg HB.out); have H4 := a_ (bsg hg HB.out); replace HB := a_ (below_step (by repeat (with_reducible first | exact HB.out | refine bz ?_ (by assumption) | apply bA | apply bN | apply bD)) hb); have o7 := a_ (nel hg b0.out); have o8 := a_ (nle hg b0.out); replace b0 := a_ (blk_below (pk b0.out) hb); clear hb hbox hg; have Vu := o7.out; have Vv := o8.out; have P1 : _ = some (Value.slice A0_0 l0_0.length c0_0) := (blk_cell b0.out 0).trans rfl; have P2 : _ = some (Value.slice A0_1 l0_1.length c0_1) := (blk_cell b0.out 1).trans rfl; have P3 := blk_frozen b0.out 0; have P4 := blk_frozen b0.out 1) | ((with_reducible refine gate_callee (f := 6) rfl ?_); refine goesL_ (some 19) rfl rfl Try.func6 (by kernel_rfl) rfl #[.agg #[.slice A0_0 l0_0.length c0_0, .slice A0_1 l0_1.length c0_1], .int .i64 1048576] rfl (by (try simp only [lA, lB, lC]); first | done | rfl | (simp only [lD, lE]; rfl)) ?_; (with_reducible refine (laws_szBox.calls _ _ l0_0 _ _ l0_1 1048576 t206 _ ?side1 ?side2 ?side3 ?side4 A3.out).mono ?_); (case side1 => exact Kd.C_below t2.out (un HB.out)); (case side2 => exact t3.out); (case side3 => exact Kd.C_below t4.out (un HB.out)); (case side4 => exact t5.out); rintro e w9 ⟨rfl, hb⟩; refine ⟨_, rfl, ?_⟩; replace b0 := a_ (blk_below (pk b0.out) hb); replace b3 := a_ (blk_below (pk b3.out) hb); replace HB := a_ (below_step (by repeat (with_reducible first | exact HB.out | refine bz ?_ (by assumption) | apply bA | apply bN | apply bD)) hb); clear hb))
  go_ret
  exact ⟨by first | rfl | (simp [errW_none, errW_some] <;> rfl) | (simp [*, errW_none, errW_some] <;> rfl), by repeat (with_reducible first | exact HB.out | refine bz ?_ (by assumption) | apply bA | apply bN | apply bD)⟩
 ·rw [if_neg c4] at H
  have P0 : decide (t206 < 0) = false := decide_eq_false c4
  clear c4
  replace H := Option.bind_eq_some_iff.mp H
  obtain ⟨t207, K2, H⟩ := H
  have Yy := Aside0.mk K2
  clear K2
  by_cases c11 : t207 < 0
  ·rw [if_pos c11] at H
   have K3 : decide (t207 < 0) = true := decide_eq_true c11
   clear c11
   obtain rfl := Option.some.inj H
   go_enter Try.func4, Try.ntmps4
   go_wp2_with (first | ((with_reducible refine gate_dst (N := 2) rfl ?_); refine box_event ?hg (N := 2) ?hd (cs := #[.slice A0_0 l0_0.length c0_0, .slice A0_1 l0_1.length c0_1]) (t := 24) ?hr ?_; (case hd => rfl); (case hg => rfl); (case hr => first | (go_simp; done) | (go_simp; rfl)); intro i9 hg Mb hbox hb; have b0 := a_ (hbox); have H0 := a_ (bsg hg HB.out); have H2 := a_ (bsg hg HB.out); replace HB := a_ (below_step (un HB.out) hb); clear hb hbox hg) | ((with_reducible refine gate_dst (N := 3) rfl ?_); refine box_event ?hg (N := 3) ?hd (cs := #[.slice A1_0 l1_0.length c1_0, .slice A1_1 l1_1.length c1_1]) (t := 24) ?hr ?_; (case hd => rfl); (case hg => rfl); (case hr => first | (go_simp; done) | (go_simp; rfl)); intro j3 hg Mc hbox hb; have b3 := a_ (hbox); have H3 := a_ (bsg hg HB.out); have H4 := a_ (bsg hg HB.out); replace HB := a_ (below_step (by repeat (with_reducible first | exact HB.out | refine bz ?_ (by assumption) | apply bA | apply bN | apply bD)) hb); have o7 := a_ (nel hg b0.out); have o8 := a_ (nle hg b0.out); replace b0 := a_ (blk_below (pk b0.out) hb); clear hb hbox hg; have Yz := o7.out; have Za := o8.out; have N3 : _ = some (Value.slice A0_0 l0_0.length c0_0) := (blk_cell b0.out 0).trans rfl; have N4 : _ = some (Value.slice A0_1 l0_1.length c0_1) := (blk_cell b0.out 1).trans rfl; have N5 := blk_frozen b0.out 0; have N6 := blk_frozen b0.out 1) | ((with_reducible refine gate_callee (f := 6) rfl ?_); refine goesL_ (some 19) rfl rfl Try.func6 (by kernel_rfl) rfl #[.agg #[.slice A0_0 l0_0.length c0_0, .slice A0_1 l0_1.length c0_1], .int .i64 1048576] rfl (by (try simp only [lA, lB, lC]); first | done | rfl | (simp only [lD, lE]; rfl)) ?_; (with_reducible refine (laws_szBox.calls _ _ l0_0 _ _ l0_1 1048576 t206 _ ?side1 ?side2 ?side3 ?side4 A3.out).mono ?_); (case side1 => exact Kd.C_below t2.out (un HB.out)); (case side2 => exact t3.out); (case side3 => exact Kd.C_below t4.out (un HB.out)); (case side4 => exact t5.out); rintro e Md ⟨rfl, hb⟩; refine ⟨_, rfl, ?_⟩; replace b0 := a_ (blk_below (pk b0.out) hb); replace b3 := a_ (blk_below (pk b3.out) hb); replace HB := a_ (below_step (by repeat (with_reducible first | exact HB.out | refine bz ?_ (by assumption) | apply bA | apply bN | apply bD)) hb); clear hb; have N7 : _ = some (Value.slice A1_0 l1_0.length c1_0) := (blk_cell b3.out 0).trans rfl; have N8 : _ = some (Value.slice A1_1 l1_1.length c1_1) := (blk_cell b3.out 1).trans rfl; have N9 := blk_frozen b3.out 0; have O0 := blk_frozen b3.out 1) | ((with_reducible refine gate_callee (f := 6) rfl ?_); refine goesL_ (some 24) rfl rfl Try.func6 (by kernel_rfl) rfl #[.agg #[.slice A1_0 l1_0.length c1_0, .slice A1_1 l1_1.length c1_1], .int .i64 t206] rfl (by (try simp only [lA, lB, lC]); first | done | rfl | (simp only [lD, lE]; rfl)) ?_; (with_reducible refine (laws_szBox.calls _ _ l1_0 _ _ l1_1 t206 t207 _ ?side1 ?side2 ?side3 ?side4 Yy.out).mono ?_); (case side1 => exact Kd.C_below s8.out (un HB.out)); (case side2 => exact s9.out); (case side3 => exact Kd.C_below t0.out (un HB.out)); (case side4 => exact t1.out); rintro e Me ⟨rfl, hb⟩; refine ⟨_, rfl, ?_⟩; replace b0 := a_ (blk_below (pk b0.out) hb); replace b3 := a_ (blk_below (pk b3.out) hb); replace HB := a_ (below_step (by repeat (with_reducible first | exact HB.out | refine bz ?_ (by assumption) | apply bA | apply bN | apply bD)) hb); clear hb))
   go_ret
   exact ⟨by first | rfl | (simp [errW_none, errW_some] <;> rfl) | (simp [*, errW_none, errW_some] <;> rfl), by repeat (with_reducible first | exact HB.out | refine bz ?_ (by assumption) | apply bA | apply bN | apply bD)⟩
  ·rw [if_neg c11] at H
   have K3 : decide (t207 < 0) = false := decide_eq_false c11
   clear c11
   replace H := Option.bind_eq_some_iff.mp H
   obtain ⟨⟨p5, p6⟩, K4, H⟩ := H
   replace H : ((laws_toBox.f k l1_0 l1_1).bind fun bt214 => ((spec_BoxMeet.f k p5 p6 bt214.1 bt214.2).bind fun bt220 => ((laws_toBox.f k l0_0 l0_1).bind fun bt228 => ((laws_toBox.f k l1_0 l1_1).bind fun bt235 => ((impl_BoxMeet.f k bt228.1 bt228.2 bt235.1 bt235.2).bind fun bt242 => ((laws_eqBox.f k bt242.1 bt242.2.1 bt220.1 bt220.2.1).bind fun t250 => (if t250 = true then (laws_FnExactBoxMeet.j0 k bt220.2.2 bt242.2.2 (bt242.2.2 != bt220.2.2) l0_0 l0_1 l1_0 l1_1 bt220.1 bt220.2.1 bt228.1 bt228.2 bt235.1 bt235.2 bt242.1 bt242.2.1) else (laws_FnExactBoxMeet.j0 k bt220.2.2 bt242.2.2 true l0_0 l0_1 l1_0 l1_1 bt220.1 bt220.2.1 bt228.1 bt228.2 bt235.1 bt235.2 bt242.1 bt242.2.1)))))))) = some r := H
   have Zb := Aside0.mk K4
   clear K4
   replace H := Option.bind_eq_some_iff.mp H
   obtain ⟨⟨p7, p8⟩, K5, H⟩ := H
   replace H : ((spec_BoxMeet.f k p5 p6 p7 p8).bind fun bt220 => ((laws_toBox.f k l0_0 l0_1).bind fun bt228 => ((laws_toBox.f k l1_0 l1_1).bind fun bt235 => ((impl_BoxMeet.f k bt228.1 bt228.2 bt235.1 bt235.2).bind fun bt242 => ((laws_eqBox.f k bt242.1 bt242.2.1 bt220.1 bt220.2.1).bind fun t250 => (if t250 = true then (laws_FnExactBoxMeet.j0 k bt220.2.2 bt242.2.2 (bt242.2.2 != bt220.2.2) l0_0 l0_1 l1_0 l1_1 bt220.1 bt220.2.1 bt228.1 bt228.2 bt235.1 bt235.2 bt242.1 bt242.2.1) else (laws_FnExactBoxMeet.j0 k bt220.2.2 bt242.2.2 true l0_0 l0_1 l1_0 l1_1 bt220.1 bt220.2.1 bt228.1 bt228.2 bt235.1 bt235.2 bt242.1 bt242.2.1))))))) = some r := H
   have P5 := Aside0.mk K5
   clear K5
   replace H := Option.bind_eq_some_iff.mp H
   obtain ⟨⟨d2, d3, h6⟩, K6, H⟩ := H
   replace H : ((laws_toBox.f k l0_0 l0_1).bind fun bt228 => ((laws_toBox.f k l1_0 l1_1).bind fun bt235 => ((impl_BoxMeet.f k bt228.1 bt228.2 bt235.1 bt235.2).bind fun bt242 => ((laws_eqBox.f k bt242.1 bt242.2.1 d2 d3).bind fun t250 => (if t250 = true then (laws_FnExactBoxMeet.j0 k h6 bt242.2.2 (bt242.2.2 != h6) l0_0 l0_1 l1_0 l1_1 d2 d3 bt228.1 bt228.2 bt235.1 bt235.2 bt242.1 bt242.2.1) else (laws_FnExactBoxMeet.j0 k h6 bt242.2.2 true l0_0 l0_1 l1_0 l1_1 d2 d3 bt228.1 bt228.2 bt235.1 bt235.2 bt242.1 bt242.2.1)))))) = some r := H
   have O1 := Aside0.mk K6
   clear K6
   replace H := Option.bind_eq_some_iff.mp H
   obtain ⟨⟨g5, g6⟩, K7, H⟩ := H
   replace H : ((laws_toBox.f k l1_0 l1_1).bind fun bt235 => ((impl_BoxMeet.f k g5 g6 bt235.1 bt235.2).bind fun bt242 => ((laws_eqBox.f k bt242.1 bt242.2.1 d2 d3).bind fun t250 => (if t250 = true then (laws_FnExactBoxMeet.j0 k h6 bt242.2.2 (bt242.2.2 != h6) l0_0 l0_1 l1_0 l1_1 d2 d3 g5 g6 bt235.1 bt235.2 bt242.1 bt242.2.1) else (laws_FnExactBoxMeet.j0 k h6 bt242.2.2 true l0_0 l0_1 l1_0 l1_1 d2 d3 g5 g6 bt235.1 bt235.2 bt242.1 bt242.2.1))))) = some r := H
   have Vw := Aside0.mk K7
   clear K7
   replace H := Option.bind_eq_some_iff.mp H
   obtain ⟨⟨f9, g2⟩, K8, H⟩ := H
   replace H : ((impl_BoxMeet.f k g5 g6 f9 g2).bind fun bt242 => ((laws_eqBox.f k bt242.1 bt242.2.1 d2 d3).bind fun t250 => (if t250 = true then (laws_FnExactBoxMeet.j0 k h6 bt242.2.2 (bt242.2.2 != h6) l0_0 l0_1 l1_0 l1_1 d2 d3 g5 g6 f9 g2 bt242.1 bt242.2.1) else (laws_FnExactBoxMeet.j0 k h6 bt242.2.2 true l0_0 l0_1 l1_0 l1_1 d2 d3 g5 g6 f9 g2 bt242.1 bt242.2.1)))) = some r := H
   have Vx := Aside0.mk K8
   clear K8
   replace H := Option.bind_eq_some_iff.mp H
   obtain ⟨⟨d0, d1, p9⟩, K9, H⟩ := H
   replace H : ((laws_eqBox.f k d0 d1 d2 d3).bind fun t250 => (if t250 = true then (laws_FnExactBoxMeet.j0 k h6 p9 (p9 != h6) l0_0 l0_1 l1_0 l1_1 d2 d3 g5 g6 f9 g2 d0 d1) else (laws_FnExactBoxMeet.j0 k h6 p9 true l0_0 l0_1 l1_0 l1_1 d2 d3 g5 g6 f9 g2 d0 d1))) = some r := H
   have Vy := Aside0.mk K9
   clear K9
   have HC25 := Aside0.mk H
   clear H
   go_enter Try.func4, Try.ntmps4
   try go_wp2_with (first | ((with_reducible refine gate_dst (N := 2) rfl ?_); refine box_event ?hg (N := 2) ?hd (cs := #[.slice A0_0 l0_0.length c0_0, .slice A0_1 l0_1.length c0_1]) (t := 24) ?hr ?_; (case hd => rfl); (case hg => rfl); (case hr => first | (go_simp; done) | (go_simp; rfl)); intro i9 hg Mf hbox hb; have b0 := a_ (hbox); have H0 := a_ (bsg hg HB.out); have H2 := a_ (bsg hg HB.out); replace HB := a_ (below_step (un HB.out) hb); clear hb hbox hg) | ((with_reducible refine gate_dst (N := 3) rfl ?_); refine box_event ?hg (N := 3) ?hd (cs := #[.slice A1_0 l1_0.length c1_0, .slice A1_1 l1_1.length c1_1]) (t := 24) ?hr ?_; (case hd => rfl); (case hg => rfl); (case hr => first | (go_simp; done) | (go_simp; rfl)); intro j3 hg Mg hbox hb; have b3 := a_ (hbox); have H3 := a_ (bsg hg HB.out); have H4 := a_ (bsg hg HB.out); replace HB := a_ (below_step (by repeat (with_reducible first | exact HB.out | refine bz ?_ (by assumption) | apply bA | apply bN | apply bD)) hb); have o7 := a_ (nel hg b0.out); have o8 := a_ (nle hg b0.out); replace b0 := a_ (blk_below (pk b0.out) hb); clear hb hbox hg; have Zc := o7.out; have Zd := o8.out; have O2 : _ = some (Value.slice A0_0 l0_0.length c0_0) := (blk_cell b0.out 0).trans rfl; have O3 : _ = some (Value.slice A0_1 l0_1.length c0_1) := (blk_cell b0.out 1).trans rfl; have O4 := blk_frozen b0.out 0; have O5 := blk_frozen b0.out 1) | ((with_reducible refine gate_callee (f := 6) rfl ?_); refine goesL_ (some 19) rfl rfl Try.func6 (by kernel_rfl) rfl #[.agg #[.slice A0_0 l0_0.length c0_0, .slice A0_1 l0_1.length c0_1], .int .i64 1048576] rfl (by (try simp only [lA, lB, lC]); first | done | rfl | (simp only [lD, lE]; rfl)) ?_; (with_reducible refine (laws_szBox.calls _ _ l0_0 _ _ l0_1 1048576 t206 _ ?side1 ?side2 ?side3 ?side4 A3.out).mono ?_); (case side1 => exact Kd.C_below t2.out (un HB.out)); (case side2 => exact t3.out); (case side3 => exact Kd.C_below t4.out (un HB.out)); (case side4 => exact t5.out); rintro e Mh ⟨rfl, hb⟩; refine ⟨_, rfl, ?_⟩; replace b0 := a_ (blk_below (pk b0.out) hb); replace b3 := a_ (blk_below (pk b3.out) hb); replace HB := a_ (below_step (by repeat (with_reducible first | exact HB.out | refine bz ?_ (by assumption) | apply bA | apply bN | apply bD)) hb); clear hb; have O6 : _ = some (Value.slice A1_0 l1_0.length c1_0) := (blk_cell b3.out 0).trans rfl; have O7 : _ = some (Value.slice A1_1 l1_1.length c1_1) := (blk_cell b3.out 1).trans rfl; have O8 := blk_frozen b3.out 0; have O9 := blk_frozen b3.out 1) | ((with_reducible refine gate_callee (f := 6) rfl ?_); refine goesL_ (some 24) rfl rfl Try.func6 (by kernel_rfl) rfl #[.agg #[.slice A1_0 l1_0.length c1_0, .slice A1_1 l1_1.length c1_1], .int .i64 t206] rfl (by (try simp only [lA, lB, lC]); first | done | rfl | (simp only [lD, lE]; rfl)) ?_; (with_reducible refine (laws_szBox.calls _ _ l1_0 _ _ l1_1 t206 t207 _ ?side1 ?side2 ?side3 ?side4 Yy.out).mono ?_); (case side1 => exact Kd.C_below s8.out (un HB.out)); (case side2 => exact s9.out); (case side3 => exact Kd.C_below t0.out (un HB.out)); (case side4 => exact t1.out); rintro e Vz ⟨rfl, hb⟩; refine ⟨_, rfl, ?_⟩; replace b0 := a_ (blk_below (pk b0.out) hb); replace b3 := a_ (blk_below (pk b3.out) hb); replace HB := a_ (below_step (by repeat (with_reducible first | exact HB.out | refine bz ?_ (by assumption) | apply bA | apply bN | apply bD)) hb); clear hb))
   replace b0 := a_ (blk_drew b0.out)
   replace b3 := a_ (blk_drew b3.out)
   replace HB := a_ (below_drew1 HB.out)
   refine start_ (n := 11) (S := fun w' => w'.cell? ⟨i9, 0, none⟩ = some (.slice A0_0 l0_0.length c0_0) ∧ w'.cell? ⟨i9, 1, none⟩ = some (.slice A0_1 l0_1.length c0_1) ∧ w'.cell? ⟨j3, 0, none⟩ = some (.slice A1_0 l1_0.length c1_0) ∧ w'.cell? ⟨j3, 1, none⟩ = some (.slice A1_1 l1_1.length c1_1)) (ds := []) #[false, false, false, false, false, false, false, false, false, false, false] (by kernel_rfl) rfl rfl ⟨(blk_cell b0.out 0).trans rfl, (blk_cell b0.out 1).trans rfl, (blk_cell b3.out 0).trans rfl, (blk_cell b3.out 1).trans rfl⟩ (fun f3 => ?_); refine with_tabW laws_FnExactBoxMeet.tab8 laws_FnExactBoxMeet.bits8 (fun HT_ HW_ => ?_)
   generalize Vz.drew = Mi at b0 b3 HB f3 ⊢
   refine take_ (i := 0) (N := some 28) (v := ?_) (a' := ?_) #[true, false, false, false, false, false, false, false, false, false, false] rfl rfl (take_ofW HT_.out HW_.out (by kernel_rfl)) (fun _ _ _ h => h) (Or.inl ⟨by rfl, ?_⟩) f3 ?_ ?_
   rotate_left
   ·rintro w' ⟨s0, s1, s2, s3⟩
    go_simp
    with_reducible rfl
   rotate_left
   ·simp only [Act.put, sB, sC, sD, i64_w, i32_w]
    rfl
   refine take_ (i := 2) (N := some 30) (v := ?_) (a' := ?_) #[true, false, true, false, false, false, false, false, false, false, false] rfl rfl (take_ofW HT_.out HW_.out (by kernel_rfl)) (fun _ _ _ h => h) (Or.inl ⟨by rfl, ?_⟩) f3 ?_ ?_
   rotate_left
   ·rintro w' ⟨s0, s1, s2, s3⟩
    go_simp
    with_reducible rfl
   rotate_left
   ·simp only [Act.put, sB, sC, sD, i64_w, i32_w]
    rfl
   refine join_ (σ := Value × Value × Value × Value × Value × Value × Nat) 2 #[true, true, true, true, true, true, true, true, true, false, false] (fun s_ => [(29, .agg #[s_.1, s_.2.1]), (31, .agg #[s_.2.2.1, s_.2.2.2.1]), (32, .tuple #[.agg #[s_.2.2.2.2.1, s_.2.2.2.2.2.1], .bool h6]), (6, .pointer (some ⟨s_.2.2.2.2.2.2, 0, none⟩)), (27, .tuple #[.agg #[s_.2.2.2.2.1, s_.2.2.2.2.2.1], .bool h6]), (33, .agg #[s_.2.2.2.2.1, s_.2.2.2.2.2.1]), (34, .bool h6)]) (fun s_ w' => (w'.cell? ⟨i9, 0, none⟩ = some (.slice A0_0 l0_0.length c0_0) ∧ w'.cell? ⟨i9, 1, none⟩ = some (.slice A0_1 l0_1.length c0_1) ∧ w'.cell? ⟨j3, 0, none⟩ = some (.slice A1_0 l1_0.length c1_0) ∧ w'.cell? ⟨j3, 1, none⟩ = some (.slice A1_1 l1_1.length c1_1)) ∧ (Kd.R Kd.flt 39 w' w.heap.size (fun k_ => some k_ ≠ (s_.2.1 : Value).ownBlock ∧ some k_ ≠ (s_.2.2.1 : Value).ownBlock ∧ some k_ ≠ (s_.2.2.2.1 : Value).ownBlock ∧ some k_ ≠ (s_.2.2.2.2.1 : Value).ownBlock ∧ some k_ ≠ (s_.2.2.2.2.2.1 : Value).ownBlock) s_.1 p5) ∧ (Kd.R Kd.flt 39 w' w.heap.size (fun k_ => some k_ ≠ (s_.1 : Value).ownBlock ∧ some k_ ≠ (s_.2.2.1 : Value).ownBlock ∧ some k_ ≠ (s_.2.2.2.1 : Value).ownBlock ∧ some k_ ≠ (s_.2.2.2.2.1 : Value).ownBlock ∧ some k_ ≠ (s_.2.2.2.2.2.1 : Value).ownBlock) s_.2.1 p6) ∧ (Kd.R Kd.flt 39 w' w.heap.size (fun k_ => some k_ ≠ (s_.1 : Value).ownBlock ∧ some k_ ≠ (s_.2.1 : Value).ownBlock ∧ some k_ ≠ (s_.2.2.2.1 : Value).ownBlock ∧ some k_ ≠ (s_.2.2.2.2.1 : Value).ownBlock ∧ some k_ ≠ (s_.2.2.2.2.2.1 : Value).ownBlock) s_.2.2.1 p7) ∧ (Kd.R Kd.flt 39 w' w.heap.size (fun k_ => some k_ ≠ (s_.1 : Value).ownBlock ∧ some k_ ≠ (s_.2.1 : Value).ownBlock ∧ some k_ ≠ (s_.2.2.1 : Value).ownBlock ∧ some k_ ≠ (s_.2.2.2.2.1 : Value).ownBlock ∧ some k_ ≠ (s_.2.2.2.2.2.1 : Value).ownBlock) s_.2.2.2.1 p8) ∧ (Kd.R Kd.flt 39 w' w.heap.size (fun k_ => some k_ ≠ (s_.1 : Value).ownBlock ∧ some k_ ≠ (s_.2.1 : Value).ownBlock ∧ some k_ ≠ (s_.2.2.1 : Value).ownBlock ∧ some k_ ≠ (s_.2.2.2.1 : Value).ownBlock ∧ some k_ ≠ (s_.2.2.2.2.2.1 : Value).ownBlock) s_.2.2.2.2.1 d2) ∧ (Kd.R Kd.flt 39 w' w.heap.size (fun k_ => some k_ ≠ (s_.1 : Value).ownBlock ∧ some k_ ≠ (s_.2.1 : Value).ownBlock ∧ some k_ ≠ (s_.2.2.1 : Value).ownBlock ∧ some k_ ≠ (s_.2.2.2.1 : Value).ownBlock ∧ some k_ ≠ (s_.2.2.2.2.1 : Value).ownBlock) s_.2.2.2.2.2.1 d3) ∧ (w'.heap[i9]? = some (.cells #[.slice A0_0 l0_0.length c0_0, .slice A0_1 l0_1.length c0_1] 24 (0, 0))) ∧ (w'.heap[j3]? = some (.cells #[.slice A1_0 l1_0.length c1_0, .slice A1_1 l1_1.length c1_1] 24 (0, 0))) ∧ (w'.heap[s_.2.2.2.2.2.2]? = some (.cells #[.slice none 0 0, .slice none 0 0] 26 (0, 0))) ∧ (w.heap.size ≤ s_.2.2.2.2.2.2) ∧ (w.heap.size ≤ s_.2.2.2.2.2.2) ∧ (i9 ≠ s_.2.2.2.2.2.2) ∧ (s_.2.2.2.2.2.2 ≠ i9) ∧ (j3 ≠ s_.2.2.2.2.2.2) ∧ (s_.2.2.2.2.2.2 ≠ j3) ∧ (Below w.heap.size w w')) ?_ ?_
   rotate_left
   ·intro hCont
    refine two_ (i := 1) (j := 8) (Ni := some 29) (Nj := some 6) #[true, true, true, false, false, false, false, false, false, false, false] #[true, false, true, false, false, false, false, false, true, false, false] rfl rfl rfl rfl (two_of HT_.out (by kernel_rfl)) (by decide) (by decide) (fun K hK => ?_) (fun K hK => ?_)
    ·skip
     refine goes_ Try.func8 (by kernel_rfl) rfl #[.agg #[.slice A0_0 l0_0.length c0_0, .slice A0_1 l0_1.length c0_1]] (by rfl) rfl rfl (by (try simp only [lA, lB, lC]); first | done | rfl | (simp only [lD, lE]; rfl)) ?_
     with_reducible refine (laws_toBox.calls k _ _ l0_0 _ _ l0_1 p5 p6 _ ?side1 ?side2 ?side3 ?side4 Zb.out).mono ?_
     (case side1 => exact Kd.C_below t2.out (un HB.out))
     (case side2 => exact t3.out)
     (case side3 => exact Kd.C_below t4.out (un HB.out))
     (case side4 => exact t5.out)
     rintro e Ua ⟨w4, w7, rfl, ho0, ho1, hb⟩
     refine ⟨_, rfl, ?_⟩
     have d9 := a_ (Kd.R_lower ho0 (bs HB.out))
     have e0 := a_ (Kd.R_lower ho1 (bs HB.out))
     replace b0 := a_ (blk_below (pk b0.out) hb)
     replace b3 := a_ (blk_below (pk b3.out) hb)
     replace HB := a_ (below_step (by repeat (with_reducible first | exact HB.out | refine bz ?_ (by assumption) | apply bA | apply bN | apply bD)) hb)
     (try clear hb)
     (try clear hb2)
     (try clear hk)
     (try clear hi)
     (try clear ho0)
     (try clear ho1)
     refine hK.out _ _ ⟨(blk_cell b0.out 0).trans rfl, (blk_cell b0.out 1).trans rfl, (blk_cell b3.out 0).trans rfl, (blk_cell b3.out 1).trans rfl⟩ (fun f3 => ?_)
     clear hK K
     refine norm_ (a' := ?_) ?_ ?_
     rotate_left
     ·show Act.put _ (some 29) _ = _
      simp only [Act.put, sB, sC, sD, i64_w, i32_w]
      rfl
     refine two_ (i := 3) (j := 8) (Ni := some 31) (Nj := some 6) #[true, true, true, true, false, false, false, false, false, false, false] #[true, true, true, false, false, false, false, false, true, false, false] rfl rfl rfl rfl (two_of HT_.out (by kernel_rfl)) (by decide) (by decide) (fun K hK => ?_) (fun K hK => ?_)
     ·skip
      refine goes_ Try.func8 (by kernel_rfl) rfl #[.agg #[.slice A1_0 l1_0.length c1_0, .slice A1_1 l1_1.length c1_1]] (by rfl) rfl rfl (by (try simp only [lA, lB, lC]); first | done | rfl | (simp only [lD, lE]; rfl)) ?_
      with_reducible refine (laws_toBox.calls k _ _ l1_0 _ _ l1_1 p7 p8 _ ?side1 ?side2 ?side3 ?side4 P5.out).mono ?_
      (case side1 => exact Kd.C_below s8.out (un HB.out))
      (case side2 => exact s9.out)
      (case side3 => exact Kd.C_below t0.out (un HB.out))
      (case side4 => exact t1.out)
      rintro e Ze ⟨w2, w3, rfl, ho0, ho1, hb⟩
      refine ⟨_, rfl, ?_⟩
      have f7 := a_ (Kd.R_lower (nw (nw ho0 d9.out) e0.out) (bs HB.out))
      have f8 := a_ (Kd.R_lower (nw (nw ho1 d9.out) e0.out) (bs HB.out))
      replace d9 := a_ (ol2 d9.out hb ho0 ho1)
      replace e0 := a_ (ol2 e0.out hb ho0 ho1)
      replace b0 := a_ (blk_below (pk b0.out) hb)
      replace b3 := a_ (blk_below (pk b3.out) hb)
      replace HB := a_ (below_step (by repeat (with_reducible first | exact HB.out | refine bz ?_ (by assumption) | apply bA | apply bN | apply bD)) hb)
      (try clear hb)
      (try clear hb2)
      (try clear hk)
      (try clear hi)
      (try clear ho0)
      (try clear ho1)
      obtain ⟨L0, L1, L2⟩ := Kd.R_slice d9.out
      (first | subst L2 | (injection L2 with f1_ f2_ f3_; obtain rfl := f1_.symm; obtain rfl := f3_.symm))
      obtain ⟨u6, u7, u8⟩ := Kd.R_slice e0.out
      (first | subst u8 | (injection u8 with f1_ f2_ f3_; obtain rfl := f1_.symm; obtain rfl := f3_.symm))
      obtain ⟨u9, v0, v1⟩ := Kd.R_slice f7.out
      (first | subst v1 | (injection v1 with f1_ f2_ f3_; obtain rfl := f1_.symm; obtain rfl := f3_.symm))
      obtain ⟨v2, v3, v4⟩ := Kd.R_slice f8.out
      (first | subst v4 | (injection v4 with f1_ f2_ f3_; obtain rfl := f1_.symm; obtain rfl := f3_.symm))
      refine hK.out _ _ ⟨(blk_cell b0.out 0).trans rfl, (blk_cell b0.out 1).trans rfl, (blk_cell b3.out 0).trans rfl, (blk_cell b3.out 1).trans rfl⟩ (fun f3 => ?_)
      clear hK K
      refine norm_ (a' := ?_) ?_ ?_
      rotate_left
      ·show Act.put _ (some 31) _ = _
       simp only [Act.put, sB, sC, sD, i64_w, i32_w]
       rfl
      refine two_ (i := 4) (j := 8) (Ni := some 32) (Nj := some 6) #[true, true, true, true, true, false, false, false, false, false, false] #[true, true, true, true, false, false, false, false, true, false, false] rfl rfl rfl rfl (two_of HT_.out (by kernel_rfl)) (by decide) (by decide) (fun K hK => ?_) (fun K hK => ?_)
      ·skip
       refine goes_ Try.func13 (by kernel_rfl) rfl #[.agg #[.slice L0 p5.length L1, .slice u6 p6.length u7], .agg #[.slice u9 p7.length v0, .slice v2 p8.length v3]] (by rfl) rfl rfl (by (try simp only [lA, lB, lC]); first | done | rfl | (simp only [lD, lE]; rfl)) ?_
       with_reducible refine (spec_BoxMeet.calls k _ _ p5 _ _ p6 _ _ p7 _ _ p8 d2 d3 h6 _ ?side1 ?side2 ?side3 ?side4 ?side5 ?side6 ?side7 ?side8 O1.out).mono ?_
       (case side1 => exact cu (Kd.R_reads' d9.out).2.2)
       (case side2 => exact (Kd.R_reads' d9.out).2.1)
       (case side3 => exact cu (Kd.R_reads' e0.out).2.2)
       (case side4 => exact (Kd.R_reads' e0.out).2.1)
       (case side5 => exact cu (Kd.R_reads' f7.out).2.2)
       (case side6 => exact (Kd.R_reads' f7.out).2.1)
       (case side7 => exact cu (Kd.R_reads' f8.out).2.2)
       (case side8 => exact (Kd.R_reads' f8.out).2.1)
       rintro e Mj ⟨t6, t7, rfl, ho0, ho1, hb⟩
       refine ⟨_, rfl, ?_⟩
       have i4 := a_ (Kd.R_lower (nw (nw (nw (nw ho0 d9.out) e0.out) f7.out) f8.out) (bs HB.out))
       have i5 := a_ (Kd.R_lower (nw (nw (nw (nw ho1 d9.out) e0.out) f7.out) f8.out) (bs HB.out))
       replace d9 := a_ (ol2 d9.out hb ho0 ho1)
       replace e0 := a_ (ol2 e0.out hb ho0 ho1)
       replace f7 := a_ (ol2 f7.out hb ho0 ho1)
       replace f8 := a_ (ol2 f8.out hb ho0 ho1)
       replace b0 := a_ (blk_below (pk b0.out) hb)
       replace b3 := a_ (blk_below (pk b3.out) hb)
       replace HB := a_ (below_step (by repeat (with_reducible first | exact HB.out | refine bz ?_ (by assumption) | apply bA | apply bN | apply bD)) hb)
       (try clear hb)
       (try clear hb2)
       (try clear hk)
       (try clear hi)
       (try clear ho0)
       (try clear ho1)
       refine hK.out _ _ ⟨(blk_cell b0.out 0).trans rfl, (blk_cell b0.out 1).trans rfl, (blk_cell b3.out 0).trans rfl, (blk_cell b3.out 1).trans rfl⟩ (fun f3 => ?_)
       clear hK K
       refine norm_ (a' := ?_) ?_ ?_
       rotate_left
       ·show Act.put _ (some 32) _ = _
        simp only [Act.put, sB, sC, sD, i64_w, i32_w]
        rfl
       refine pure_ (i := 5) (N := some 27) (v := ?_) (a' := ?_) #[true, true, true, true, true, true, false, false, false, false, false] rfl rfl (any_of HT_.out (by kernel_rfl)) (fun _ _ _ h => h) (Or.inl ⟨by rfl, ?_⟩) ?_ ?_
       rotate_left
       ·intro w'
        go_simp
        with_reducible rfl
       rotate_left
       ·simp only [Act.put, sB, sC, sD, i64_w, i32_w]
        rfl
       refine pure_ (i := 6) (N := some 33) (v := ?_) (a' := ?_) #[true, true, true, true, true, true, true, false, false, false, false] rfl rfl (any_of HT_.out (by kernel_rfl)) (fun _ _ _ h => h) (Or.inl ⟨by rfl, ?_⟩) ?_ ?_
       rotate_left
       ·intro w'
        go_simp
        with_reducible rfl
       rotate_left
       ·simp only [Act.put, sB, sC, sD, i64_w, i32_w]
        rfl
       refine pure_ (i := 7) (N := some 34) (v := ?_) (a' := ?_) #[true, true, true, true, true, true, true, true, false, false, false] rfl rfl (any_of HT_.out (by kernel_rfl)) (fun _ _ _ h => h) (Or.inl ⟨by rfl, ?_⟩) ?_ ?_
       rotate_left
       ·intro w'
        go_simp
        with_reducible rfl
       rotate_left
       ·simp only [Act.put, sB, sC, sD, i64_w, i32_w]
        rfl
       refine one_ (i := 8) (N := some 6) #[true, true, true, true, true, true, true, true, true, false, false] rfl rfl (one_of HT_.out (by kernel_rfl)) (by decide) (fun K hK => ?_)
       refine box_step ?hg (N := 6) ?hd (cs := #[.slice none 0 0, .slice none 0 0]) (t := 26) ?hr ?_; (case hd => rfl); (case hg => rfl); (case hr => first | (go_simp; done) | (go_simp; rfl))
       intro h8 hg P6 hbox hb
       replace d9 := a_ (Kd.R_below (rk d9.out) hb)
       replace e0 := a_ (Kd.R_below (rk e0.out) hb)
       replace f7 := a_ (Kd.R_below (rk f7.out) hb)
       replace f8 := a_ (Kd.R_below (rk f8.out) hb)
       replace i4 := a_ (Kd.R_below (rk i4.out) hb)
       replace i5 := a_ (Kd.R_below (rk i5.out) hb)
       have b4 := a_ (hbox)
       have t9 := a_ (bsg hg HB.out)
       have u0 := a_ (bsg hg HB.out)
       replace HB := a_ (below_step (by repeat (with_reducible first | exact HB.out | refine bz ?_ (by assumption) | apply bA | apply bN | apply bD)) hb)
       have g3 := a_ (nel hg b0.out)
       have h9 := a_ (nle hg b0.out)
       replace b0 := a_ (blk_below (pk b0.out) hb)
       have g4 := a_ (nel hg b3.out)
       have i0 := a_ (nle hg b3.out)
       replace b3 := a_ (blk_below (pk b3.out) hb)
       clear hb hbox hg
       refine hK.out _ _ ⟨(blk_cell b0.out 0).trans rfl, (blk_cell b0.out 1).trans rfl, (blk_cell b3.out 0).trans rfl, (blk_cell b3.out 1).trans rfl⟩ (fun f3 => ?_)
       clear hK K
       refine norm_ (a' := ?_) ?_ ?_
       rotate_left
       ·show Act.put _ (some 6) _ = _
        simp only [Act.put, sB, sC, sD, i64_w, i32_w]
        rfl
       exact norm_ (by simp only [putAll, Act.put, sB, sC, sD]) (hCont (.slice L0 p5.length L1, .slice u6 p6.length u7, .slice u9 p7.length v0, .slice v2 p8.length v3, t6, t7, h8) _ ⟨f3, (rk (Kd.R_mono d9.out (fun _ hk => ⟨hk.1.1.1.1, hk.1.1.1.2, hk.1.1.2, hk.1.2, hk.2⟩))), (rk (Kd.R_mono e0.out (fun _ hk => ⟨hk.1.1.1.1, hk.1.1.1.2, hk.1.1.2, hk.1.2, hk.2⟩))), (rk (Kd.R_mono f7.out (fun _ hk => ⟨hk.1.1.1.2, hk.1.1.2, hk.1.1.1.1, hk.1.2, hk.2⟩))), (rk (Kd.R_mono f8.out (fun _ hk => ⟨hk.1.1.1.2, hk.1.1.2, hk.1.1.1.1, hk.1.2, hk.2⟩))), (rk (Kd.R_mono i4.out (fun _ hk => ⟨hk.1.1.1.2, hk.1.1.2, hk.1.2, hk.2, hk.1.1.1.1⟩))), (rk (Kd.R_mono i5.out (fun _ hk => ⟨hk.1.1.1.2, hk.1.1.2, hk.1.2, hk.2, hk.1.1.1.1⟩))), (pk b0.out), (pk b3.out), (pk b4.out), t9.out, u0.out, g3.out, h9.out, g4.out, i0.out, (by repeat (with_reducible first | exact HB.out | refine bz ?_ (by assumption) | apply bA | apply bN | apply bD))⟩)
      ·skip
       refine box_step ?hg (N := 6) ?hd (cs := #[.slice none 0 0, .slice none 0 0]) (t := 26) ?hr ?_; (case hd => rfl); (case hg => rfl); (case hr => first | (go_simp; done) | (go_simp; rfl))
       intro h8 hg Zf hbox hb
       replace d9 := a_ (Kd.R_below (rk d9.out) hb)
       replace e0 := a_ (Kd.R_below (rk e0.out) hb)
       replace f7 := a_ (Kd.R_below (rk f7.out) hb)
       replace f8 := a_ (Kd.R_below (rk f8.out) hb)
       have b4 := a_ (hbox)
       have t9 := a_ (bsg hg HB.out)
       have u0 := a_ (bsg hg HB.out)
       replace HB := a_ (below_step (by repeat (with_reducible first | exact HB.out | refine bz ?_ (by assumption) | apply bA | apply bN | apply bD)) hb)
       have g3 := a_ (nel hg b0.out)
       have h9 := a_ (nle hg b0.out)
       replace b0 := a_ (blk_below (pk b0.out) hb)
       have g4 := a_ (nel hg b3.out)
       have i0 := a_ (nle hg b3.out)
       replace b3 := a_ (blk_below (pk b3.out) hb)
       clear hb hbox hg
       obtain ⟨u6, u7, u8⟩ := Kd.R_slice d9.out
       (first | subst u8 | (injection u8 with f1_ f2_ f3_; obtain rfl := f1_.symm; obtain rfl := f3_.symm))
       obtain ⟨u9, v0, v1⟩ := Kd.R_slice e0.out
       (first | subst v1 | (injection v1 with f1_ f2_ f3_; obtain rfl := f1_.symm; obtain rfl := f3_.symm))
       obtain ⟨v2, v3, v4⟩ := Kd.R_slice f7.out
       (first | subst v4 | (injection v4 with f1_ f2_ f3_; obtain rfl := f1_.symm; obtain rfl := f3_.symm))
       obtain ⟨w8, x0, x1⟩ := Kd.R_slice f8.out
       (first | subst x1 | (injection x1 with f1_ f2_ f3_; obtain rfl := f1_.symm; obtain rfl := f3_.symm))
       refine hK.out _ _ ⟨(blk_cell b0.out 0).trans rfl, (blk_cell b0.out 1).trans rfl, (blk_cell b3.out 0).trans rfl, (blk_cell b3.out 1).trans rfl⟩ (fun f3 => ?_)
       clear hK K
       refine norm_ (a' := ?_) ?_ ?_
       rotate_left
       ·show Act.put _ (some 6) _ = _
        simp only [Act.put, sB, sC, sD, i64_w, i32_w]
        rfl
       refine one_ (i := 4) (N := some 32) #[true, true, true, true, true, false, false, false, true, false, false] rfl rfl (one_of HT_.out (by kernel_rfl)) (by decide) (fun K hK => ?_)
       refine goes_ Try.func13 (by kernel_rfl) rfl #[.agg #[.slice u6 p5.length u7, .slice u9 p6.length v0], .agg #[.slice v2 p7.length v3, .slice w8 p8.length x0]] (by rfl) rfl rfl (by (try simp only [lA, lB, lC]); first | done | rfl | (simp only [lD, lE]; rfl)) ?_
       with_reducible refine (spec_BoxMeet.calls k _ _ p5 _ _ p6 _ _ p7 _ _ p8 d2 d3 h6 _ ?side1 ?side2 ?side3 ?side4 ?side5 ?side6 ?side7 ?side8 O1.out).mono ?_
       (case side1 => exact cu (Kd.R_reads' d9.out).2.2)
       (case side2 => exact (Kd.R_reads' d9.out).2.1)
       (case side3 => exact cu (Kd.R_reads' e0.out).2.2)
       (case side4 => exact (Kd.R_reads' e0.out).2.1)
       (case side5 => exact cu (Kd.R_reads' f7.out).2.2)
       (case side6 => exact (Kd.R_reads' f7.out).2.1)
       (case side7 => exact cu (Kd.R_reads' f8.out).2.2)
       (case side8 => exact (Kd.R_reads' f8.out).2.1)
       rintro e P6 ⟨t6, t7, rfl, ho0, ho1, hb⟩
       refine ⟨_, rfl, ?_⟩
       have i4 := a_ (Kd.R_lower (nw (nw (nw (nw ho0 d9.out) e0.out) f7.out) f8.out) (bs HB.out))
       have i5 := a_ (Kd.R_lower (nw (nw (nw (nw ho1 d9.out) e0.out) f7.out) f8.out) (bs HB.out))
       replace d9 := a_ (ol2 d9.out hb ho0 ho1)
       replace e0 := a_ (ol2 e0.out hb ho0 ho1)
       replace f7 := a_ (ol2 f7.out hb ho0 ho1)
       replace f8 := a_ (ol2 f8.out hb ho0 ho1)
       replace b0 := a_ (blk_below (pk b0.out) hb)
       replace b3 := a_ (blk_below (pk b3.out) hb)
       replace b4 := a_ (blk_below (pk b4.out) hb)
       replace HB := a_ (below_step (by repeat (with_reducible first | exact HB.out | refine bz ?_ (by assumption) | apply bA | apply bN | apply bD)) hb)
       (try clear hb)
       (try clear hb2)
       (try clear hk)
       (try clear hi)
       (try clear ho0)
       (try clear ho1)
       refine hK.out _ _ ⟨(blk_cell b0.out 0).trans rfl, (blk_cell b0.out 1).trans rfl, (blk_cell b3.out 0).trans rfl, (blk_cell b3.out 1).trans rfl⟩ (fun f3 => ?_)
       clear hK K
       refine norm_ (a' := ?_) ?_ ?_
       rotate_left
       ·show Act.put _ (some 32) _ = _
        simp only [Act.put, sB, sC, sD, i64_w, i32_w]
        rfl
       refine pure_ (i := 5) (N := some 27) (v := ?_) (a' := ?_) #[true, true, true, true, true, true, false, false, true, false, false] rfl rfl (any_of HT_.out (by kernel_rfl)) (fun _ _ _ h => h) (Or.inl ⟨by rfl, ?_⟩) ?_ ?_
       rotate_left
       ·intro w'
        go_simp
        with_reducible rfl
       rotate_left
       ·simp only [Act.put, sB, sC, sD, i64_w, i32_w]
        rfl
       refine pure_ (i := 6) (N := some 33) (v := ?_) (a' := ?_) #[true, true, true, true, true, true, true, false, true, false, false] rfl rfl (any_of HT_.out (by kernel_rfl)) (fun _ _ _ h => h) (Or.inl ⟨by rfl, ?_⟩) ?_ ?_
       rotate_left
       ·intro w'
        go_simp
        with_reducible rfl
       rotate_left
       ·simp only [Act.put, sB, sC, sD, i64_w, i32_w]
        rfl
       refine pure_ (i := 7) (N := some 34) (v := ?_) (a' := ?_) #[true, true, true, true, true, true, true, true, true, false, false] rfl rfl (any_of HT_.out (by kernel_rfl)) (fun _ _ _ h => h) (Or.inl ⟨by rfl, ?_⟩) ?_ ?_
       rotate_left
       ·intro w'
        go_simp
        with_reducible rfl
       rotate_left
       ·simp only [Act.put, sB, sC, sD, i64_w, i32_w]
        rfl
       exact norm_ (by simp only [putAll, Act.put, sB, sC, sD]) (hCont (.slice u6 p5.length u7, .slice u9 p6.length v0, .slice v2 p7.length v3, .slice w8 p8.length x0, t6, t7, h8) _ ⟨f3, (rk (Kd.R_mono d9.out (fun _ hk => ⟨hk.1.1.1.1, hk.1.1.1.2, hk.1.1.2, hk.1.2, hk.2⟩))), (rk (Kd.R_mono e0.out (fun _ hk => ⟨hk.1.1.1.1, hk.1.1.1.2, hk.1.1.2, hk.1.2, hk.2⟩))), (rk (Kd.R_mono f7.out (fun _ hk => ⟨hk.1.1.1.2, hk.1.1.2, hk.1.1.1.1, hk.1.2, hk.2⟩))), (rk (Kd.R_mono f8.out (fun _ hk => ⟨hk.1.1.1.2, hk.1.1.2, hk.1.1.1.1, hk.1.2, hk.2⟩))), (rk (Kd.R_mono i4.out (fun _ hk => ⟨hk.1.1.1.2, hk.1.1.2, hk.1.2, hk.2, hk.1.1.1.1⟩))), (rk (Kd.R_mono i5.out (fun _ hk => ⟨hk.1.1.1.2, hk.1.1.2, hk.1.2, hk.2, hk.1.1.1.1⟩))), (pk b0.out), (pk b3.out), (pk b4.out), t9.out, u0.out, g3.out, h9.out, g4.out, i0.out, (by repeat (with_reducible first | exact HB.out | refine bz ?_ (by assumption) | apply bA | apply bN | apply bD))⟩)
     ·skip
      refine box_step ?hg (N := 6) ?hd (cs := #[.slice none 0 0, .slice none 0 0]) (t := 26) ?hr ?_; (case hd => rfl); (case hg => rfl); (case hr => first | (go_simp; done) | (go_simp; rfl))
      intro h8 hg Ze hbox hb
      replace d9 := a_ (Kd.R_below (rk d9.out) hb)
      replace e0 := a_ (Kd.R_below (rk e0.out) hb)
      have b4 := a_ (hbox)
      have t9 := a_ (bsg hg HB.out)
      have u0 := a_ (bsg hg HB.out)
      replace HB := a_ (below_step (by repeat (with_reducible first | exact HB.out | refine bz ?_ (by assumption) | apply bA | apply bN | apply bD)) hb)
      have g3 := a_ (nel hg b0.out)
      have h9 := a_ (nle hg b0.out)
      replace b0 := a_ (blk_below (pk b0.out) hb)
      have g4 := a_ (nel hg b3.out)
      have i0 := a_ (nle hg b3.out)
      replace b3 := a_ (blk_below (pk b3.out) hb)
      clear hb hbox hg
      refine hK.out _ _ ⟨(blk_cell b0.out 0).trans rfl, (blk_cell b0.out 1).trans rfl, (blk_cell b3.out 0).trans rfl, (blk_cell b3.out 1).trans rfl⟩ (fun f3 => ?_)
      clear hK K
      refine norm_ (a' := ?_) ?_ ?_
      rotate_left
      ·show Act.put _ (some 6) _ = _
       simp only [Act.put, sB, sC, sD, i64_w, i32_w]
       rfl
      refine one_ (i := 3) (N := some 31) #[true, true, true, true, false, false, false, false, true, false, false] rfl rfl (one_of HT_.out (by kernel_rfl)) (by decide) (fun K hK => ?_)
      refine goes_ Try.func8 (by kernel_rfl) rfl #[.agg #[.slice A1_0 l1_0.length c1_0, .slice A1_1 l1_1.length c1_1]] (by rfl) rfl rfl (by (try simp only [lA, lB, lC]); first | done | rfl | (simp only [lD, lE]; rfl)) ?_
      with_reducible refine (laws_toBox.calls k _ _ l1_0 _ _ l1_1 p7 p8 _ ?side1 ?side2 ?side3 ?side4 P5.out).mono ?_
      (case side1 => exact Kd.C_below s8.out (un HB.out))
      (case side2 => exact s9.out)
      (case side3 => exact Kd.C_below t0.out (un HB.out))
      (case side4 => exact t1.out)
      rintro e Zf ⟨w2, w3, rfl, ho0, ho1, hb⟩
      refine ⟨_, rfl, ?_⟩
      have f7 := a_ (Kd.R_lower (nw (nw ho0 d9.out) e0.out) (bs HB.out))
      have f8 := a_ (Kd.R_lower (nw (nw ho1 d9.out) e0.out) (bs HB.out))
      replace d9 := a_ (ol2 d9.out hb ho0 ho1)
      replace e0 := a_ (ol2 e0.out hb ho0 ho1)
      replace b0 := a_ (blk_below (pk b0.out) hb)
      replace b3 := a_ (blk_below (pk b3.out) hb)
      replace b4 := a_ (blk_below (pk b4.out) hb)
      replace HB := a_ (below_step (by repeat (with_reducible first | exact HB.out | refine bz ?_ (by assumption) | apply bA | apply bN | apply bD)) hb)
      (try clear hb)
      (try clear hb2)
      (try clear hk)
      (try clear hi)
      (try clear ho0)
      (try clear ho1)
      obtain ⟨u6, u7, u8⟩ := Kd.R_slice d9.out
      (first | subst u8 | (injection u8 with f1_ f2_ f3_; obtain rfl := f1_.symm; obtain rfl := f3_.symm))
      obtain ⟨u9, v0, v1⟩ := Kd.R_slice e0.out
      (first | subst v1 | (injection v1 with f1_ f2_ f3_; obtain rfl := f1_.symm; obtain rfl := f3_.symm))
      obtain ⟨v2, v3, v4⟩ := Kd.R_slice f7.out
      (first | subst v4 | (injection v4 with f1_ f2_ f3_; obtain rfl := f1_.symm; obtain rfl := f3_.symm))
      obtain ⟨w8, x0, x1⟩ := Kd.R_slice f8.out
      (first | subst x1 | (injection x1 with f1_ f2_ f3_; obtain rfl := f1_.symm; obtain rfl := f3_.symm))
      refine hK.out _ _ ⟨(blk_cell b0.out 0).trans rfl, (blk_cell b0.out 1).trans rfl, (blk_cell b3.out 0).trans rfl, (blk_cell b3.out 1).trans rfl⟩ (fun f3 => ?_)
      clear hK K
      refine norm_ (a' := ?_) ?_ ?_
      rotate_left
      ·show Act.put _ (some 31) _ = _
       simp only [Act.put, sB, sC, sD, i64_w, i32_w]
       rfl
      refine one_ (i := 4) (N := some 32) #[true, true, true, true, true, false, false, false, true, false, false] rfl rfl (one_of HT_.out (by kernel_rfl)) (by decide) (fun K hK => ?_)
      refine goes_ Try.func13 (by kernel_rfl) rfl #[.agg #[.slice u6 p5.length u7, .slice u9 p6.length v0], .agg #[.slice v2 p7.length v3, .slice w8 p8.length x0]] (by rfl) rfl rfl (by (try simp only [lA, lB, lC]); first | done | rfl | (simp only [lD, lE]; rfl)) ?_
      with_reducible refine (spec_BoxMeet.calls k _ _ p5 _ _ p6 _ _ p7 _ _ p8 d2 d3 h6 _ ?side1 ?side2 ?side3 ?side4 ?side5 ?side6 ?side7 ?side8 O1.out).mono ?_
      (case side1 => exact cu (Kd.R_reads' d9.out).2.2)
      (case side2 => exact (Kd.R_reads' d9.out).2.1)
      (case side3 => exact cu (Kd.R_reads' e0.out).2.2)
      (case side4 => exact (Kd.R_reads' e0.out).2.1)
      (case side5 => exact cu (Kd.R_reads' f7.out).2.2)
      (case side6 => exact (Kd.R_reads' f7.out).2.1)
      (case side7 => exact cu (Kd.R_reads' f8.out).2.2)
      (case side8 => exact (Kd.R_reads' f8.out).2.1)
      rintro e P6 ⟨t6, t7, rfl, ho0, ho1, hb⟩
      refine ⟨_, rfl, ?_⟩
      have i4 := a_ (Kd.R_lower (nw (nw (nw (nw ho0 d9.out) e0.out) f7.out) f8.out) (bs HB.out))
      have i5 := a_ (Kd.R_lower (nw (nw (nw (nw ho1 d9.out) e0.out) f7.out) f8.out) (bs HB.out))
      replace d9 := a_ (ol2 d9.out hb ho0 ho1)
      replace e0 := a_ (ol2 e0.out hb ho0 ho1)
      replace f7 := a_ (ol2 f7.out hb ho0 ho1)
      replace f8 := a_ (ol2 f8.out hb ho0 ho1)
      replace b0 := a_ (blk_below (pk b0.out) hb)
      replace b3 := a_ (blk_below (pk b3.out) hb)
      replace b4 := a_ (blk_below (pk b4.out) hb)
      replace HB := a_ (below_step (by repeat (with_reducible first | exact HB.out | refine bz ?_ (by assumption) | apply bA | apply bN | apply bD)) hb)
      (try clear hb)
      (try clear hb2)
      (try clear hk)
      (try clear hi)
      (try clear ho0)
      (try clear ho1)
      refine hK.out _ _ ⟨(blk_cell b0.out 0).trans rfl, (blk_cell b0.out 1).trans rfl, (blk_cell b3.out 0).trans rfl, (blk_cell b3.out 1).trans rfl⟩ (fun f3 => ?_)
      clear hK K
      refine norm_ (a' := ?_) ?_ ?_
      rotate_left
      ·show Act.put _ (some 32) _ = _
       simp only [Act.put, sB, sC, sD, i64_w, i32_w]
       rfl
      refine pure_ (i := 5) (N := some 27) (v := ?_) (a' := ?_) #[true, true, true, true, true, true, false, false, true, false, false] rfl rfl (any_of HT_.out (by kernel_rfl)) (fun _ _ _ h => h) (Or.inl ⟨by rfl, ?_⟩) ?_ ?_
      rotate_left
      ·intro w'
       go_simp
       with_reducible rfl
      rotate_left
      ·simp only [Act.put, sB, sC, sD, i64_w, i32_w]
       rfl
      refine pure_ (i := 6) (N := some 33) (v := ?_) (a' := ?_) #[true, true, true, true, true, true, true, false, true, false, false] rfl rfl (any_of HT_.out (by kernel_rfl)) (fun _ _ _ h => h) (Or.inl ⟨by rfl, ?_⟩) ?_ ?_
      rotate_left
      ·intro w'
       go_simp
       with_reducible rfl
      rotate_left
      ·simp only [Act.put, sB, sC, sD, i64_w, i32_w]
       rfl
      refine pure_ (i := 7) (N := some 34) (v := ?_) (a' := ?_) #[true, true, true, true, true, true, true, true, true, false, false] rfl rfl (any_of HT_.out (by kernel_rfl)) (fun _ _ _ h => h) (Or.inl ⟨by rfl, ?_⟩) ?_ ?_
      rotate_left
      ·intro w'
       go_simp
       with_reducible rfl
      rotate_left
      ·simp only [Act.put, sB, sC, sD, i64_w, i32_w]
       rfl
      exact norm_ (by simp only [putAll, Act.put, sB, sC, sD]) (hCont (.slice u6 p5.length u7, .slice u9 p6.length v0, .slice v2 p7.length v3, .slice w8 p8.length x0, t6, t7, h8) _ ⟨f3, (rk (Kd.R_mono d9.out (fun _ hk => ⟨hk.1.1.1.1, hk.1.1.1.2, hk.1.1.2, hk.1.2, hk.2⟩))), (rk (Kd.R_mono e0.out (fun _ hk => ⟨hk.1.1.1.1, hk.1.1.1.2, hk.1.1.2, hk.1.2, hk.2⟩))), (rk (Kd.R_mono f7.out (fun _ hk => ⟨hk.1.1.1.2, hk.1.1.2, hk.1.1.1.1, hk.1.2, hk.2⟩))), (rk (Kd.R_mono f8.out (fun _ hk => ⟨hk.1.1.1.2, hk.1.1.2, hk.1.1.1.1, hk.1.2, hk.2⟩))), (rk (Kd.R_mono i4.out (fun _ hk => ⟨hk.1.1.1.2, hk.1.1.2, hk.1.2, hk.2, hk.1.1.1.1⟩))), (rk (Kd.R_mono i5.out (fun _ hk => ⟨hk.1.1.1.2, hk.1.1.2, hk.1.2, hk.2, hk.1.1.1.1⟩))), (pk b0.out), (pk b3.out), (pk b4.out), t9.out, u0.out, g3.out, h9.out, g4.out, i0.out, (by repeat (with_reducible first | exact HB.out | refine bz ?_ (by assumption) | apply bA | apply bN | apply bD))⟩)
    ·skip
     refine box_step ?hg (N := 6) ?hd (cs := #[.slice none 0 0, .slice none 0 0]) (t := 26) ?hr ?_; (case hd => rfl); (case hg => rfl); (case hr => first | (go_simp; done) | (go_simp; rfl))
     intro h8 hg Ua hbox hb
     have b4 := a_ (hbox)
     have t9 := a_ (bsg hg HB.out)
     have u0 := a_ (bsg hg HB.out)
     replace HB := a_ (below_step (by repeat (with_reducible first | exact HB.out | refine bz ?_ (by assumption) | apply bA | apply bN | apply bD)) hb)
     have g3 := a_ (nel hg b0.out)
     have h9 := a_ (nle hg b0.out)
     replace b0 := a_ (blk_below (pk b0.out) hb)
     have g4 := a_ (nel hg b3.out)
     have i0 := a_ (nle hg b3.out)
     replace b3 := a_ (blk_below (pk b3.out) hb)
     clear hb hbox hg
     refine hK.out _ _ ⟨(blk_cell b0.out 0).trans rfl, (blk_cell b0.out 1).trans rfl, (blk_cell b3.out 0).trans rfl, (blk_cell b3.out 1).trans rfl⟩ (fun f3 => ?_)
     clear hK K
     refine norm_ (a' := ?_) ?_ ?_
     rotate_left
     ·show Act.put _ (some 6) _ = _
      simp only [Act.put, sB, sC, sD, i64_w, i32_w]
      rfl
     refine one_ (i := 1) (N := some 29) #[true, true, true, false, false, false, false, false, true, false, false] rfl rfl (one_of HT_.out (by kernel_rfl)) (by decide) (fun K hK => ?_)
     refine goes_ Try.func8 (by kernel_rfl) rfl #[.agg #[.slice A0_0 l0_0.length c0_0, .slice A0_1 l0_1.length c0_1]] (by rfl) rfl rfl (by (try simp only [lA, lB, lC]); first | done | rfl | (simp only [lD, lE]; rfl)) ?_
     with_reducible refine (laws_toBox.calls k _ _ l0_0 _ _ l0_1 p5 p6 _ ?side1 ?side2 ?side3 ?side4 Zb.out).mono ?_
     (case side1 => exact Kd.C_below t2.out (un HB.out))
     (case side2 => exact t3.out)
     (case side3 => exact Kd.C_below t4.out (un HB.out))
     (case side4 => exact t5.out)
     rintro e Ze ⟨w4, w7, rfl, ho0, ho1, hb⟩
     refine ⟨_, rfl, ?_⟩
     have d9 := a_ (Kd.R_lower ho0 (bs HB.out))
     have e0 := a_ (Kd.R_lower ho1 (bs HB.out))
     replace b0 := a_ (blk_below (pk b0.out) hb)
     replace b3 := a_ (blk_below (pk b3.out) hb)
     replace b4 := a_ (blk_below (pk b4.out) hb)
     replace HB := a_ (below_step (by repeat (with_reducible first | exact HB.out | refine bz ?_ (by assumption) | apply bA | apply bN | apply bD)) hb)
     (try clear hb)
     (try clear hb2)
     (try clear hk)
     (try clear hi)
     (try clear ho0)
     (try clear ho1)
     refine hK.out _ _ ⟨(blk_cell b0.out 0).trans rfl, (blk_cell b0.out 1).trans rfl, (blk_cell b3.out 0).trans rfl, (blk_cell b3.out 1).trans rfl⟩ (fun f3 => ?_)
     clear hK K
     refine norm_ (a' := ?_) ?_ ?_
     rotate_left
     ·show Act.put _ (some 29) _ = _
      simp only [Act.put, sB, sC, sD, i64_w, i32_w]
      rfl
     refine one_ (i := 3) (N := some 31) #[true, true, true, true, false, false, false, false, true, false, false] rfl rfl (one_of HT_.out (by kernel_rfl)) (by decide) (fun K hK => ?_)
     refine goes_ Try.func8 (by kernel_rfl) rfl #[.agg #[.slice A1_0 l1_0.length c1_0, .slice A1_1 l1_1.length c1_1]] (by rfl) rfl rfl (by (try simp only [lA, lB, lC]); first | done | rfl | (simp only [lD, lE]; rfl)) ?_
     with_reducible refine (laws_toBox.calls k _ _ l1_0 _ _ l1_1 p7 p8 _ ?side1 ?side2 ?side3 ?side4 P5.out).mono ?_
     (case side1 => exact Kd.C_below s8.out (un HB.out))
     (case side2 => exact s9.out)
     (case side3 => exact Kd.C_below t0.out (un HB.out))
     (case side4 => exact t1.out)
     rintro e Zf ⟨w2, w3, rfl, ho0, ho1, hb⟩
     refine ⟨_, rfl, ?_⟩
     have f7 := a_ (Kd.R_lower (nw (nw ho0 d9.out) e0.out) (bs HB.out))
     have f8 := a_ (Kd.R_lower (nw (nw ho1 d9.out) e0.out) (bs HB.out))
     replace d9 := a_ (ol2 d9.out hb ho0 ho1)
     replace e0 := a_ (ol2 e0.out hb ho0 ho1)
     replace b0 := a_ (blk_below (pk b0.out) hb)
     replace b3 := a_ (blk_below (pk b3.out) hb)
     replace b4 := a_ (blk_below (pk b4.out) hb)
     replace HB := a_ (below_step (by repeat (with_reducible first | exact HB.out | refine bz ?_ (by assumption) | apply bA | apply bN | apply bD)) hb)
     (try clear hb)
     (try clear hb2)
     (try clear hk)
     (try clear hi)
     (try clear ho0)
     (try clear ho1)
     obtain ⟨u6, u7, u8⟩ := Kd.R_slice d9.out
     (first | subst u8 | (injection u8 with f1_ f2_ f3_; obtain rfl := f1_.symm; obtain rfl := f3_.symm))
     obtain ⟨u9, v0, v1⟩ := Kd.R_slice e0.out
     (first | subst v1 | (injection v1 with f1_ f2_ f3_; obtain rfl := f1_.symm; obtain rfl := f3_.symm))
     obtain ⟨v2, v3, v4⟩ := Kd.R_slice f7.out
     (first | subst v4 | (injection v4 with f1_ f2_ f3_; obtain rfl := f1_.symm; obtain rfl := f3_.symm))
     obtain ⟨w8, x0, x1⟩ := Kd.R_slice f8.out
     (first | subst x1 | (injection x1 with f1_ f2_ f3_; obtain rfl := f1_.symm; obtain rfl := f3_.symm))
     refine hK.out _ _ ⟨(blk_cell b0.out 0).trans rfl, (blk_cell b0.out 1).trans rfl, (blk_cell b3.out 0).trans rfl, (blk_cell b3.out 1).trans rfl⟩ (fun f3 => ?_)
     clear hK K
     refine norm_ (a' := ?_) ?_ ?_
     rotate_left
     ·show Act.put _ (some 31) _ = _
      simp only [Act.put, sB, sC, sD, i64_w, i32_w]
      rfl
     refine one_ (i := 4) (N := some 32) #[true, true, true, true, true, false, false, false, true, false, false] rfl rfl (one_of HT_.out (by kernel_rfl)) (by decide) (fun K hK => ?_)
     refine goes_ Try.func13 (by kernel_rfl) rfl #[.agg #[.slice u6 p5.length u7, .slice u9 p6.length v0], .agg #[.slice v2 p7.length v3, .slice w8 p8.length x0]] (by rfl) rfl rfl (by (try simp only [lA, lB, lC]); first | done | rfl | (simp only [lD, lE]; rfl)) ?_
     with_reducible refine (spec_BoxMeet.calls k _ _ p5 _ _ p6 _ _ p7 _ _ p8 d2 d3 h6 _ ?side1 ?side2 ?side3 ?side4 ?side5 ?side6 ?side7 ?side8 O1.out).mono ?_
     (case side1 => exact cu (Kd.R_reads' d9.out).2.2)
     (case side2 => exact (Kd.R_reads' d9.out).2.1)
     (case side3 => exact cu (Kd.R_reads' e0.out).2.2)
     (case side4 => exact (Kd.R_reads' e0.out).2.1)
     (case side5 => exact cu (Kd.R_reads' f7.out).2.2)
     (case side6 => exact (Kd.R_reads' f7.out).2.1)
     (case side7 => exact cu (Kd.R_reads' f8.out).2.2)
     (case side8 => exact (Kd.R_reads' f8.out).2.1)
     rintro e P6 ⟨t6, t7, rfl, ho0, ho1, hb⟩
     refine ⟨_, rfl, ?_⟩
     have i4 := a_ (Kd.R_lower (nw (nw (nw (nw ho0 d9.out) e0.out) f7.out) f8.out) (bs HB.out))
     have i5 := a_ (Kd.R_lower (nw (nw (nw (nw ho1 d9.out) e0.out) f7.out) f8.out) (bs HB.out))
     replace d9 := a_ (ol2 d9.out hb ho0 ho1)
     replace e0 := a_ (ol2 e0.out hb ho0 ho1)
     replace f7 := a_ (ol2 f7.out hb ho0 ho1)
     replace f8 := a_ (ol2 f8.out hb ho0 ho1)
     replace b0 := a_ (blk_below (pk b0.out) hb)
     replace b3 := a_ (blk_below (pk b3.out) hb)
     replace b4 := a_ (blk_below (pk b4.out) hb)
     replace HB := a_ (below_step (by repeat (with_reducible first | exact HB.out | refine bz ?_ (by assumption) | apply bA | apply bN | apply bD)) hb)
     (try clear hb)
     (try clear hb2)
     (try clear hk)
     (try clear hi)
     (try clear ho0)
     (try clear ho1)
     refine hK.out _ _ ⟨(blk_cell b0.out 0).trans rfl, (blk_cell b0.out 1).trans rfl, (blk_cell b3.out 0).trans rfl, (blk_cell b3.out 1).trans rfl⟩ (fun f3 => ?_)
     clear hK K
     refine norm_ (a' := ?_) ?_ ?_
     rotate_left
     ·show Act.put _ (some 32) _ = _
      simp only [Act.put, sB, sC, sD, i64_w, i32_w]
      rfl
     refine pure_ (i := 5) (N := some 27) (v := ?_) (a' := ?_) #[true, true, true, true, true, true, false, false, true, false, false] rfl rfl (any_of HT_.out (by kernel_rfl)) (fun _ _ _ h => h) (Or.inl ⟨by rfl, ?_⟩) ?_ ?_
     rotate_left
     ·intro w'
      go_simp
      with_reducible rfl
     rotate_left
     ·simp only [Act.put, sB, sC, sD, i64_w, i32_w]
      rfl
     refine pure_ (i := 6) (N := some 33) (v := ?_) (a' := ?_) #[true, true, true, true, true, true, true, false, true, false, false] rfl rfl (any_of HT_.out (by kernel_rfl)) (fun _ _ _ h => h) (Or.inl ⟨by rfl, ?_⟩) ?_ ?_
     rotate_left
     ·intro w'
      go_simp
      with_reducible rfl
     rotate_left
     ·simp only [Act.put, sB, sC, sD, i64_w, i32_w]
      rfl
     refine pure_ (i := 7) (N := some 34) (v := ?_) (a' := ?_) #[true, true, true, true, true, true, true, true, true, false, false] rfl rfl (any_of HT_.out (by kernel_rfl)) (fun _ _ _ h => h) (Or.inl ⟨by rfl, ?_⟩) ?_ ?_
     rotate_left
     ·intro w'
      go_simp
      with_reducible rfl
     rotate_left
     ·simp only [Act.put, sB, sC, sD, i64_w, i32_w]
      rfl
     exact norm_ (by simp only [putAll, Act.put, sB, sC, sD]) (hCont (.slice u6 p5.length u7, .slice u9 p6.length v0, .slice v2 p7.length v3, .slice w8 p8.length x0, t6, t7, h8) _ ⟨f3, (rk (Kd.R_mono d9.out (fun _ hk => ⟨hk.1.1.1.1, hk.1.1.1.2, hk.1.1.2, hk.1.2, hk.2⟩))), (rk (Kd.R_mono e0.out (fun _ hk => ⟨hk.1.1.1.1, hk.1.1.1.2, hk.1.1.2, hk.1.2, hk.2⟩))), (rk (Kd.R_mono f7.out (fun _ hk => ⟨hk.1.1.1.2, hk.1.1.2, hk.1.1.1.1, hk.1.2, hk.2⟩))), (rk (Kd.R_mono f8.out (fun _ hk => ⟨hk.1.1.1.2, hk.1.1.2, hk.1.1.1.1, hk.1.2, hk.2⟩))), (rk (Kd.R_mono i4.out (fun _ hk => ⟨hk.1.1.1.2, hk.1.1.2, hk.1.2, hk.2, hk.1.1.1.1⟩))), (rk (Kd.R_mono i5.out (fun _ hk => ⟨hk.1.1.1.2, hk.1.1.2, hk.1.2, hk.2, hk.1.1.1.1⟩))), (pk b0.out), (pk b3.out), (pk b4.out), t9.out, u0.out, g3.out, h9.out, g4.out, i0.out, (by repeat (with_reducible first | exact HB.out | refine bz ?_ (by assumption) | apply bA | apply bN | apply bD))⟩)
   rintro ⟨w4, w7, w2, w3, t6, t7, h8⟩ x2 ⟨hS_, h0_, h1_, h2_, h3_, h4_, h5_, h6_, h7_, h8_, h9_, h10_, h11_, h12_, h13_, h14_, h15_⟩
   have n0_ : Aside0 (Kd.R Kd.flt 39 x2 w.heap.size (fun k_ => N_ w7 k_ ∧ N_ w2 k_ ∧ N_ w3 k_ ∧ N_ t6 k_ ∧ N_ t7 k_) w4 p5) := ⟨h0_⟩
   have n1_ : Aside0 (Kd.R Kd.flt 39 x2 w.heap.size (fun k_ => N_ w4 k_ ∧ N_ w2 k_ ∧ N_ w3 k_ ∧ N_ t6 k_ ∧ N_ t7 k_) w7 p6) := ⟨h1_⟩
   have n2_ : Aside0 (Kd.R Kd.flt 39 x2 w.heap.size (fun k_ => N_ w4 k_ ∧ N_ w7 k_ ∧ N_ w3 k_ ∧ N_ t6 k_ ∧ N_ t7 k_) w2 p7) := ⟨h2_⟩
   have n3_ : Aside0 (Kd.R Kd.flt 39 x2 w.heap.size (fun k_ => N_ w4 k_ ∧ N_ w7 k_ ∧ N_ w2 k_ ∧ N_ t6 k_ ∧ N_ t7 k_) w3 p8) := ⟨h3_⟩
   have n4_ : Aside0 (Kd.R Kd.flt 39 x2 w.heap.size (fun k_ => N_ w4 k_ ∧ N_ w7 k_ ∧ N_ w2 k_ ∧ N_ w3 k_ ∧ N_ t7 k_) t6 d2) := ⟨h4_⟩
   have n5_ : Aside0 (Kd.R Kd.flt 39 x2 w.heap.size (fun k_ => N_ w4 k_ ∧ N_ w7 k_ ∧ N_ w2 k_ ∧ N_ w3 k_ ∧ N_ t6 k_) t7 d3) := ⟨h5_⟩
   have n6_ : Aside0 (x2.heap[i9]? = some (.cells #[.slice A0_0 l0_0.length c0_0, .slice A0_1 l0_1.length c0_1] 24 (0, 0))) := ⟨h6_⟩
   have n7_ : Aside0 (x2.heap[j3]? = some (.cells #[.slice A1_0 l1_0.length c1_0, .slice A1_1 l1_1.length c1_1] 24 (0, 0))) := ⟨h7_⟩
   have n8_ : Aside0 (x2.heap[h8]? = some (.cells #[.slice none 0 0, .slice none 0 0] 26 (0, 0))) := ⟨h8_⟩
   have n9_ : Aside0 (w.heap.size ≤ h8) := ⟨h9_⟩
   have n10_ : Aside0 (w.heap.size ≤ h8) := ⟨h10_⟩
   have n11_ : Aside0 (i9 ≠ h8) := ⟨h11_⟩
   have n12_ : Aside0 (h8 ≠ i9) := ⟨h12_⟩
   have n13_ : Aside0 (j3 ≠ h8) := ⟨h13_⟩
   have n14_ : Aside0 (h8 ≠ j3) := ⟨h14_⟩
   have n15_ : Aside0 (Below w.heap.size w x2) := ⟨h15_⟩
   clear b0
   clear b3
   clear HB
   clear h0_ h1_ h2_ h3_ h4_ h5_ h6_ h7_ h8_ h9_ h10_ h11_ h12_ h13_ h14_ h15_
   have d9 := n0_
   have e0 := n1_
   have f7 := n2_
   have f8 := n3_
   have i4 := n4_
   have i5 := n5_
   have b0 := n6_
   have b3 := n7_
   have b4 := n8_
   have t9 := n9_
   have u0 := n10_
   have g3 := n11_
   have h9 := n12_
   have g4 := n13_
   have i0 := n14_
   have HB := n15_
   clear n0_ n1_ n2_ n3_ n4_ n5_ n6_ n7_ n8_ n9_ n10_ n11_ n12_ n13_ n14_ n15_
   have f3 : x2.cell? ⟨i9, 0, none⟩ = some (.slice A0_0 l0_0.length c0_0) ∧ x2.cell? ⟨i9, 1, none⟩ = some (.slice A0_1 l0_1.length c0_1) ∧ x2.cell? ⟨j3, 0, none⟩ = some (.slice A1_0 l1_0.length c1_0) ∧ x2.cell? ⟨j3, 1, none⟩ = some (.slice A1_1 l1_1.length c1_1) := hS_
   obtain ⟨e5, e6, L3⟩ := Kd.R_slice i4.out
   (first | subst L3 | (injection L3 with f1_ f2_ f3_; obtain rfl := f1_.symm; obtain rfl := f3_.symm))
   obtain ⟨e9, f0, L4⟩ := Kd.R_slice i5.out
   (first | subst L4 | (injection L4 with f1_ f2_ f3_; obtain rfl := f1_.symm; obtain rfl := f3_.symm))
   refine norm_ (a' := ?_) ?_ ?_
   rotate_left
   ·simp only [putAll, Act.put, sB, sC, sD]
    rfl
   refine one_ (i := 9) (N := none) #[true, true, true, true, true, true, true, true, true, true, false] rfl rfl (one_of HT_.out (by kernel_rfl)) (by decide) (fun K hK => ?_)
   have hs44 : x2.cell? ⟨h8, 0, none⟩ = some (.slice none 0 0) := (blk_cell b4.out 0).trans rfl
   have hfs44 := blk_frozen b4.out 0
   have hns44_0 := g3.out
   have hns44_1 := g4.out
   have hms44_0 := h9.out
   have hms44_1 := i0.out
   have hs46 : x2.cell? ⟨h8, 1, none⟩ = some (.slice none 0 0) := (blk_cell b4.out 1).trans rfl
   have hfs46 := blk_frozen b4.out 1
   have hns46_0 := g3.out
   have hns46_1 := g4.out
   have hms46_0 := h9.out
   have hms46_1 := i0.out
   refine skip_ (w1 := ?_) ?_ ?_ ?_ ?_
   rotate_left
   ·rfl
   ·rfl
   ·go_simp
    rfl
   refine hK.out _ _ ⟨((cell_far (p := ⟨h8, _, none⟩) g3.out _).trans (((cell_far (p := ⟨h8, _, none⟩) g3.out _).trans (f3.1)))), ((cell_far (p := ⟨h8, _, none⟩) g3.out _).trans (((cell_far (p := ⟨h8, _, none⟩) g3.out _).trans (f3.2.1)))), ((cell_far (p := ⟨h8, _, none⟩) g4.out _).trans (((cell_far (p := ⟨h8, _, none⟩) g4.out _).trans (f3.2.2.1)))), ((cell_far (p := ⟨h8, _, none⟩) g4.out _).trans (((cell_far (p := ⟨h8, _, none⟩) g4.out _).trans (f3.2.2.2))))⟩ (fun f3 => ?_)
   clear hK K
   refine pure_ (i := 10) (N := some 7) (v := ?_) (a' := ?_) #[true, true, true, true, true, true, true, true, true, true, true] rfl rfl (any_of HT_.out (by kernel_rfl)) (fun _ _ _ h => h) (Or.inl ⟨by rfl, ?_⟩) ?_ ?_
   rotate_left
   ·intro w'
    go_simp
    with_reducible rfl
   rotate_left
   ·simp only [Act.put, sB, sC, sD, i64_w, i32_w]
    rfl
   refine done_ (done_of HT_.out (by kernel_rfl)) ?_
   have Zg := g3.out
   have Zh := h9.out
   have D2 : _ = some (Value.slice A0_0 l0_0.length c0_0) := (blk_cell b0.out 0).trans rfl
   have D3 : _ = some (Value.slice A0_1 l0_1.length c0_1) := (blk_cell b0.out 1).trans rfl
   have D4 := blk_frozen b0.out 0
   have D5 := blk_frozen b0.out 1
   go_upto_region 12 with (first | ((with_reducible refine gate_callee (f := 8) rfl ?_); refine goesL_ (some 36) rfl rfl Try.func8 (by kernel_rfl) rfl #[.agg #[.slice A0_0 l0_0.length c0_0, .slice A0_1 l0_1.length c0_1]] rfl (by (try simp only [lA, lB, lC]); first | done | rfl | (simp only [lD, lE]; rfl)) ?_; (with_reducible refine (laws_toBox.calls k _ _ l0_0 _ _ l0_1 g5 g6 _ ?side1 ?side2 ?side3 ?side4 Vw.out).mono ?_); (case side1 => exact Kd.C_below t2.out (by repeat (with_reducible first | exact HB.out | refine bz ?_ (by assumption) | apply bA | apply bN | apply bD))); (case side2 => exact t3.out); (case side3 => exact Kd.C_below t4.out (by repeat (with_reducible first | exact HB.out | refine bz ?_ (by assumption) | apply bA | apply bN | apply bD))); (case side4 => exact t5.out); rintro e Mk ⟨Ub, Uc, rfl, ho0, ho1, hb⟩; refine ⟨_, rfl, ?_⟩; have l2 := a_ (Kd.R_lower (nw (nw (nw (nw (nw (nw ho0 d9.out) e0.out) f7.out) f8.out) i4.out) i5.out) (bs HB.out)); have l3 := a_ (Kd.R_lower (nw (nw (nw (nw (nw (nw ho1 d9.out) e0.out) f7.out) f8.out) i4.out) i5.out) (bs HB.out)); replace d9 := a_ (ol2 (Kd.R_mono (fr2 d9.out b4.out (by decide) 0 (.slice e5 d2.length e6) 1 (.slice e9 d3.length f0)) (fun _ h_ => h_.1)) hb ho0 ho1); replace e0 := a_ (ol2 (Kd.R_mono (fr2 e0.out b4.out (by decide) 0 (.slice e5 d2.length e6) 1 (.slice e9 d3.length f0)) (fun _ h_ => h_.1)) hb ho0 ho1); replace f7 := a_ (ol2 (Kd.R_mono (fr2 f7.out b4.out (by decide) 0 (.slice e5 d2.length e6) 1 (.slice e9 d3.length f0)) (fun _ h_ => h_.1)) hb ho0 ho1); replace f8 := a_ (ol2 (Kd.R_mono (fr2 f8.out b4.out (by decide) 0 (.slice e5 d2.length e6) 1 (.slice e9 d3.length f0)) (fun _ h_ => h_.1)) hb ho0 ho1); replace i4 := a_ (ol2 (Kd.R_mono (fr2 i4.out b4.out (by decide) 0 (.slice e5 d2.length e6) 1 (.slice e9 d3.length f0)) (fun _ h_ => h_.1)) hb ho0 ho1); replace i5 := a_ (ol2 (Kd.R_mono (fr2 i5.out b4.out (by decide) 0 (.slice e5 d2.length e6) 1 (.slice e9 d3.length f0)) (fun _ h_ => h_.1)) hb ho0 ho1); replace b0 := a_ (blk_below (g := i9) (o := .cells #[.slice A0_0 l0_0.length c0_0, .slice A0_1 l0_1.length c0_1] 24 (0, 0)) (by refine pk ?_; refine blk_far ?_ g3.out _; refine pk ?_; refine blk_far ?_ g3.out _; refine pk ?_; exact b0.out) hb); replace b3 := a_ (blk_below (g := j3) (o := .cells #[.slice A1_0 l1_0.length c1_0, .slice A1_1 l1_1.length c1_1] 24 (0, 0)) (by refine pk ?_; refine blk_far ?_ g4.out _; refine pk ?_; refine blk_far ?_ g4.out _; refine pk ?_; exact b3.out) hb); replace b4 := a_ (blk_below (g := h8) (o := .cells #[.slice e5 d2.length e6, .slice e9 d3.length f0] 26 (0, 0)) (by refine pk ?_; refine blk_put (cs := #[.slice e5 d2.length e6, .slice none 0 0]) ?_ 1 _ rfl; refine pk ?_; refine blk_put (cs := #[.slice none 0 0, .slice none 0 0]) ?_ 0 _ rfl; refine pk ?_; exact b4.out) hb); replace HB := a_ (below_step (by repeat (with_reducible first | exact HB.out | refine bz ?_ (by assumption) | apply bA | apply bN | apply bD)) hb); clear hb ho0 ho1) | ((with_reducible refine gate_dst (N := 8) rfl ?_); refine box_event ?hg (N := 8) ?hd (cs := #[.slice none 0 0, .slice none 0 0]) (t := 26) ?hr ?_; (case hd => rfl); (case hg => rfl); (case hr => first | (go_simp; done) | (go_simp; rfl)); intro n4 hg Ml hbox hb; replace d9 := a_ (Kd.R_below (rk d9.out) hb); replace e0 := a_ (Kd.R_below (rk e0.out) hb); replace f7 := a_ (Kd.R_below (rk f7.out) hb); replace f8 := a_ (Kd.R_below (rk f8.out) hb); replace i4 := a_ (Kd.R_below (rk i4.out) hb); replace i5 := a_ (Kd.R_below (rk i5.out) hb); replace l2 := a_ (Kd.R_below (rk l2.out) hb); replace l3 := a_ (Kd.R_below (rk l3.out) hb); have c0 := a_ (hbox); have Zi := a_ (bsg hg HB.out); have Zj := a_ (bsg hg HB.out); replace HB := a_ (below_step (by repeat (with_reducible first | exact HB.out | refine bz ?_ (by assumption) | apply bA | apply bN | apply bD)) hb); have r5 := a_ (nel hg b0.out); have v6 := a_ (nle hg b0.out); replace b0 := a_ (blk_below (pk b0.out) hb); have r6 := a_ (nel hg b3.out); have v7 := a_ (nle hg b3.out); replace b3 := a_ (blk_below (pk b3.out) hb); have l0 := a_ (nel hg b4.out); have l9 := a_ (nle hg b4.out); replace b4 := a_ (blk_below (pk b4.out) hb); clear hb hbox hg; obtain ⟨e7, e8, P7⟩ := Kd.R_slice l2.out; subst P7; have Zk := v6.out; have Zl := r5.out; have Zm := v7.out; have Zn := r6.out; have Zo := l9.out; have Zp := l0.out; have D6 : _ = some (Value.slice none 0 0) := (blk_cell c0.out 0).trans rfl; have D7 : _ = some (Value.slice none 0 0) := (blk_cell c0.out 1).trans rfl; have D8 := blk_frozen c0.out 0; have D9 := blk_frozen c0.out 1; obtain ⟨f1, f2, P8⟩ := Kd.R_slice l3.out; subst P8; have Zq := g4.out; have Zr := i0.out; have E0 : _ = some (Value.slice A1_0 l1_0.length c1_0) := (blk_cell b3.out 0).trans rfl; have E1 : _ = some (Value.slice A1_1 l1_1.length c1_1) := (blk_cell b3.out 1).trans rfl; have E2 := blk_frozen b3.out 0; have E3 := blk_frozen b3.out 1) | ((with_reducible refine gate_callee (f := 8) rfl ?_); refine goesL_ (some 38) rfl rfl Try.func8 (by kernel_rfl) rfl #[.agg #[.slice A1_0 l1_0.length c1_0, .slice A1_1 l1_1.length c1_1]] rfl (by (try simp only [lA, lB, lC]); first | done | rfl | (simp only [lD, lE]; rfl)) ?_; (with_reducible refine (laws_toBox.calls k _ _ l1_0 _ _ l1_1 f9 g2 _ ?side1 ?side2 ?side3 ?side4 Vx.out).mono ?_); (case side1 => exact Kd.C_below s8.out (by repeat (with_reducible first | exact HB.out | refine bz ?_ (by assumption) | apply bA | apply bN | apply bD))); (case side2 => exact s9.out); (case side3 => exact Kd.C_below t0.out (by repeat (with_reducible first | exact HB.out | refine bz ?_ (by assumption) | apply bA | apply bN | apply bD))); (case side4 => exact t1.out); rintro e Mm ⟨Ud, Ue, rfl, ho0, ho1, hb⟩; refine ⟨_, rfl, ?_⟩; have n5 := a_ (Kd.R_lower (nw (nw (nw (nw (nw (nw (nw (nw ho0 d9.out) e0.out) f7.out) f8.out) i4.out) i5.out) l2.out) l3.out) (bs HB.out)); have n6 := a_ (Kd.R_lower (nw (nw (nw (nw (nw (nw (nw (nw ho1 d9.out) e0.out) f7.out) f8.out) i4.out) i5.out) l2.out) l3.out) (bs HB.out)); replace d9 := a_ (ol2 (Kd.R_mono (fr2 d9.out c0.out (by decide) 0 (.slice e7 g5.length e8) 1 (.slice f1 g6.length f2)) (fun _ h_ => h_.1)) hb ho0 ho1); replace e0 := a_ (ol2 (Kd.R_mono (fr2 e0.out c0.out (by decide) 0 (.slice e7 g5.length e8) 1 (.slice f1 g6.length f2)) (fun _ h_ => h_.1)) hb ho0 ho1); replace f7 := a_ (ol2 (Kd.R_mono (fr2 f7.out c0.out (by decide) 0 (.slice e7 g5.length e8) 1 (.slice f1 g6.length f2)) (fun _ h_ => h_.1)) hb ho0 ho1); replace f8 := a_ (ol2 (Kd.R_mono (fr2 f8.out c0.out (by decide) 0 (.slice e7 g5.length e8) 1 (.slice f1 g6.length f2)) (fun _ h_ => h_.1)) hb ho0 ho1); replace i4 := a_ (ol2 (Kd.R_mono (fr2 i4.out c0.out (by decide) 0 (.slice e7 g5.length e8) 1 (.slice f1 g6.length f2)) (fun _ h_ => h_.1)) hb ho0 ho1); replace i5 := a_ (ol2 (Kd.R_mono (fr2 i5.out c0.out (by decide) 0 (.slice e7 g5.length e8) 1 (.slice f1 g6.length f2)) (fun _ h_ => h_.1)) hb ho0 ho1); replace l2 := a_ (ol2 (Kd.R_mono (fr2 l2.out c0.out (by decide) 0 (.slice e7 g5.length e8) 1 (.slice f1 g6.length f2)) (fun _ h_ => h_.1)) hb ho0 ho1); replace l3 := a_ (ol2 (Kd.R_mono (fr2 l3.out c0.out (by decide) 0 (.slice e7 g5.length e8) 1 (.slice f1 g6.length f2)) (fun _ h_ => h_.1)) hb ho0 ho1); replace b0 := a_ (blk_below (g := i9) (o := .cells #[.slice A0_0 l0_0.length c0_0, .slice A0_1 l0_1.length c0_1] 24 (0, 0)) (by refine pk ?_; refine blk_far ?_ r5.out _; refine pk ?_; refine blk_far ?_ r5.out _; refine pk ?_; exact b0.out) hb); replace b3 := a_ (blk_below (g := j3) (o := .cells #[.slice A1_0 l1_0.length c1_0, .slice A1_1 l1_1.length c1_1] 24 (0, 0)) (by refine pk ?_; refine blk_far ?_ r6.out _; refine pk ?_; refine blk_far ?_ r6.out _; refine pk ?_; exact b3.out) hb); replace b4 := a_ (blk_below (g := h8) (o := .cells #[.slice e5 d2.length e6, .slice e9 d3.length f0] 26 (0, 0)) (by refine pk ?_; refine blk_far ?_ l0.out _; refine pk ?_; refine blk_far ?_ l0.out _; refine pk ?_; exact b4.out) hb); replace c0 := a_ (blk_below (g := n4) (o := .cells #[.slice e7 g5.length e8, .slice f1 g6.length f2] 26 (0, 0)) (by refine pk ?_; refine blk_put (cs := #[.slice e7 g5.length e8, .slice none 0 0]) ?_ 1 _ rfl; refine pk ?_; refine blk_put (cs := #[.slice none 0 0, .slice none 0 0]) ?_ 0 _ rfl; refine pk ?_; exact c0.out) hb); replace HB := a_ (below_step (by repeat (with_reducible first | exact HB.out | refine bz ?_ (by assumption) | apply bA | apply bN | apply bD)) hb); clear hb ho0 ho1) | ((with_reducible refine gate_dst (N := 9) rfl ?_); refine box_event ?hg (N := 9) ?hd (cs := #[.slice none 0 0, .slice none 0 0]) (t := 26) ?hr ?_; (case hd => rfl); (case hg => rfl); (case hr => first | (go_simp; done) | (go_simp; rfl)); intro n8 hg Mn hbox hb; replace d9 := a_ (Kd.R_below (rk d9.out) hb); replace e0 := a_ (Kd.R_below (rk e0.out) hb); replace f7 := a_ (Kd.R_below (rk f7.out) hb); replace f8 := a_ (Kd.R_below (rk f8.out) hb); replace i4 := a_ (Kd.R_below (rk i4.out) hb); replace i5 := a_ (Kd.R_below (rk i5.out) hb); replace l2 := a_ (Kd.R_below (rk l2.out) hb); replace l3 := a_ (Kd.R_below (rk l3.out) hb); replace n5 := a_ (Kd.R_below (rk n5.out) hb); replace n6 := a_ (Kd.R_below (rk n6.out) hb); have c3 := a_ (hbox); have Zs := a_ (bsg hg HB.out); have Zt := a_ (bsg hg HB.out); replace HB := a_ (below_step (by repeat (with_reducible first | exact HB.out | refine bz ?_ (by assumption) | apply bA | apply bN | apply bD)) hb); have r7 := a_ (nel hg b0.out); have v8 := a_ (nle hg b0.out); replace b0 := a_ (blk_below (pk b0.out) hb); have r8 := a_ (nel hg b3.out); have v9 := a_ (nle hg b3.out); replace b3 := a_ (blk_below (pk b3.out) hb); have l1 := a_ (nel hg b4.out); have m0 := a_ (nle hg b4.out); replace b4 := a_ (blk_below (pk b4.out) hb); have r9 := a_ (nel hg c0.out); have w0 := a_ (nle hg c0.out); replace c0 := a_ (blk_below (pk c0.out) hb); clear hb hbox hg; obtain ⟨e1, e2, P9⟩ := Kd.R_slice n5.out; subst P9; have Zu := v8.out; have Zv := r7.out; have Zw := v9.out; have Zx := r8.out; have Zy := m0.out; have Zz := l1.out; have Ja := w0.out; have Jb := r9.out; have E4 : _ = some (Value.slice none 0 0) := (blk_cell c3.out 0).trans rfl; have E5 : _ = some (Value.slice none 0 0) := (blk_cell c3.out 1).trans rfl; have E6 := blk_frozen c3.out 0; have E7 := blk_frozen c3.out 1; obtain ⟨e3, e4, Q0⟩ := Kd.R_slice n6.out; subst Q0; have E8 : _ = some (Value.slice e7 g5.length e8) := (blk_cell c0.out 0).trans rfl; have E9 : _ = some (Value.slice f1 g6.length f2) := (blk_cell c0.out 1).trans rfl; have F0 := blk_frozen c0.out 0; have F1 := blk_frozen c0.out 1) | ((with_reducible refine gate_callee (f := 14) rfl ?_); refine goesL_ (some 42) rfl rfl Try.func14 (by kernel_rfl) rfl #[.agg #[.slice e7 g5.length e8, .slice f1 g6.length f2], .agg #[.slice e1 f9.length e2, .slice e3 g2.length e4]] rfl (by (try simp only [lA, lB, lC]); first | done | rfl | (simp only [lD, lE]; rfl)) ?_; (with_reducible refine (impl_BoxMeet.calls k _ _ g5 _ _ g6 _ _ f9 _ _ g2 d0 d1 p9 _ ?side1 ?side2 ?side3 ?side4 ?side5 ?side6 ?side7 ?side8 Vy.out).mono ?_); (case side1 => exact cu (Kd.R_reads' (fr2 l2.out c3.out (by decide) 0 (.slice e1 f9.length e2) 1 (.slice e3 g2.length e4))).2.2); (case side2 => exact (Kd.R_reads' l2.out).2.1); (case side3 => exact cu (Kd.R_reads' (fr2 l3.out c3.out (by decide) 0 (.slice e1 f9.length e2) 1 (.slice e3 g2.length e4))).2.2); (case side4 => exact (Kd.R_reads' l3.out).2.1); (case side5 => exact cu (Kd.R_reads' (fr2 n5.out c3.out (by decide) 0 (.slice e1 f9.length e2) 1 (.slice e3 g2.length e4))).2.2); (case side6 => exact (Kd.R_reads' n5.out).2.1); (case side7 => exact cu (Kd.R_reads' (fr2 n6.out c3.out (by decide) 0 (.slice e1 f9.length e2) 1 (.slice e3 g2.length e4))).2.2); (case side8 => exact (Kd.R_reads' n6.out).2.1); rintro e Mo ⟨Uf, Ug, rfl, ho0, ho1, hb⟩; refine ⟨_, rfl, ?_⟩; have o9 := a_ (Kd.R_lower (nw (nw (nw (nw (nw (nw (nw (nw (nw (nw ho0 d9.out) e0.out) f7.out) f8.out) i4.out) i5.out) l2.out) l3.out) n5.out) n6.out) (bs HB.out)); have p0 := a_ (Kd.R_lower (nw (nw (nw (nw (nw (nw (nw (nw (nw (nw ho1 d9.out) e0.out) f7.out) f8.out) i4.out) i5.out) l2.out) l3.out) n5.out) n6.out) (bs HB.out)); replace d9 := a_ (ol2 (Kd.R_mono (fr2 d9.out c3.out (by decide) 0 (.slice e1 f9.length e2) 1 (.slice e3 g2.length e4)) (fun _ h_ => h_.1)) hb ho0 ho1); replace e0 := a_ (ol2 (Kd.R_mono (fr2 e0.out c3.out (by decide) 0 (.slice e1 f9.length e2) 1 (.slice e3 g2.length e4)) (fun _ h_ => h_.1)) hb ho0 ho1); replace f7 := a_ (ol2 (Kd.R_mono (fr2 f7.out c3.out (by decide) 0 (.slice e1 f9.length e2) 1 (.slice e3 g2.length e4)) (fun _ h_ => h_.1)) hb ho0 ho1); replace f8 := a_ (ol2 (Kd.R_mono (fr2 f8.out c3.out (by decide) 0 (.slice e1 f9.length e2) 1 (.slice e3 g2.length e4)) (fun _ h_ => h_.1)) hb ho0 ho1); replace i4 := a_ (ol2 (Kd.R_mono (fr2 i4.out c3.out (by decide) 0 (.slice e1 f9.length e2) 1 (.slice e3 g2.length e4)) (fun _ h_ => h_.1)) hb ho0 ho1); replace i5 := a_ (ol2 (Kd.R_mono (fr2 i5.out c3.out (by decide) 0 (.slice e1 f9.length e2) 1 (.slice e3 g2.length e4)) (fun _ h_ => h_.1)) hb ho0 ho1); replace l2 := a_ (ol2 (Kd.R_mono (fr2 l2.out c3.out (by decide) 0 (.slice e1 f9.length e2) 1 (.slice e3 g2.length e4)) (fun _ h_ => h_.1)) hb ho0 ho1); replace l3 := a_ (ol2 (Kd.R_mono (fr2 l3.out c3.out (by decide) 0 (.slice e1 f9.length e2) 1 (.slice e3 g2.length e4)) (fun _ h_ => h_.1)) hb ho0 ho1); replace n5 := a_ (ol2 (Kd.R_mono (fr2 n5.out c3.out (by decide) 0 (.slice e1 f9.length e2) 1 (.slice e3 g2.length e4)) (fun _ h_ => h_.1)) hb ho0 ho1); replace n6 := a_ (ol2 (Kd.R_mono (fr2 n6.out c3.out (by decide) 0 (.slice e1 f9.length e2) 1 (.slice e3 g2.length e4)) (fun _ h_ => h_.1)) hb ho0 ho1); replace b0 := a_ (blk_below (g := i9) (o := .cells #[.slice A0_0 l0_0.length c0_0, .slice A0_1 l0_1.length c0_1] 24 (0, 0)) (by refine pk ?_; refine blk_far ?_ r7.out _; refine pk ?_; refine blk_far ?_ r7.out _; refine pk ?_; exact b0.out) hb); replace b3 := a_ (blk_below (g := j3) (o := .cells #[.slice A1_0 l1_0.length c1_0, .slice A1_1 l1_1.length c1_1] 24 (0, 0)) (by refine pk ?_; refine blk_far ?_ r8.out _; refine pk ?_; refine blk_far ?_ r8.out _; refine pk ?_; exact b3.out) hb); replace b4 := a_ (blk_below (g := h8) (o := .cells #[.slice e5 d2.length e6, .slice e9 d3.length f0] 26 (0, 0)) (by refine pk ?_; refine blk_far ?_ l1.out _; refine pk ?_; refine blk_far ?_ l1.out _; refine pk ?_; exact b4.out) hb); replace c0 := a_ (blk_below (g := n4) (o := .cells #[.slice e7 g5.length e8, .slice f1 g6.length f2] 26 (0, 0)) (by refine pk ?_; refine blk_far ?_ r9.out _; refine pk ?_; refine blk_far ?_ r9.out _; refine pk ?_; exact c0.out) hb); replace c3 := a_ (blk_below (g := n8) (o := .cells #[.slice e1 f9.length e2, .slice e3 g2.length e4] 26 (0, 0)) (by refine pk ?_; refine blk_put (cs := #[.slice e1 f9.length e2, .slice none 0 0]) ?_ 1 _ rfl; refine pk ?_; refine blk_put (cs := #[.slice none 0 0, .slice none 0 0]) ?_ 0 _ rfl; refine pk ?_; exact c3.out) hb); replace HB := a_ (below_step (by repeat (with_reducible first | exact HB.out | refine bz ?_ (by assumption) | apply bA | apply bN | apply bD)) hb); clear hb ho0 ho1) | ((with_reducible refine gate_dst (N := 10) rfl ?_); refine box_event ?hg (N := 10) ?hd (cs := #[.slice none 0 0, .slice none 0 0]) (t := 26) ?hr ?_; (case hd => rfl); (case hg => rfl); (case hr => first | (go_simp; done) | (go_simp; rfl)); intro n7 hg Mp hbox hb; replace d9 := a_ (Kd.R_below (rk d9.out) hb); replace e0 := a_ (Kd.R_below (rk e0.out) hb); replace f7 := a_ (Kd.R_below (rk f7.out) hb); replace f8 := a_ (Kd.R_below (rk f8.out) hb); replace i4 := a_ (Kd.R_below (rk i4.out) hb); replace i5 := a_ (Kd.R_below (rk i5.out) hb); replace l2 := a_ (Kd.R_below (rk l2.out) hb); replace l3 := a_ (Kd.R_below (rk l3.out) hb); replace n5 := a_ (Kd.R_below (rk n5.out) hb); replace n6 := a_ (Kd.R_below (rk n6.out) hb); replace o9 := a_ (Kd.R_below (rk o9.out) hb); replace p0 := a_ (Kd.R_below (rk p0.out) hb); have b9 := a_ (hbox); have Jc := a_ (bsg hg HB.out); have Jd := a_ (bsg hg HB.out); replace HB := a_ (below_step (by repeat (with_reducible first | exact HB.out | refine bz ?_ (by assumption) | apply bA | apply bN | apply bD)) hb); have k8 := a_ (nel hg b0.out); have n2 := a_ (nle hg b0.out); replace b0 := a_ (blk_below (pk b0.out) hb); have k9 := a_ (nel hg b3.out); have n3 := a_ (nle hg b3.out); replace b3 := a_ (blk_below (pk b3.out) hb); have j9 := a_ (nel hg b4.out); have l4 := a_ (nle hg b4.out); replace b4 := a_ (blk_below (pk b4.out) hb); have k1 := a_ (nel hg c0.out); have m1 := a_ (nle hg c0.out); replace c0 := a_ (blk_below (pk c0.out) hb); have k2 := a_ (nel hg c3.out); have m2 := a_ (nle hg c3.out); replace c3 := a_ (blk_below (pk c3.out) hb); clear hb hbox hg; obtain ⟨d4, d5, Q1⟩ := Kd.R_slice o9.out; subst Q1; have Je := n2.out; have Jf := k8.out; have Jg := n3.out; have Jh := k9.out; have Ji := l4.out; have Jj := j9.out; have Jk := m1.out; have Jl := k1.out; have Jm := m2.out; have Jn := k2.out; have F2 : _ = some (Value.slice none 0 0) := (blk_cell b9.out 0).trans rfl; have F3 : _ = some (Value.slice none 0 0) := (blk_cell b9.out 1).trans rfl; have F4 := blk_frozen b9.out 0; have F5 := blk_frozen b9.out 1; obtain ⟨d6, d7, Q2⟩ := Kd.R_slice p0.out; subst Q2))
   (try simp only [Act.put, sB, sC, sD])
   go_cut [53] (fun v53 wc => ∃ (kq : Nat) (x53_24 : Bool), v53 = .bool x53_24 ∧ Aside0 (laws_FnExactBoxMeet.j0 kq h6 p9 x53_24 l0_0 l0_1 l1_0 l1_1 d2 d3 g5 g6 f9 g2 d0 d1 = some r) ∧ Aside0 (kq ≤ k) ∧ Aside0 (Kd.R Kd.flt 39 wc w.heap.size (fun k_ => some k_ ≠ ((.slice e9 d3.length f0) : Value).ownBlock ∧ some k_ ≠ ((.slice e7 g5.length e8) : Value).ownBlock ∧ some k_ ≠ ((.slice f1 g6.length f2) : Value).ownBlock ∧ some k_ ≠ ((.slice e1 f9.length e2) : Value).ownBlock ∧ some k_ ≠ ((.slice e3 g2.length e4) : Value).ownBlock ∧ some k_ ≠ ((.slice d4 d0.length d5) : Value).ownBlock ∧ some k_ ≠ ((.slice d6 d1.length d7) : Value).ownBlock) (.slice e5 d2.length e6) d2) ∧ Aside0 (Kd.R Kd.flt 39 wc w.heap.size (fun k_ => some k_ ≠ ((.slice e5 d2.length e6) : Value).ownBlock ∧ some k_ ≠ ((.slice e7 g5.length e8) : Value).ownBlock ∧ some k_ ≠ ((.slice f1 g6.length f2) : Value).ownBlock ∧ some k_ ≠ ((.slice e1 f9.length e2) : Value).ownBlock ∧ some k_ ≠ ((.slice e3 g2.length e4) : Value).ownBlock ∧ some k_ ≠ ((.slice d4 d0.length d5) : Value).ownBlock ∧ some k_ ≠ ((.slice d6 d1.length d7) : Value).ownBlock) (.slice e9 d3.length f0) d3) ∧ Aside0 (Kd.R Kd.flt 39 wc w.heap.size (fun k_ => some k_ ≠ ((.slice e5 d2.length e6) : Value).ownBlock ∧ some k_ ≠ ((.slice e9 d3.length f0) : Value).ownBlock ∧ some k_ ≠ ((.slice f1 g6.length f2) : Value).ownBlock ∧ some k_ ≠ ((.slice e1 f9.length e2) : Value).ownBlock ∧ some k_ ≠ ((.slice e3 g2.length e4) : Value).ownBlock ∧ some k_ ≠ ((.slice d4 d0.length d5) : Value).ownBlock ∧ some k_ ≠ ((.slice d6 d1.length d7) : Value).ownBlock) (.slice e7 g5.length e8) g5) ∧ Aside0 (Kd.R Kd.flt 39 wc w.heap.size (fun k_ => some k_ ≠ ((.slice e5 d2.length e6) : Value).ownBlock ∧ some k_ ≠ ((.slice e9 d3.length f0) : Value).ownBlock ∧ some k_ ≠ ((.slice e7 g5.length e8) : Value).ownBlock ∧ some k_ ≠ ((.slice e1 f9.length e2) : Value).ownBlock ∧ some k_ ≠ ((.slice e3 g2.length e4) : Value).ownBlock ∧ some k_ ≠ ((.slice d4 d0.length d5) : Value).ownBlock ∧ some k_ ≠ ((.slice d6 d1.length d7) : Value).ownBlock) (.slice f1 g6.length f2) g6) ∧ Aside0 (Kd.R Kd.flt 39 wc w.heap.size (fun k_ => some k_ ≠ ((.slice e5 d2.length e6) : Value).ownBlock ∧ some k_ ≠ ((.slice e9 d3.length f0) : Value).ownBlock ∧ some k_ ≠ ((.slice e7 g5.length e8) : Value).ownBlock ∧ some k_ ≠ ((.slice f1 g6.length f2) : Value).ownBlock ∧ some k_ ≠ ((.slice e3 g2.length e4) : Value).ownBlock ∧ some k_ ≠ ((.slice d4 d0.length d5) : Value).ownBlock ∧ some k_ ≠ ((.slice d6 d1.length d7) : Value).ownBlock) (.slice e1 f9.length e2) f9) ∧ Aside0 (Kd.R Kd.flt 39 wc w.heap.size (fun k_ => some k_ ≠ ((.slice e5 d2.length e6) : Value).ownBlock ∧ some k_ ≠ ((.slice e9 d3.length f0) : Value).ownBlock ∧ some k_ ≠ ((.slice e7 g5.length e8) : Value).ownBlock ∧ some k_ ≠ ((.slice f1 g6.length f2) : Value).ownBlock ∧ some k_ ≠ ((.slice e1 f9.length e2) : Value).ownBlock ∧ some k_ ≠ ((.slice d4 d0.length d5) : Value).ownBlock ∧ some k_ ≠ ((.slice d6 d1.length d7) : Value).ownBlock) (.slice e3 g2.length e4) g2) ∧ Aside0 (Kd.R Kd.flt 39 wc w.heap.size (fun k_ => some k_ ≠ ((.slice e5 d2.length e6) : Value).ownBlock ∧ some k_ ≠ ((.slice e9 d3.length f0) : Value).ownBlock ∧ some k_ ≠ ((.slice e7 g5.length e8) : Value).ownBlock ∧ some k_ ≠ ((.slice f1 g6.length f2) : Value).ownBlock ∧ some k_ ≠ ((.slice e1 f9.length e2) : Value).ownBlock ∧ some k_ ≠ ((.slice e3 g2.length e4) : Value).ownBlock ∧ some k_ ≠ ((.slice d6 d1.length d7) : Value).ownBlock) (.slice d4 d0.length d5) d0) ∧ Aside0 (Kd.R Kd.flt 39 wc w.heap.size (fun k_ => some k_ ≠ ((.slice e5 d2.length e6) : Value).ownBlock ∧ some k_ ≠ ((.slice e9 d3.length f0) : Value).ownBlock ∧ some k_ ≠ ((.slice e7 g5.length e8) : Value).ownBlock ∧ some k_ ≠ ((.slice f1 g6.length f2) : Value).ownBlock ∧ some k_ ≠ ((.slice e1 f9.length e2) : Value).ownBlock ∧ some k_ ≠ ((.slice e3 g2.length e4) : Value).ownBlock ∧ some k_ ≠ ((.slice d4 d0.length d5) : Value).ownBlock) (.slice d6 d1.length d7) d1) ∧ Aside0 (wc.heap[i9]? = some (.cells #[(.slice A0_0 l0_0.length c0_0), (.slice A0_1 l0_1.length c0_1)] 24 (0, 0))) ∧ Aside0 (wc.heap[j3]? = some (.cells #[(.slice A1_0 l1_0.length c1_0), (.slice A1_1 l1_1.length c1_1)] 24 (0, 0))) ∧ Aside0 (wc.heap[h8]? = some (.cells #[(.slice e5 d2.length e6), (.slice e9 d3.length f0)] 26 (0, 0))) ∧ Aside0 (wc.heap[n4]? = some (.cells #[(.slice e7 g5.length e8), (.slice f1 g6.length f2)] 26 (0, 0))) ∧ Aside0 (wc.heap[n8]? = some (.cells #[(.slice e1 f9.length e2), (.slice e3 g2.length e4)] 26 (0, 0))) ∧ Aside0 (wc.heap[n7]? = some (.cells #[(.slice d4 d0.length d5), (.slice d6 d1.length d7)] 26 (0, 0))) ∧ Aside0 (Below w.heap.size w wc))
   case first =>
    have H := HC25.out
    clear HC25
    replace H := Option.bind_eq_some_iff.mp H
    obtain ⟨t250, L5, H⟩ := H
    have Jo := Aside0.mk L5
    clear L5
    by_cases c80 : t250 = true
    ·subst c80
     have H1 : (laws_FnExactBoxMeet.j0 k h6 p9 (p9 != h6) l0_0 l0_1 l1_0 l1_1 d2 d3 g5 g6 f9 g2 d0 d1) = some r := by rw [if_pos rfl] at H; exact H
     clear H
     have H := H1
     clear H1
     have H' := Aside0.mk H
     clear H
     have Jp := n2.out
     have Jq := k8.out
     have Jr := n3.out
     have Js := k9.out
     have Jt := l4.out
     have Ju := j9.out
     have Jv := m1.out
     have Jw := k1.out
     have Jx := m2.out
     have Jy := k2.out
     have F6 : _ = some (Value.slice none 0 0) := (blk_cell b9.out 0).trans rfl
     have F7 : _ = some (Value.slice none 0 0) := (blk_cell b9.out 1).trans rfl
     have F8 := blk_frozen b9.out 0
     have F9 := blk_frozen b9.out 1
     have Jz := h9.out
     have Va := g3.out
     have Vb := i0.out
     have Vc := g4.out
     have Vd := l0.out
     have Ve := l9.out
     have Vf := l1.out
     have Vg := m0.out
     have G0 : _ = some (Value.slice e5 d2.length e6) := (blk_cell b4.out 0).trans rfl
     have G1 : _ = some (Value.slice e9 d3.length f0) := (blk_cell b4.out 1).trans rfl
     have G2 := blk_frozen b4.out 0
     have G3 := blk_frozen b4.out 1
     go_wp2_with (first | ((with_reducible refine gate_callee (f := 10) rfl ?_); refine goesL_ (some 47) rfl rfl Try.func10 (by kernel_rfl) rfl #[.agg #[.slice d4 d0.length d5, .slice d6 d1.length d7], .agg #[.slice e5 d2.length e6, .slice e9 d3.length f0]] rfl (by (try simp only [lA, lB, lC]); first | done | rfl | (simp only [lD, lE]; rfl)) ?_; (with_reducible refine (laws_eqBox.calls k _ _ d0 _ _ d1 _ _ d2 _ _ d3 true _ ?side1 ?side2 ?side3 ?side4 ?side5 ?side6 ?side7 ?side8 Jo.out).mono ?_); (case side1 => exact cu (Kd.R_reads' (fr2 o9.out b9.out (by decide) 0 (.slice d4 d0.length d5) 1 (.slice d6 d1.length d7))).2.2); (case side2 => exact (Kd.R_reads' o9.out).2.1); (case side3 => exact cu (Kd.R_reads' (fr2 p0.out b9.out (by decide) 0 (.slice d4 d0.length d5) 1 (.slice d6 d1.length d7))).2.2); (case side4 => exact (Kd.R_reads' p0.out).2.1); (case side5 => exact cu (Kd.R_reads' (fr2 i4.out b9.out (by decide) 0 (.slice d4 d0.length d5) 1 (.slice d6 d1.length d7))).2.2); (case side6 => exact (Kd.R_reads' i4.out).2.1); (case side7 => exact cu (Kd.R_reads' (fr2 i5.out b9.out (by decide) 0 (.slice d4 d0.length d5) 1 (.slice d6 d1.length d7))).2.2); (case side8 => exact (Kd.R_reads' i5.out).2.1); rintro e Mq ⟨rfl, hb⟩; refine ⟨_, rfl, ?_⟩; replace d9 := a_ (Kd.R_below (rk (Kd.R_mono (fr2 d9.out b9.out (by decide) 0 (.slice d4 d0.length d5) 1 (.slice d6 d1.length d7)) (fun _ h_ => h_.1))) hb); replace e0 := a_ (Kd.R_below (rk (Kd.R_mono (fr2 e0.out b9.out (by decide) 0 (.slice d4 d0.length d5) 1 (.slice d6 d1.length d7)) (fun _ h_ => h_.1))) hb); replace f7 := a_ (Kd.R_below (rk (Kd.R_mono (fr2 f7.out b9.out (by decide) 0 (.slice d4 d0.length d5) 1 (.slice d6 d1.length d7)) (fun _ h_ => h_.1))) hb); replace f8 := a_ (Kd.R_below (rk (Kd.R_mono (fr2 f8.out b9.out (by decide) 0 (.slice d4 d0.length d5) 1 (.slice d6 d1.length d7)) (fun _ h_ => h_.1))) hb); replace i4 := a_ (Kd.R_below (rk (Kd.R_mono (fr2 i4.out b9.out (by decide) 0 (.slice d4 d0.length d5) 1 (.slice d6 d1.length d7)) (fun _ h_ => h_.1))) hb); replace i5 := a_ (Kd.R_below (rk (Kd.R_mono (fr2 i5.out b9.out (by decide) 0 (.slice d4 d0.length d5) 1 (.slice d6 d1.length d7)) (fun _ h_ => h_.1))) hb); replace l2 := a_ (Kd.R_below (rk (Kd.R_mono (fr2 l2.out b9.out (by decide) 0 (.slice d4 d0.length d5) 1 (.slice d6 d1.length d7)) (fun _ h_ => h_.1))) hb); replace l3 := a_ (Kd.R_below (rk (Kd.R_mono (fr2 l3.out b9.out (by decide) 0 (.slice d4 d0.length d5) 1 (.slice d6 d1.length d7)) (fun _ h_ => h_.1))) hb); replace n5 := a_ (Kd.R_below (rk (Kd.R_mono (fr2 n5.out b9.out (by decide) 0 (.slice d4 d0.length d5) 1 (.slice d6 d1.length d7)) (fun _ h_ => h_.1))) hb); replace n6 := a_ (Kd.R_below (rk (Kd.R_mono (fr2 n6.out b9.out (by decide) 0 (.slice d4 d0.length d5) 1 (.slice d6 d1.length d7)) (fun _ h_ => h_.1))) hb); replace o9 := a_ (Kd.R_below (rk (Kd.R_mono (fr2 o9.out b9.out (by decide) 0 (.slice d4 d0.length d5) 1 (.slice d6 d1.length d7)) (fun _ h_ => h_.1))) hb); replace p0 := a_ (Kd.R_below (rk (Kd.R_mono (fr2 p0.out b9.out (by decide) 0 (.slice d4 d0.length d5) 1 (.slice d6 d1.length d7)) (fun _ h_ => h_.1))) hb); replace b0 := a_ (blk_below (g := i9) (o := .cells #[.slice A0_0 l0_0.length c0_0, .slice A0_1 l0_1.length c0_1] 24 (0, 0)) (by refine pk ?_; refine blk_far ?_ k8.out _; refine pk ?_; refine blk_far ?_ k8.out _; refine pk ?_; exact b0.out) hb); replace b3 := a_ (blk_below (g := j3) (o := .cells #[.slice A1_0 l1_0.length c1_0, .slice A1_1 l1_1.length c1_1] 24 (0, 0)) (by refine pk ?_; refine blk_far ?_ k9.out _; refine pk ?_; refine blk_far ?_ k9.out _; refine pk ?_; exact b3.out) hb); replace b4 := a_ (blk_below (g := h8) (o := .cells #[.slice e5 d2.length e6, .slice e9 d3.length f0] 26 (0, 0)) (by refine pk ?_; refine blk_far ?_ j9.out _; refine pk ?_; refine blk_far ?_ j9.out _; refine pk ?_; exact b4.out) hb); replace c0 := a_ (blk_below (g := n4) (o := .cells #[.slice e7 g5.length e8, .slice f1 g6.length f2] 26 (0, 0)) (by refine pk ?_; refine blk_far ?_ k1.out _; refine pk ?_; refine blk_far ?_ k1.out _; refine pk ?_; exact c0.out) hb); replace c3 := a_ (blk_below (g := n8) (o := .cells #[.slice e1 f9.length e2, .slice e3 g2.length e4] 26 (0, 0)) (by refine pk ?_; refine blk_far ?_ k2.out _; refine pk ?_; refine blk_far ?_ k2.out _; refine pk ?_; exact c3.out) hb); replace b9 := a_ (blk_below (g := n7) (o := .cells #[.slice d4 d0.length d5, .slice d6 d1.length d7] 26 (0, 0)) (by refine pk ?_; refine blk_put (cs := #[.slice d4 d0.length d5, .slice none 0 0]) ?_ 1 _ rfl; refine pk ?_; refine blk_put (cs := #[.slice none 0 0, .slice none 0 0]) ?_ 0 _ rfl; refine pk ?_; exact b9.out) hb); replace HB := a_ (below_step (by repeat (with_reducible first | exact HB.out | refine bz ?_ (by assumption) | apply bA | apply bN | apply bD)) hb); clear hb))
     go_meet
     case rel => exact ⟨_, ((p9 != h6)), (by first | rfl | (simp; done) | (simp [*]; done)), H', ⟨by first | omega | exact Nat.le_refl _⟩, ⟨rk (Kd.R_mono i4.out (fun _ ⟨⟨⟨⟨⟨⟨⟨_, _, _, _, a⟩, b⟩, c⟩, d⟩, e⟩, f⟩, g⟩ => ⟨a, b, c, d, e, f, g⟩))⟩, ⟨rk (Kd.R_mono i5.out (fun _ ⟨⟨⟨⟨⟨⟨⟨_, _, _, _, a⟩, b⟩, c⟩, d⟩, e⟩, f⟩, g⟩ => ⟨a, b, c, d, e, f, g⟩))⟩, ⟨rk (Kd.R_mono l2.out (fun _ ⟨⟨⟨⟨⟨⟨⟨⟨⟨⟨a, _⟩, _⟩, _⟩, _⟩, b⟩, c⟩, d⟩, e⟩, f⟩, g⟩ => ⟨b, c, a, d, e, f, g⟩))⟩, ⟨rk (Kd.R_mono l3.out (fun _ ⟨⟨⟨⟨⟨⟨⟨⟨⟨⟨a, _⟩, _⟩, _⟩, _⟩, b⟩, c⟩, d⟩, e⟩, f⟩, g⟩ => ⟨b, c, a, d, e, f, g⟩))⟩, ⟨rk (Kd.R_mono n5.out (fun _ ⟨⟨⟨⟨⟨⟨⟨⟨⟨⟨a, _⟩, _⟩, _⟩, _⟩, b⟩, c⟩, d⟩, e⟩, f⟩, g⟩ => ⟨b, c, d, e, a, f, g⟩))⟩, ⟨rk (Kd.R_mono n6.out (fun _ ⟨⟨⟨⟨⟨⟨⟨⟨⟨⟨a, _⟩, _⟩, _⟩, _⟩, b⟩, c⟩, d⟩, e⟩, f⟩, g⟩ => ⟨b, c, d, e, a, f, g⟩))⟩, ⟨rk (Kd.R_mono o9.out (fun _ ⟨⟨⟨⟨⟨⟨⟨⟨⟨⟨a, _⟩, _⟩, _⟩, _⟩, b⟩, c⟩, d⟩, e⟩, f⟩, g⟩ => ⟨b, c, d, e, f, g, a⟩))⟩, ⟨rk (Kd.R_mono p0.out (fun _ ⟨⟨⟨⟨⟨⟨⟨⟨⟨⟨a, _⟩, _⟩, _⟩, _⟩, b⟩, c⟩, d⟩, e⟩, f⟩, g⟩ => ⟨b, c, d, e, f, g, a⟩))⟩, ⟨pk b0.out⟩, ⟨pk b3.out⟩, ⟨pk b4.out⟩, ⟨pk c0.out⟩, ⟨pk c3.out⟩, ⟨pk b9.out⟩, ⟨by repeat (with_reducible first | exact HB.out | refine bz ?_ (by assumption) | apply bA | apply bN | apply bD)⟩⟩
    ·replace c80 := Bool.eq_false_iff.mpr c80
     subst c80
     have H1 : (laws_FnExactBoxMeet.j0 k h6 p9 true l0_0 l0_1 l1_0 l1_1 d2 d3 g5 g6 f9 g2 d0 d1) = some r := by rw [if_neg (show ¬ (false = true) by decide)] at H; exact H
     clear H
     have H := H1
     clear H1
     have H' := Aside0.mk H
     clear H
     have Vh := n2.out
     have Vi := k8.out
     have Vj := n3.out
     have Vk := k9.out
     have Vl := l4.out
     have Vm := j9.out
     have Vn := m1.out
     have Vo := k1.out
     have Vp := m2.out
     have Vq := k2.out
     have G4 : _ = some (Value.slice none 0 0) := (blk_cell b9.out 0).trans rfl
     have G5 : _ = some (Value.slice none 0 0) := (blk_cell b9.out 1).trans rfl
     have G6 := blk_frozen b9.out 0
     have G7 := blk_frozen b9.out 1
     have Vr := h9.out
     have Vs := g3.out
     have Q3 := i0.out
     have Q4 := g4.out
     have Q5 := l0.out
     have Q6 := l9.out
     have Q7 := l1.out
     have Q8 := m0.out
     have x3 : _ = some (Value.slice e5 d2.length e6) := (blk_cell b4.out 0).trans rfl
     have x4 : _ = some (Value.slice e9 d3.length f0) := (blk_cell b4.out 1).trans rfl
     have x5 := blk_frozen b4.out 0
     have x6 := blk_frozen b4.out 1
     go_wp2_with (first | ((with_reducible refine gate_callee (f := 10) rfl ?_); refine goesL_ (some 47) rfl rfl Try.func10 (by kernel_rfl) rfl #[.agg #[.slice d4 d0.length d5, .slice d6 d1.length d7], .agg #[.slice e5 d2.length e6, .slice e9 d3.length f0]] rfl (by (try simp only [lA, lB, lC]); first | done | rfl | (simp only [lD, lE]; rfl)) ?_; (with_reducible refine (laws_eqBox.calls k _ _ d0 _ _ d1 _ _ d2 _ _ d3 false _ ?side1 ?side2 ?side3 ?side4 ?side5 ?side6 ?side7 ?side8 Jo.out).mono ?_); (case side1 => exact cu (Kd.R_reads' (fr2 o9.out b9.out (by decide) 0 (.slice d4 d0.length d5) 1 (.slice d6 d1.length d7))).2.2); (case side2 => exact (Kd.R_reads' o9.out).2.1); (case side3 => exact cu (Kd.R_reads' (fr2 p0.out b9.out (by decide) 0 (.slice d4 d0.length d5) 1 (.slice d6 d1.length d7))).2.2); (case side4 => exact (Kd.R_reads' p0.out).2.1); (case side5 => exact cu (Kd.R_reads' (fr2 i4.out b9.out (by decide) 0 (.slice d4 d0.length d5) 1 (.slice d6 d1.length d7))).2.2); (case side6 => exact (Kd.R_reads' i4.out).2.1); (case side7 => exact cu (Kd.R_reads' (fr2 i5.out b9.out (by decide) 0 (.slice d4 d0.length d5) 1 (.slice d6 d1.length d7))).2.2); (case side8 => exact (Kd.R_reads' i5.out).2.1); rintro e Uh ⟨rfl, hb⟩; refine ⟨_, rfl, ?_⟩; replace d9 := a_ (Kd.R_below (rk (Kd.R_mono (fr2 d9.out b9.out (by decide) 0 (.slice d4 d0.length d5) 1 (.slice d6 d1.length d7)) (fun _ h_ => h_.1))) hb); replace e0 := a_ (Kd.R_below (rk (Kd.R_mono (fr2 e0.out b9.out (by decide) 0 (.slice d4 d0.length d5) 1 (.slice d6 d1.length d7)) (fun _ h_ => h_.1))) hb); replace f7 := a_ (Kd.R_below (rk (Kd.R_mono (fr2 f7.out b9.out (by decide) 0 (.slice d4 d0.length d5) 1 (.slice d6 d1.length d7)) (fun _ h_ => h_.1))) hb); replace f8 := a_ (Kd.R_below (rk (Kd.R_mono (fr2 f8.out b9.out (by decide) 0 (.slice d4 d0.length d5) 1 (.slice d6 d1.length d7)) (fun _ h_ => h_.1))) hb); replace i4 := a_ (Kd.R_below (rk (Kd.R_mono (fr2 i4.out b9.out (by decide) 0 (.slice d4 d0.length d5) 1 (.slice d6 d1.length d7)) (fun _ h_ => h_.1))) hb); replace i5 := a_ (Kd.R_below (rk (Kd.R_mono (fr2 i5.out b9.out (by decide) 0 (.slice d4 d0.length d5) 1 (.slice d6 d1.length d7)) (fun _ h_ => h_.1))) hb); replace l2 := a_ (Kd.R_below (rk (Kd.R_mono (fr2 l2.out b9.out (by decide) 0 (.slice d4 d0.length d5) 1 (.slice d6 d1.length d7)) (fun _ h_ => h_.1))) hb); replace l3 := a_ (Kd.R_below (rk (Kd.R_mono (fr2 l3.out b9.out (by decide) 0 (.slice d4 d0.length d5) 1 (.slice d6 d1.length d7)) (fun _ h_ => h_.1))) hb); replace n5 := a_ (Kd.R_below (rk (Kd.R_mono (fr2 n5.out b9.out (by decide) 0 (.slice d4 d0.length d5) 1 (.slice d6 d1.length d7)) (fun _ h_ => h_.1))) hb); replace n6 := a_ (Kd.R_below (rk (Kd.R_mono (fr2 n6.out b9.out (by decide) 0 (.slice d4 d0.length d5) 1 (.slice d6 d1.length d7)) (fun _ h_ => h_.1))) hb); replace o9 := a_ (Kd.R_below (rk (Kd.R_mono (fr2 o9.out b9.out (by decide) 0 (.slice d4 d0.length d5) 1 (.slice d6 d1.length d7)) (fun _ h_ => h_.1))) hb); replace p0 := a_ (Kd.R_below (rk (Kd.R_mono (fr2 p0.out b9.out (by decide) 0 (.slice d4 d0.length d5) 1 (.slice d6 d1.length d7)) (fun _ h_ => h_.1))) hb); replace b0 := a_ (blk_below (g := i9) (o := .cells #[.slice A0_0 l0_0.length c0_0, .slice A0_1 l0_1.length c0_1] 24 (0, 0)) (by refine pk ?_; refine blk_far ?_ k8.out _; refine pk ?_; refine blk_far ?_ k8.out _; refine pk ?_; exact b0.out) hb); replace b3 := a_ (blk_below (g := j3) (o := .cells #[.slice A1_0 l1_0.length c1_0, .slice A1_1 l1_1.length c1_1] 24 (0, 0)) (by refine pk ?_; refine blk_far ?_ k9.out _; refine pk ?_; refine blk_far ?_ k9.out _; refine pk ?_; exact b3.out) hb); replace b4 := a_ (blk_below (g := h8) (o := .cells #[.slice e5 d2.length e6, .slice e9 d3.length f0] 26 (0, 0)) (by refine pk ?_; refine blk_far ?_ j9.out _; refine pk ?_; refine blk_far ?_ j9.out _; refine pk ?_; exact b4.out) hb); replace c0 := a_ (blk_below (g := n4) (o := .cells #[.slice e7 g5.length e8, .slice f1 g6.length f2] 26 (0, 0)) (by refine pk ?_; refine blk_far ?_ k1.out _; refine pk ?_; refine blk_far ?_ k1.out _; refine pk ?_; exact c0.out) hb); replace c3 := a_ (blk_below (g := n8) (o := .cells #[.slice e1 f9.length e2, .slice e3 g2.length e4] 26 (0, 0)) (by refine pk ?_; refine blk_far ?_ k2.out _; refine pk ?_; refine blk_far ?_ k2.out _; refine pk ?_; exact c3.out) hb); replace b9 := a_ (blk_below (g := n7) (o := .cells #[.slice d4 d0.length d5, .slice d6 d1.length d7] 26 (0, 0)) (by refine pk ?_; refine blk_put (cs := #[.slice d4 d0.length d5, .slice none 0 0]) ?_ 1 _ rfl; refine pk ?_; refine blk_put (cs := #[.slice none 0 0, .slice none 0 0]) ?_ 0 _ rfl; refine pk ?_; exact b9.out) hb); replace HB := a_ (below_step (by repeat (with_reducible first | exact HB.out | refine bz ?_ (by assumption) | apply bA | apply bN | apply bD)) hb); clear hb))
     go_meet
     case rel => exact ⟨_, (true), (by first | rfl | (simp; done) | (simp [*]; done)), H', ⟨by first | omega | exact Nat.le_refl _⟩, ⟨rk (Kd.R_mono i4.out (fun _ ⟨⟨⟨⟨⟨⟨⟨_, _, _, _, a⟩, b⟩, c⟩, d⟩, e⟩, f⟩, g⟩ => ⟨a, b, c, d, e, f, g⟩))⟩, ⟨rk (Kd.R_mono i5.out (fun _ ⟨⟨⟨⟨⟨⟨⟨_, _, _, _, a⟩, b⟩, c⟩, d⟩, e⟩, f⟩, g⟩ => ⟨a, b, c, d, e, f, g⟩))⟩, ⟨rk (Kd.R_mono l2.out (fun _ ⟨⟨⟨⟨⟨⟨⟨⟨⟨⟨a, _⟩, _⟩, _⟩, _⟩, b⟩, c⟩, d⟩, e⟩, f⟩, g⟩ => ⟨b, c, a, d, e, f, g⟩))⟩, ⟨rk (Kd.R_mono l3.out (fun _ ⟨⟨⟨⟨⟨⟨⟨⟨⟨⟨a, _⟩, _⟩, _⟩, _⟩, b⟩, c⟩, d⟩, e⟩, f⟩, g⟩ => ⟨b, c, a, d, e, f, g⟩))⟩, ⟨rk (Kd.R_mono n5.out (fun _ ⟨⟨⟨⟨⟨⟨⟨⟨⟨⟨a, _⟩, _⟩, _⟩, _⟩, b⟩, c⟩, d⟩, e⟩, f⟩, g⟩ => ⟨b, c, d, e, a, f, g⟩))⟩, ⟨rk (Kd.R_mono n6.out (fun _ ⟨⟨⟨⟨⟨⟨⟨⟨⟨⟨a, _⟩, _⟩, _⟩, _⟩, b⟩, c⟩, d⟩, e⟩, f⟩, g⟩ => ⟨b, c, d, e, a, f, g⟩))⟩, ⟨rk (Kd.R_mono o9.out (fun _ ⟨⟨⟨⟨⟨⟨⟨⟨⟨⟨a, _⟩, _⟩, _⟩, _⟩, b⟩, c⟩, d⟩, e⟩, f⟩, g⟩ => ⟨b, c, d, e, f, g, a⟩))⟩, ⟨rk (Kd.R_mono p0.out (fun _ ⟨⟨⟨⟨⟨⟨⟨⟨⟨⟨a, _⟩, _⟩, _⟩, _⟩, b⟩, c⟩, d⟩, e⟩, f⟩, g⟩ => ⟨b, c, d, e, f, g, a⟩))⟩, ⟨pk b0.out⟩, ⟨pk b3.out⟩, ⟨pk b4.out⟩, ⟨pk c0.out⟩, ⟨pk c3.out⟩, ⟨pk b9.out⟩, ⟨by repeat (with_reducible first | exact HB.out | refine bz ?_ (by assumption) | apply bA | apply bN | apply bD)⟩⟩
   case rest =>
    clear HC25
    try clear c1; try clear p2; try clear c4; try clear c5; try clear c6; try clear c7; try clear c8; try clear c9; try clear c10; try clear c13; try clear c14; try clear c47; try clear c52; try clear c53; try clear c54; try clear c57; try clear c62; try clear c63; try clear c64; try clear c65; try clear c72; try clear c73; try clear c74; try clear c75; try clear c76; try clear c80; try clear c81; try clear c82; try clear c83; try clear c84; try clear c85; try clear c87; try clear c88; try clear c89; try clear c90; try clear c93; try clear c94; try clear c95; try clear c96; try clear c97; try clear c99; try clear c100; try clear c101; try clear c102; try clear x3; try clear x4; try clear D2; try clear D3; try clear D6; try clear D7; try clear E0; try clear E1; try clear E4; try clear E5; try clear E8; try clear E9; try clear F2; try clear F3; try clear F6; try clear F7; try clear G0; try clear G1; try clear G4; try clear G5; try clear x5; try clear x6; try clear D4; try clear D5; try clear D8; try clear D9; try clear E2; try clear E3; try clear E6; try clear E7; try clear F0; try clear F1; try clear F4; try clear F5; try clear F8; try clear F9; try clear G2; try clear G3; try clear G6; try clear G7
    obtain ⟨kq, x53_24, rfl, HA, x8, b1, b2, a6, a7, a8, a9, a4, a5, b0, b3, b4, c0, c3, b9, HB⟩ := hcut
    cases kq with
    | zero => exact absurd HA.out (by simp [laws_FnExactBoxMeet.j0])
    | succ i3 =>
     have H := HA.out
     clear HA
     simp only [laws_FnExactBoxMeet.j0] at H
     by_cases c105 : x53_24 = true
     ·subst c105
      have H1 : (none) = some r := by rw [if_pos rfl] at H; exact H
      clear H
      have H := H1
      clear H1
      exact absurd H (by simp)
     ·replace c105 := Bool.eq_false_iff.mpr c105
      subst c105
      have H1 : ((laws_toBox.f i3 l0_0 l0_1).bind fun bt251 => ((laws_eqBox.f i3 g5 g6 bt251.1 bt251.2).bind fun t257 => (if t257 = true then ((laws_toBox.f i3 l1_0 l1_1).bind fun bt258 => ((laws_eqBox.f i3 f9 g2 bt258.1 bt258.2).bind fun t264 => (if t264 = true then ((laws_markBox.f i3 g5 g6 1).bind fun bt265 => ((laws_markBox.f i3 f9 g2 bt265.1).bind fun bt268 => (if bt268.1 < 0 then (laws_FnExactBoxMeet.j1 i3 h6 true l0_0 l0_1 l1_0 l1_1 d2 d3 d0 d1) else ((laws_eqBox.f i3 d0 d1 d2 d3).bind fun t271 => (if t271 = true then (laws_FnExactBoxMeet.j1 i3 h6 (p9 != h6) l0_0 l0_1 l1_0 l1_1 d2 d3 d0 d1) else (laws_FnExactBoxMeet.j1 i3 h6 true l0_0 l0_1 l1_0 l1_1 d2 d3 d0 d1)))))) else (none)))) else (none)))) = some r := by rw [if_neg (show ¬ (false = true) by decide)] at H; exact H
      clear H
      have H := H1
      clear H1
      replace H := Option.bind_eq_some_iff.mp H
      obtain ⟨⟨o1, o2⟩, H5, H⟩ := H
      replace H : ((laws_eqBox.f i3 g5 g6 o1 o2).bind fun t257 => (if t257 = true then ((laws_toBox.f i3 l1_0 l1_1).bind fun bt258 => ((laws_eqBox.f i3 f9 g2 bt258.1 bt258.2).bind fun t264 => (if t264 = true then ((laws_markBox.f i3 g5 g6 1).bind fun bt265 => ((laws_markBox.f i3 f9 g2 bt265.1).bind fun bt268 => (if bt268.1 < 0 then (laws_FnExactBoxMeet.j1 i3 h6 true l0_0 l0_1 l1_0 l1_1 d2 d3 d0 d1) else ((laws_eqBox.f i3 d0 d1 d2 d3).bind fun t271 => (if t271 = true then (laws_FnExactBoxMeet.j1 i3 h6 (p9 != h6) l0_0 l0_1 l1_0 l1_1 d2 d3 d0 d1) else (laws_FnExactBoxMeet.j1 i3 h6 true l0_0 l0_1 l1_0 l1_1 d2 d3 d0 d1)))))) else (none)))) else (none))) = some r := H
      have Q9 := Aside0.mk H5
      clear H5
      replace H := Option.bind_eq_some_iff.mp H
      obtain ⟨t257, H6, H⟩ := H
      have R0 := Aside0.mk H6
      clear H6
      by_cases c108 : t257 = true
      ·subst c108
       have H1 : ((laws_toBox.f i3 l1_0 l1_1).bind fun bt258 => ((laws_eqBox.f i3 f9 g2 bt258.1 bt258.2).bind fun t264 => (if t264 = true then ((laws_markBox.f i3 g5 g6 1).bind fun bt265 => ((laws_markBox.f i3 f9 g2 bt265.1).bind fun bt268 => (if bt268.1 < 0 then (laws_FnExactBoxMeet.j1 i3 h6 true l0_0 l0_1 l1_0 l1_1 d2 d3 d0 d1) else ((laws_eqBox.f i3 d0 d1 d2 d3).bind fun t271 => (if t271 = true then (laws_FnExactBoxMeet.j1 i3 h6 (p9 != h6) l0_0 l0_1 l1_0 l1_1 d2 d3 d0 d1) else (laws_FnExactBoxMeet.j1 i3 h6 true l0_0 l0_1 l1_0 l1_1 d2 d3 d0 d1)))))) else (none)))) = some r := by rw [if_pos rfl] at H; exact H
       clear H
       have H := H1
       clear H1
       replace H := Option.bind_eq_some_iff.mp H
       obtain ⟨⟨o3, o4⟩, H7, H⟩ := H
       replace H : ((laws_eqBox.f i3 f9 g2 o3 o4).bind fun t264 => (if t264 = true then ((laws_markBox.f i3 g5 g6 1).bind fun bt265 => ((laws_markBox.f i3 f9 g2 bt265.1).bind fun bt268 => (if bt268.1 < 0 then (laws_FnExactBoxMeet.j1 i3 h6 true l0_0 l0_1 l1_0 l1_1 d2 d3 d0 d1) else ((laws_eqBox.f i3 d0 d1 d2 d3).bind fun t271 => (if t271 = true then (laws_FnExactBoxMeet.j1 i3 h6 (p9 != h6) l0_0 l0_1 l1_0 l1_1 d2 d3 d0 d1) else (laws_FnExactBoxMeet.j1 i3 h6 true l0_0 l0_1 l1_0 l1_1 d2 d3 d0 d1)))))) else (none))) = some r := H
       have R1 := Aside0.mk H7
       clear H7
       replace H := Option.bind_eq_some_iff.mp H
       obtain ⟨t264, H8, H⟩ := H
       have R2 := Aside0.mk H8
       clear H8
       by_cases c111 : t264 = true
       ·subst c111
        have H1 : ((laws_markBox.f i3 g5 g6 1).bind fun bt265 => ((laws_markBox.f i3 f9 g2 bt265.1).bind fun bt268 => (if bt268.1 < 0 then (laws_FnExactBoxMeet.j1 i3 h6 true l0_0 l0_1 l1_0 l1_1 d2 d3 d0 d1) else ((laws_eqBox.f i3 d0 d1 d2 d3).bind fun t271 => (if t271 = true then (laws_FnExactBoxMeet.j1 i3 h6 (p9 != h6) l0_0 l0_1 l1_0 l1_1 d2 d3 d0 d1) else (laws_FnExactBoxMeet.j1 i3 h6 true l0_0 l0_1 l1_0 l1_1 d2 d3 d0 d1)))))) = some r := by rw [if_pos rfl] at H; exact H
        clear H
        have H := H1
        clear H1
        replace H := Option.bind_eq_some_iff.mp H
        obtain ⟨⟨G8, j5, j6⟩, H9, H⟩ := H
        replace H : ((laws_markBox.f i3 f9 g2 G8).bind fun bt268 => (if bt268.1 < 0 then (laws_FnExactBoxMeet.j1 i3 h6 true l0_0 l0_1 l1_0 l1_1 d2 d3 d0 d1) else ((laws_eqBox.f i3 d0 d1 d2 d3).bind fun t271 => (if t271 = true then (laws_FnExactBoxMeet.j1 i3 h6 (p9 != h6) l0_0 l0_1 l1_0 l1_1 d2 d3 d0 d1) else (laws_FnExactBoxMeet.j1 i3 h6 true l0_0 l0_1 l1_0 l1_1 d2 d3 d0 d1))))) = some r := H
        have R3 := Aside0.mk H9
        clear H9
        replace H := Option.bind_eq_some_iff.mp H
        obtain ⟨⟨x9, j7, j8⟩, I0, H⟩ := H
        replace H : (if x9 < 0 then (laws_FnExactBoxMeet.j1 i3 h6 true l0_0 l0_1 l1_0 l1_1 d2 d3 d0 d1) else ((laws_eqBox.f i3 d0 d1 d2 d3).bind fun t271 => (if t271 = true then (laws_FnExactBoxMeet.j1 i3 h6 (p9 != h6) l0_0 l0_1 l1_0 l1_1 d2 d3 d0 d1) else (laws_FnExactBoxMeet.j1 i3 h6 true l0_0 l0_1 l1_0 l1_1 d2 d3 d0 d1)))) = some r := H
        have R4 := Aside0.mk I0
        clear I0
        have HC114 := Aside0.mk H
        clear H
        try go_wp2
        replace b1 := a_ (Kd.R_drew b1.out)
        replace b2 := a_ (Kd.R_drew b2.out)
        replace a6 := a_ (Kd.R_drew a6.out)
        replace a7 := a_ (Kd.R_drew a7.out)
        replace a8 := a_ (Kd.R_drew a8.out)
        replace a9 := a_ (Kd.R_drew a9.out)
        replace a4 := a_ (Kd.R_drew a4.out)
        replace a5 := a_ (Kd.R_drew a5.out)
        replace b0 := a_ (blk_drew b0.out)
        replace b3 := a_ (blk_drew b3.out)
        replace b4 := a_ (blk_drew b4.out)
        replace c0 := a_ (blk_drew c0.out)
        replace c3 := a_ (blk_drew c3.out)
        replace b9 := a_ (blk_drew b9.out)
        replace HB := a_ (below_drew1 HB.out)
        refine start_ (n := 5) (S := fun w' => w'.cell? ⟨n4, 0, none⟩ = some (.slice e7 g5.length e8) ∧ w'.cell? ⟨n4, 1, none⟩ = some (.slice f1 g6.length f2) ∧ w'.cell? ⟨i9, 0, none⟩ = some (.slice A0_0 l0_0.length c0_0) ∧ w'.cell? ⟨i9, 1, none⟩ = some (.slice A0_1 l0_1.length c0_1)) (ds := []) #[false, false, false, false, false] (by kernel_rfl) rfl rfl ⟨(blk_cell c0.out 0).trans rfl, (blk_cell c0.out 1).trans rfl, (blk_cell b0.out 0).trans rfl, (blk_cell b0.out 1).trans rfl⟩ (fun f3 => ?_)
        generalize wc.drew = Ui at b1 b2 a6 a7 a8 a9 a4 a5 b0 b3 b4 c0 c3 b9 HB f3 ⊢
        refine take_ (i := 0) (N := some 54) (v := ?_) (a' := ?_) #[true, false, false, false, false] rfl rfl (by kernel_rfl) (fun _ _ _ h => h) (Or.inl ⟨by rfl, ?_⟩) f3 ?_ ?_
        rotate_left
        ·rintro w' ⟨s0, s1, s2, s3⟩
         go_simp
         with_reducible rfl
        rotate_left
        ·simp only [Act.put, sB, sC, sD, i64_w, i32_w]
         rfl
        refine take_ (i := 1) (N := some 55) (v := ?_) (a' := ?_) #[true, true, false, false, false] rfl rfl (by kernel_rfl) (fun _ _ _ h => h) (Or.inl ⟨by rfl, ?_⟩) f3 ?_ ?_
        rotate_left
        ·rintro w' ⟨s0, s1, s2, s3⟩
         go_simp
         with_reducible rfl
        rotate_left
        ·simp only [Act.put, sB, sC, sD, i64_w, i32_w]
         rfl
        refine one_ (i := 2) (N := some 56) #[true, true, true, false, false] rfl rfl (by kernel_rfl) (by decide) (fun K hK => ?_)
        refine goes_ Try.func8 (by kernel_rfl) rfl #[.agg #[.slice A0_0 l0_0.length c0_0, .slice A0_1 l0_1.length c0_1]] (by rfl) rfl rfl (by (try simp only [lA, lB, lC]); first | done | rfl | (simp only [lD, lE]; rfl)) ?_
        with_reducible refine (laws_toBox.calls i3 _ _ l0_0 _ _ l0_1 o1 o2 _ ?side1 ?side2 ?side3 ?side4 Q9.out).mono ?_
        (case side1 => exact Kd.C_below t2.out (un HB.out))
        (case side2 => exact t3.out)
        (case side3 => exact Kd.C_below t4.out (un HB.out))
        (case side4 => exact t5.out)
        rintro e Uj ⟨Uk, Ul, rfl, ho0, ho1, hb⟩
        refine ⟨_, rfl, ?_⟩
        have l5 := a_ (Kd.R_lower (nw (nw (nw (nw (nw (nw (nw (nw ho0 b1.out) b2.out) a6.out) a7.out) a8.out) a9.out) a4.out) a5.out) (bs HB.out))
        have l6 := a_ (Kd.R_lower (nw (nw (nw (nw (nw (nw (nw (nw ho1 b1.out) b2.out) a6.out) a7.out) a8.out) a9.out) a4.out) a5.out) (bs HB.out))
        replace b1 := a_ (ol2 b1.out hb ho0 ho1)
        replace b2 := a_ (ol2 b2.out hb ho0 ho1)
        replace a6 := a_ (ol2 a6.out hb ho0 ho1)
        replace a7 := a_ (ol2 a7.out hb ho0 ho1)
        replace a8 := a_ (ol2 a8.out hb ho0 ho1)
        replace a9 := a_ (ol2 a9.out hb ho0 ho1)
        replace a4 := a_ (ol2 a4.out hb ho0 ho1)
        replace a5 := a_ (ol2 a5.out hb ho0 ho1)
        replace b0 := a_ (blk_below (pk b0.out) hb)
        replace b3 := a_ (blk_below (pk b3.out) hb)
        replace b4 := a_ (blk_below (pk b4.out) hb)
        replace c0 := a_ (blk_below (pk c0.out) hb)
        replace c3 := a_ (blk_below (pk c3.out) hb)
        replace b9 := a_ (blk_below (pk b9.out) hb)
        replace HB := a_ (below_step (by repeat (with_reducible first | exact HB.out | refine bz ?_ (by assumption) | apply bA | apply bN | apply bD)) hb)
        (try clear hb)
        (try clear hb2)
        (try clear hk)
        (try clear hi)
        (try clear ho0)
        (try clear ho1)
        obtain ⟨m3, m4, I1⟩ := Kd.R_slice l5.out
        (first | subst I1 | (injection I1 with f1_ f2_ f3_; obtain rfl := f1_.symm; obtain rfl := f3_.symm))
        obtain ⟨m5, m6, I2⟩ := Kd.R_slice l6.out
        (first | subst I2 | (injection I2 with f1_ f2_ f3_; obtain rfl := f1_.symm; obtain rfl := f3_.symm))
        refine hK.out _ _ ⟨(blk_cell c0.out 0).trans rfl, (blk_cell c0.out 1).trans rfl, (blk_cell b0.out 0).trans rfl, (blk_cell b0.out 1).trans rfl⟩ (fun f3 => ?_)
        clear hK K
        refine norm_ (a' := ?_) ?_ ?_
        rotate_left
        ·show Act.put _ (some 56) _ = _
         simp only [Act.put, sB, sC, sD, i64_w, i32_w]
         rfl
        refine one_ (i := 3) (N := some 57) #[true, true, true, true, false] rfl rfl (by kernel_rfl) (by decide) (fun K hK => ?_)
        refine goes_ Try.func10 (by kernel_rfl) rfl #[.agg #[.slice e7 g5.length e8, .slice f1 g6.length f2], .agg #[.slice m3 o1.length m4, .slice m5 o2.length m6]] (by rfl) rfl rfl (by (try simp only [lA, lB, lC]); first | done | rfl | (simp only [lD, lE]; rfl)) ?_
        with_reducible refine (laws_eqBox.calls i3 _ _ g5 _ _ g6 _ _ o1 _ _ o2 true _ ?side1 ?side2 ?side3 ?side4 ?side5 ?side6 ?side7 ?side8 R0.out).mono ?_
        (case side1 => exact cu (Kd.R_reads' a6.out).2.2)
        (case side2 => exact (Kd.R_reads' a6.out).2.1)
        (case side3 => exact cu (Kd.R_reads' a7.out).2.2)
        (case side4 => exact (Kd.R_reads' a7.out).2.1)
        (case side5 => exact cu (Kd.R_reads' l5.out).2.2)
        (case side6 => exact (Kd.R_reads' l5.out).2.1)
        (case side7 => exact cu (Kd.R_reads' l6.out).2.2)
        (case side8 => exact (Kd.R_reads' l6.out).2.1)
        rintro e R5 ⟨rfl, hb⟩
        refine ⟨_, rfl, ?_⟩
        replace b1 := a_ (Kd.R_below (rk b1.out) hb)
        replace b2 := a_ (Kd.R_below (rk b2.out) hb)
        replace a6 := a_ (Kd.R_below (rk a6.out) hb)
        replace a7 := a_ (Kd.R_below (rk a7.out) hb)
        replace a8 := a_ (Kd.R_below (rk a8.out) hb)
        replace a9 := a_ (Kd.R_below (rk a9.out) hb)
        replace a4 := a_ (Kd.R_below (rk a4.out) hb)
        replace a5 := a_ (Kd.R_below (rk a5.out) hb)
        replace l5 := a_ (Kd.R_below (rk l5.out) hb)
        replace l6 := a_ (Kd.R_below (rk l6.out) hb)
        replace b0 := a_ (blk_below (pk b0.out) hb)
        replace b3 := a_ (blk_below (pk b3.out) hb)
        replace b4 := a_ (blk_below (pk b4.out) hb)
        replace c0 := a_ (blk_below (pk c0.out) hb)
        replace c3 := a_ (blk_below (pk c3.out) hb)
        replace b9 := a_ (blk_below (pk b9.out) hb)
        replace HB := a_ (below_step (by repeat (with_reducible first | exact HB.out | refine bz ?_ (by assumption) | apply bA | apply bN | apply bD)) hb)
        (try clear hb)
        (try clear hb2)
        (try clear hk)
        (try clear hi)
        refine hK.out _ _ ⟨(blk_cell c0.out 0).trans rfl, (blk_cell c0.out 1).trans rfl, (blk_cell b0.out 0).trans rfl, (blk_cell b0.out 1).trans rfl⟩ (fun f3 => ?_)
        clear hK K
        refine norm_ (a' := ?_) ?_ ?_
        rotate_left
        ·show Act.put _ (some 57) _ = _
         simp only [Act.put, sB, sC, sD, i64_w, i32_w]
         rfl
        refine pure_ (i := 4) (N := some 58) (v := ?_) (a' := ?_) #[true, true, true, true, true] rfl rfl (by kernel_rfl) (fun _ _ _ h => h) (Or.inl ⟨by rfl, ?_⟩) ?_ ?_
        rotate_left
        ·intro w'
         go_simp
         with_reducible rfl
        rotate_left
        ·simp only [Act.put, sB, sC, sD, i64_w, i32_w]
         rfl
        refine done_ (by kernel_rfl) ?_
        try go_wp2
        replace b1 := a_ (Kd.R_drew b1.out)
        replace b2 := a_ (Kd.R_drew b2.out)
        replace a6 := a_ (Kd.R_drew a6.out)
        replace a7 := a_ (Kd.R_drew a7.out)
        replace a8 := a_ (Kd.R_drew a8.out)
        replace a9 := a_ (Kd.R_drew a9.out)
        replace a4 := a_ (Kd.R_drew a4.out)
        replace a5 := a_ (Kd.R_drew a5.out)
        replace l5 := a_ (Kd.R_drew l5.out)
        replace l6 := a_ (Kd.R_drew l6.out)
        replace b0 := a_ (blk_drew b0.out)
        replace b3 := a_ (blk_drew b3.out)
        replace b4 := a_ (blk_drew b4.out)
        replace c0 := a_ (blk_drew c0.out)
        replace c3 := a_ (blk_drew c3.out)
        replace b9 := a_ (blk_drew b9.out)
        replace HB := a_ (below_drew1 HB.out)
        refine start_ (n := 5) (S := fun w' => w'.cell? ⟨n8, 0, none⟩ = some (.slice e1 f9.length e2) ∧ w'.cell? ⟨n8, 1, none⟩ = some (.slice e3 g2.length e4) ∧ w'.cell? ⟨j3, 0, none⟩ = some (.slice A1_0 l1_0.length c1_0) ∧ w'.cell? ⟨j3, 1, none⟩ = some (.slice A1_1 l1_1.length c1_1)) (ds := []) #[false, false, false, false, false] (by kernel_rfl) rfl rfl ⟨(blk_cell c3.out 0).trans rfl, (blk_cell c3.out 1).trans rfl, (blk_cell b3.out 0).trans rfl, (blk_cell b3.out 1).trans rfl⟩ (fun f3 => ?_)
        generalize R5.drew = Um at b1 b2 a6 a7 a8 a9 a4 a5 l5 l6 b0 b3 b4 c0 c3 b9 HB f3 ⊢
        refine take_ (i := 0) (N := some 59) (v := ?_) (a' := ?_) #[true, false, false, false, false] rfl rfl (by kernel_rfl) (fun _ _ _ h => h) (Or.inl ⟨by rfl, ?_⟩) f3 ?_ ?_
        rotate_left
        ·rintro w' ⟨s0, s1, s2, s3⟩
         go_simp
         with_reducible rfl
        rotate_left
        ·simp only [Act.put, sB, sC, sD, i64_w, i32_w]
         rfl
        refine take_ (i := 1) (N := some 60) (v := ?_) (a' := ?_) #[true, true, false, false, false] rfl rfl (by kernel_rfl) (fun _ _ _ h => h) (Or.inl ⟨by rfl, ?_⟩) f3 ?_ ?_
        rotate_left
        ·rintro w' ⟨s0, s1, s2, s3⟩
         go_simp
         with_reducible rfl
        rotate_left
        ·simp only [Act.put, sB, sC, sD, i64_w, i32_w]
         rfl
        refine one_ (i := 2) (N := some 61) #[true, true, true, false, false] rfl rfl (by kernel_rfl) (by decide) (fun K hK => ?_)
        refine goes_ Try.func8 (by kernel_rfl) rfl #[.agg #[.slice A1_0 l1_0.length c1_0, .slice A1_1 l1_1.length c1_1]] (by rfl) rfl rfl (by (try simp only [lA, lB, lC]); first | done | rfl | (simp only [lD, lE]; rfl)) ?_
        with_reducible refine (laws_toBox.calls i3 _ _ l1_0 _ _ l1_1 o3 o4 _ ?side1 ?side2 ?side3 ?side4 R1.out).mono ?_
        (case side1 => exact Kd.C_below s8.out (un HB.out))
        (case side2 => exact s9.out)
        (case side3 => exact Kd.C_below t0.out (un HB.out))
        (case side4 => exact t1.out)
        rintro e Un ⟨Uo, Up, rfl, ho0, ho1, hb⟩
        refine ⟨_, rfl, ?_⟩
        have p1 := a_ (Kd.R_lower (nw (nw (nw (nw (nw (nw (nw (nw (nw (nw ho0 b1.out) b2.out) a6.out) a7.out) a8.out) a9.out) a4.out) a5.out) l5.out) l6.out) (bs HB.out))
        have p3 := a_ (Kd.R_lower (nw (nw (nw (nw (nw (nw (nw (nw (nw (nw ho1 b1.out) b2.out) a6.out) a7.out) a8.out) a9.out) a4.out) a5.out) l5.out) l6.out) (bs HB.out))
        replace b1 := a_ (ol2 b1.out hb ho0 ho1)
        replace b2 := a_ (ol2 b2.out hb ho0 ho1)
        replace a6 := a_ (ol2 a6.out hb ho0 ho1)
        replace a7 := a_ (ol2 a7.out hb ho0 ho1)
        replace a8 := a_ (ol2 a8.out hb ho0 ho1)
        replace a9 := a_ (ol2 a9.out hb ho0 ho1)
        replace a4 := a_ (ol2 a4.out hb ho0 ho1)
        replace a5 := a_ (ol2 a5.out hb ho0 ho1)
        replace l5 := a_ (ol2 l5.out hb ho0 ho1)
        replace l6 := a_ (ol2 l6.out hb ho0 ho1)
        replace b0 := a_ (blk_below (pk b0.out) hb)
        replace b3 := a_ (blk_below (pk b3.out) hb)
        replace b4 := a_ (blk_below (pk b4.out) hb)
        replace c0 := a_ (blk_below (pk c0.out) hb)
        replace c3 := a_ (blk_below (pk c3.out) hb)
        replace b9 := a_ (blk_below (pk b9.out) hb)
        replace HB := a_ (below_step (by repeat (with_reducible first | exact HB.out | refine bz ?_ (by assumption) | apply bA | apply bN | apply bD)) hb)
        (try clear hb)
        (try clear hb2)
        (try clear hk)
        (try clear hi)
        (try clear ho0)
        (try clear ho1)
        obtain ⟨m7, m8, I3⟩ := Kd.R_slice p1.out
        (first | subst I3 | (injection I3 with f1_ f2_ f3_; obtain rfl := f1_.symm; obtain rfl := f3_.symm))
        obtain ⟨m9, n0, I4⟩ := Kd.R_slice p3.out
        (first | subst I4 | (injection I4 with f1_ f2_ f3_; obtain rfl := f1_.symm; obtain rfl := f3_.symm))
        refine hK.out _ _ ⟨(blk_cell c3.out 0).trans rfl, (blk_cell c3.out 1).trans rfl, (blk_cell b3.out 0).trans rfl, (blk_cell b3.out 1).trans rfl⟩ (fun f3 => ?_)
        clear hK K
        refine norm_ (a' := ?_) ?_ ?_
        rotate_left
        ·show Act.put _ (some 61) _ = _
         simp only [Act.put, sB, sC, sD, i64_w, i32_w]
         rfl
        refine one_ (i := 3) (N := some 62) #[true, true, true, true, false] rfl rfl (by kernel_rfl) (by decide) (fun K hK => ?_)
        refine goes_ Try.func10 (by kernel_rfl) rfl #[.agg #[.slice e1 f9.length e2, .slice e3 g2.length e4], .agg #[.slice m7 o3.length m8, .slice m9 o4.length n0]] (by rfl) rfl rfl (by (try simp only [lA, lB, lC]); first | done | rfl | (simp only [lD, lE]; rfl)) ?_
        with_reducible refine (laws_eqBox.calls i3 _ _ f9 _ _ g2 _ _ o3 _ _ o4 true _ ?side1 ?side2 ?side3 ?side4 ?side5 ?side6 ?side7 ?side8 R2.out).mono ?_
        (case side1 => exact cu (Kd.R_reads' a8.out).2.2)
        (case side2 => exact (Kd.R_reads' a8.out).2.1)
        (case side3 => exact cu (Kd.R_reads' a9.out).2.2)
        (case side4 => exact (Kd.R_reads' a9.out).2.1)
        (case side5 => exact cu (Kd.R_reads' p1.out).2.2)
        (case side6 => exact (Kd.R_reads' p1.out).2.1)
        (case side7 => exact cu (Kd.R_reads' p3.out).2.2)
        (case side8 => exact (Kd.R_reads' p3.out).2.1)
        rintro e Uq ⟨rfl, hb⟩
        refine ⟨_, rfl, ?_⟩
        replace b1 := a_ (Kd.R_below (rk b1.out) hb)
        replace b2 := a_ (Kd.R_below (rk b2.out) hb)
        replace a6 := a_ (Kd.R_below (rk a6.out) hb)
        replace a7 := a_ (Kd.R_below (rk a7.out) hb)
        replace a8 := a_ (Kd.R_below (rk a8.out) hb)
        replace a9 := a_ (Kd.R_below (rk a9.out) hb)
        replace a4 := a_ (Kd.R_below (rk a4.out) hb)
        replace a5 := a_ (Kd.R_below (rk a5.out) hb)
        replace l5 := a_ (Kd.R_below (rk l5.out) hb)
        replace l6 := a_ (Kd.R_below (rk l6.out) hb)
        replace p1 := a_ (Kd.R_below (rk p1.out) hb)
        replace p3 := a_ (Kd.R_below (rk p3.out) hb)
        replace b0 := a_ (blk_below (pk b0.out) hb)
        replace b3 := a_ (blk_below (pk b3.out) hb)
        replace b4 := a_ (blk_below (pk b4.out) hb)
        replace c0 := a_ (blk_below (pk c0.out) hb)
        replace c3 := a_ (blk_below (pk c3.out) hb)
        replace b9 := a_ (blk_below (pk b9.out) hb)
        replace HB := a_ (below_step (by repeat (with_reducible first | exact HB.out | refine bz ?_ (by assumption) | apply bA | apply bN | apply bD)) hb)
        (try clear hb)
        (try clear hb2)
        (try clear hk)
        (try clear hi)
        refine hK.out _ _ ⟨(blk_cell c3.out 0).trans rfl, (blk_cell c3.out 1).trans rfl, (blk_cell b3.out 0).trans rfl, (blk_cell b3.out 1).trans rfl⟩ (fun f3 => ?_)
        clear hK K
        refine norm_ (a' := ?_) ?_ ?_
        rotate_left
        ·show Act.put _ (some 62) _ = _
         simp only [Act.put, sB, sC, sD, i64_w, i32_w]
         rfl
        refine pure_ (i := 4) (N := some 63) (v := ?_) (a' := ?_) #[true, true, true, true, true] rfl rfl (by kernel_rfl) (fun _ _ _ h => h) (Or.inl ⟨by rfl, ?_⟩) ?_ ?_
        rotate_left
        ·intro w'
         go_simp
         with_reducible rfl
        rotate_left
        ·simp only [Act.put, sB, sC, sD, i64_w, i32_w]
         rfl
        refine done_ (by kernel_rfl) ?_
        have R6 := v6.out
        have R7 := r5.out
        have R8 := v7.out
        have R9 := r6.out
        have S0 := l9.out
        have S1 := l0.out
        have S2 := r9.out
        have S3 := w0.out
        have S4 := k1.out
        have S5 := m1.out
        have z0 : _ = some (Value.slice e7 g5.length e8) := (blk_cell c0.out 0).trans rfl
        have z1 : _ = some (Value.slice f1 g6.length f2) := (blk_cell c0.out 1).trans rfl
        have z2 := blk_frozen c0.out 0
        have z3 := blk_frozen c0.out 1
        go_upto_region 21 with (first | ((with_reducible refine gate_callee (f := 11) rfl ?_); refine goesL_ (some 66) rfl rfl Try.func11 (by kernel_rfl) rfl #[.agg #[.slice e7 g5.length e8, .slice f1 g6.length f2], .int .i64 1] rfl (by (try simp only [lA, lB, lC]); first | done | rfl | (simp only [lD, lE]; rfl)) ?_; (with_reducible refine (laws_markBox.calls i3 (fun k_ => some k_ = (.slice e7 g5.length e8 : Value).ownBlock) (.slice e7 g5.length e8) g5 (fun k_ => some k_ = (.slice f1 g6.length f2 : Value).ownBlock) (.slice f1 g6.length f2) g6 1 G8 j5 j6 w _ ?side1 ?side2 ?side3 ?side4 ?side5 R3.out).mono ?_); (case side1 => repeat (with_reducible first | exact HB.out | refine bz ?_ (by assumption) | apply bA | apply bN | apply bD)); (case side2 => exact Kd.R_tight rfl a6.out); (case side3 => exact fun k_ e_ => (a6.out.1 k_ e_.symm).1.1.1.1.2.2.1); (case side4 => exact Kd.R_tight rfl a7.out); (case side5 => exact fun k_ e_ => (a7.out.1 k_ e_.symm).1.1.1.1.2.2.1); rintro e Ur ⟨rfl, hy0, hy1, hb, hkp⟩; refine ⟨_, rfl, ?_⟩; replace b1 := a_ (Kd.R_mono (ok' := fun k_ => N_ (.slice e9 d3.length f0) k_ ∧ N_ (.slice e7 g5.length e8) k_ ∧ N_ (.slice f1 g6.length f2) k_ ∧ N_ (.slice e1 f9.length e2) k_ ∧ N_ (.slice e3 g2.length e4) k_ ∧ N_ (.slice d4 d0.length d5) k_ ∧ N_ (.slice d6 d1.length d7) k_ ∧ N_ (.slice m3 o1.length m4) k_ ∧ N_ (.slice m5 o2.length m6) k_ ∧ N_ (.slice m7 o3.length m8) k_ ∧ N_ (.slice m9 o4.length n0) k_) (Kd.R_keptB (b1.out) hkp (fun k_ hk_ hs_ => Or.elim hs_ (fun e_ => (hk_.1.1.1.1.2.1) e_) (fun e_ => (hk_.1.1.1.1.2.2.1) e_))) (fun _ ⟨⟨⟨⟨⟨⟨a, b, c, d, e, f, g⟩, h⟩, i⟩, j⟩, l⟩, _⟩ => ⟨a, b, c, d, e, f, g, h, i, j, l⟩)); replace b2 := a_ (Kd.R_mono (ok' := fun k_ => N_ (.slice e5 d2.length e6) k_ ∧ N_ (.slice e7 g5.length e8) k_ ∧ N_ (.slice f1 g6.length f2) k_ ∧ N_ (.slice e1 f9.length e2) k_ ∧ N_ (.slice e3 g2.length e4) k_ ∧ N_ (.slice d4 d0.length d5) k_ ∧ N_ (.slice d6 d1.length d7) k_ ∧ N_ (.slice m3 o1.length m4) k_ ∧ N_ (.slice m5 o2.length m6) k_ ∧ N_ (.slice m7 o3.length m8) k_ ∧ N_ (.slice m9 o4.length n0) k_) (Kd.R_keptB (b2.out) hkp (fun k_ hk_ hs_ => Or.elim hs_ (fun e_ => (hk_.1.1.1.1.2.1) e_) (fun e_ => (hk_.1.1.1.1.2.2.1) e_))) (fun _ ⟨⟨⟨⟨⟨⟨a, b, c, d, e, f, g⟩, h⟩, i⟩, j⟩, l⟩, _⟩ => ⟨a, b, c, d, e, f, g, h, i, j, l⟩)); replace a8 := a_ (Kd.R_mono (ok' := fun k_ => N_ (.slice e5 d2.length e6) k_ ∧ N_ (.slice e9 d3.length f0) k_ ∧ N_ (.slice e7 g5.length e8) k_ ∧ N_ (.slice f1 g6.length f2) k_ ∧ N_ (.slice e3 g2.length e4) k_ ∧ N_ (.slice d4 d0.length d5) k_ ∧ N_ (.slice d6 d1.length d7) k_ ∧ N_ (.slice m3 o1.length m4) k_ ∧ N_ (.slice m5 o2.length m6) k_ ∧ N_ (.slice m7 o3.length m8) k_ ∧ N_ (.slice m9 o4.length n0) k_) (Kd.R_keptB (a8.out) hkp (fun k_ hk_ hs_ => Or.elim hs_ (fun e_ => (hk_.1.1.1.1.2.2.1) e_) (fun e_ => (hk_.1.1.1.1.2.2.2.1) e_))) (fun _ ⟨⟨⟨⟨⟨⟨a, b, c, d, e, f, g⟩, h⟩, i⟩, j⟩, l⟩, _⟩ => ⟨a, b, c, d, e, f, g, h, i, j, l⟩)); replace a9 := a_ (Kd.R_mono (ok' := fun k_ => N_ (.slice e5 d2.length e6) k_ ∧ N_ (.slice e9 d3.length f0) k_ ∧ N_ (.slice e7 g5.length e8) k_ ∧ N_ (.slice f1 g6.length f2) k_ ∧ N_ (.slice e1 f9.length e2) k_ ∧ N_ (.slice d4 d0.length d5) k_ ∧ N_ (.slice d6 d1.length d7) k_ ∧ N_ (.slice m3 o1.length m4) k_ ∧ N_ (.slice m5 o2.length m6) k_ ∧ N_ (.slice m7 o3.length m8) k_ ∧ N_ (.slice m9 o4.length n0) k_) (Kd.R_keptB (a9.out) hkp (fun k_ hk_ hs_ => Or.elim hs_ (fun e_ => (hk_.1.1.1.1.2.2.1) e_) (fun e_ => (hk_.1.1.1.1.2.2.2.1) e_))) (fun _ ⟨⟨⟨⟨⟨⟨a, b, c, d, e, f, g⟩, h⟩, i⟩, j⟩, l⟩, _⟩ => ⟨a, b, c, d, e, f, g, h, i, j, l⟩)); replace a4 := a_ (Kd.R_mono (ok' := fun k_ => N_ (.slice e5 d2.length e6) k_ ∧ N_ (.slice e9 d3.length f0) k_ ∧ N_ (.slice e7 g5.length e8) k_ ∧ N_ (.slice f1 g6.length f2) k_ ∧ N_ (.slice e1 f9.length e2) k_ ∧ N_ (.slice e3 g2.length e4) k_ ∧ N_ (.slice d6 d1.length d7) k_ ∧ N_ (.slice m3 o1.length m4) k_ ∧ N_ (.slice m5 o2.length m6) k_ ∧ N_ (.slice m7 o3.length m8) k_ ∧ N_ (.slice m9 o4.length n0) k_) (Kd.R_keptB (a4.out) hkp (fun k_ hk_ hs_ => Or.elim hs_ (fun e_ => (hk_.1.1.1.1.2.2.1) e_) (fun e_ => (hk_.1.1.1.1.2.2.2.1) e_))) (fun _ ⟨⟨⟨⟨⟨⟨a, b, c, d, e, f, g⟩, h⟩, i⟩, j⟩, l⟩, _⟩ => ⟨a, b, c, d, e, f, g, h, i, j, l⟩)); replace a5 := a_ (Kd.R_mono (ok' := fun k_ => N_ (.slice e5 d2.length e6) k_ ∧ N_ (.slice e9 d3.length f0) k_ ∧ N_ (.slice e7 g5.length e8) k_ ∧ N_ (.slice f1 g6.length f2) k_ ∧ N_ (.slice e1 f9.length e2) k_ ∧ N_ (.slice e3 g2.length e4) k_ ∧ N_ (.slice d4 d0.length d5) k_ ∧ N_ (.slice m3 o1.length m4) k_ ∧ N_ (.slice m5 o2.length m6) k_ ∧ N_ (.slice m7 o3.length m8) k_ ∧ N_ (.slice m9 o4.length n0) k_) (Kd.R_keptB (a5.out) hkp (fun k_ hk_ hs_ => Or.elim hs_ (fun e_ => (hk_.1.1.1.1.2.2.1) e_) (fun e_ => (hk_.1.1.1.1.2.2.2.1) e_))) (fun _ ⟨⟨⟨⟨⟨⟨a, b, c, d, e, f, g⟩, h⟩, i⟩, j⟩, l⟩, _⟩ => ⟨a, b, c, d, e, f, g, h, i, j, l⟩)); replace b0 := a_ (blk_kept (pk b0.out) hkp (fun hs_ => Or.elim hs_ (fun e_ => (fun e_ => (Kd.R_ne a6.out b0.out (by decide)) e_) e_) (fun e_ => (fun e_ => (Kd.R_ne a7.out b0.out (by decide)) e_) e_))); replace b3 := a_ (blk_kept (pk b3.out) hkp (fun hs_ => Or.elim hs_ (fun e_ => (fun e_ => (Kd.R_ne a6.out b3.out (by decide)) e_) e_) (fun e_ => (fun e_ => (Kd.R_ne a7.out b3.out (by decide)) e_) e_))); replace b4 := a_ (blk_kept (pk b4.out) hkp (fun hs_ => Or.elim hs_ (fun e_ => (fun e_ => (Kd.R_ne a6.out b4.out (by decide)) e_) e_) (fun e_ => (fun e_ => (Kd.R_ne a7.out b4.out (by decide)) e_) e_))); replace c0 := a_ (blk_kept (pk c0.out) hkp (fun hs_ => Or.elim hs_ (fun e_ => (fun e_ => (Kd.R_ne a6.out c0.out (by decide)) e_) e_) (fun e_ => (fun e_ => (Kd.R_ne a7.out c0.out (by decide)) e_) e_))); replace c3 := a_ (blk_kept (pk c3.out) hkp (fun hs_ => Or.elim hs_ (fun e_ => (fun e_ => (Kd.R_ne a6.out c3.out (by decide)) e_) e_) (fun e_ => (fun e_ => (Kd.R_ne a7.out c3.out (by decide)) e_) e_))); replace b9 := a_ (blk_kept (pk b9.out) hkp (fun hs_ => Or.elim hs_ (fun e_ => (fun e_ => (Kd.R_ne a6.out b9.out (by decide)) e_) e_) (fun e_ => (fun e_ => (Kd.R_ne a7.out b9.out (by decide)) e_) e_))); replace a6 := a_ (Kd.R_reok rfl hy0 (fun k_ e_ => a6.out.1 k_ e_)); replace a7 := a_ (Kd.R_reok rfl hy1 (fun k_ e_ => a7.out.1 k_ e_)); replace l5 := a_ (Kd.R_mono (ok' := fun k_ => N_ (.slice e5 d2.length e6) k_ ∧ N_ (.slice e9 d3.length f0) k_ ∧ N_ (.slice e7 g5.length e8) k_ ∧ N_ (.slice f1 g6.length f2) k_ ∧ N_ (.slice e1 f9.length e2) k_ ∧ N_ (.slice e3 g2.length e4) k_ ∧ N_ (.slice d4 d0.length d5) k_ ∧ N_ (.slice d6 d1.length d7) k_ ∧ N_ (.slice m5 o2.length m6) k_ ∧ N_ (.slice m7 o3.length m8) k_ ∧ N_ (.slice m9 o4.length n0) k_) (Kd.R_keptB (l5.out) hkp (fun k_ hk_ hs_ => Or.elim hs_ (fun e_ => (hk_.1.1.1.1.1.1.1.2) e_) (fun e_ => (hk_.1.1.1.1.1.1.2) e_))) (fun _ ⟨⟨⟨⟨⟨⟨⟨⟨⟨⟨⟨a, b⟩, c⟩, d⟩, e⟩, f⟩, g⟩, h⟩, i⟩, j⟩, l⟩, _⟩ => ⟨b, c, d, e, f, g, h, i, a, j, l⟩)); replace l6 := a_ (Kd.R_mono (ok' := fun k_ => N_ (.slice e5 d2.length e6) k_ ∧ N_ (.slice e9 d3.length f0) k_ ∧ N_ (.slice e7 g5.length e8) k_ ∧ N_ (.slice f1 g6.length f2) k_ ∧ N_ (.slice e1 f9.length e2) k_ ∧ N_ (.slice e3 g2.length e4) k_ ∧ N_ (.slice d4 d0.length d5) k_ ∧ N_ (.slice d6 d1.length d7) k_ ∧ N_ (.slice m3 o1.length m4) k_ ∧ N_ (.slice m7 o3.length m8) k_ ∧ N_ (.slice m9 o4.length n0) k_) (Kd.R_keptB (l6.out) hkp (fun k_ hk_ hs_ => Or.elim hs_ (fun e_ => (hk_.1.1.1.1.1.1.1.2) e_) (fun e_ => (hk_.1.1.1.1.1.1.2) e_))) (fun _ ⟨⟨⟨⟨⟨⟨⟨⟨⟨⟨⟨a, b⟩, c⟩, d⟩, e⟩, f⟩, g⟩, h⟩, i⟩, j⟩, l⟩, _⟩ => ⟨b, c, d, e, f, g, h, i, a, j, l⟩)); replace p1 := a_ (Kd.R_mono (ok' := fun k_ => N_ (.slice e5 d2.length e6) k_ ∧ N_ (.slice e9 d3.length f0) k_ ∧ N_ (.slice e7 g5.length e8) k_ ∧ N_ (.slice f1 g6.length f2) k_ ∧ N_ (.slice e1 f9.length e2) k_ ∧ N_ (.slice e3 g2.length e4) k_ ∧ N_ (.slice d4 d0.length d5) k_ ∧ N_ (.slice d6 d1.length d7) k_ ∧ N_ (.slice m3 o1.length m4) k_ ∧ N_ (.slice m5 o2.length m6) k_ ∧ N_ (.slice m9 o4.length n0) k_) (Kd.R_keptB (p1.out) hkp (fun k_ hk_ hs_ => Or.elim hs_ (fun e_ => (hk_.1.1.1.1.1.1.1.2) e_) (fun e_ => (hk_.1.1.1.1.1.1.2) e_))) (fun _ ⟨⟨⟨⟨⟨⟨⟨⟨⟨⟨⟨a, b⟩, c⟩, d⟩, e⟩, f⟩, g⟩, h⟩, i⟩, j⟩, l⟩, _⟩ => ⟨b, c, d, e, f, g, h, i, j, l, a⟩)); replace p3 := a_ (Kd.R_mono (ok' := fun k_ => N_ (.slice e5 d2.length e6) k_ ∧ N_ (.slice e9 d3.length f0) k_ ∧ N_ (.slice e7 g5.length e8) k_ ∧ N_ (.slice f1 g6.length f2) k_ ∧ N_ (.slice e1 f9.length e2) k_ ∧ N_ (.slice e3 g2.length e4) k_ ∧ N_ (.slice d4 d0.length d5) k_ ∧ N_ (.slice d6 d1.length d7) k_ ∧ N_ (.slice m3 o1.length m4) k_ ∧ N_ (.slice m5 o2.length m6) k_ ∧ N_ (.slice m7 o3.length m8) k_) (Kd.R_keptB (p3.out) hkp (fun k_ hk_ hs_ => Or.elim hs_ (fun e_ => (hk_.1.1.1.1.1.1.1.2) e_) (fun e_ => (hk_.1.1.1.1.1.1.2) e_))) (fun _ ⟨⟨⟨⟨⟨⟨⟨⟨⟨⟨⟨a, b⟩, c⟩, d⟩, e⟩, f⟩, g⟩, h⟩, i⟩, j⟩, l⟩, _⟩ => ⟨b, c, d, e, f, g, h, i, j, l, a⟩)); replace HB := a_ (hb); clear hb hkp hy0 hy1; have S6 := v8.out; have S7 := r7.out; have S8 := v9.out; have S9 := r8.out; have T0 := m0.out; have T1 := l1.out; have T2 := k2.out; have T3 := m2.out; have z4 : _ = some (Value.slice e1 f9.length e2) := (blk_cell c3.out 0).trans rfl; have z5 : _ = some (Value.slice e3 g2.length e4) := (blk_cell c3.out 1).trans rfl; have z6 := blk_frozen c3.out 0; have z7 := blk_frozen c3.out 1) | ((with_reducible refine gate_callee (f := 11) rfl ?_); refine goesL_ (some 69) rfl rfl Try.func11 (by kernel_rfl) rfl #[.agg #[.slice e1 f9.length e2, .slice e3 g2.length e4], .int .i64 G8] rfl (by (try simp only [lA, lB, lC]); first | done | rfl | (simp only [lD, lE]; rfl)) ?_; (with_reducible refine (laws_markBox.calls i3 (fun k_ => some k_ = (.slice e1 f9.length e2 : Value).ownBlock) (.slice e1 f9.length e2) f9 (fun k_ => some k_ = (.slice e3 g2.length e4 : Value).ownBlock) (.slice e3 g2.length e4) g2 G8 x9 j7 j8 w _ ?side1 ?side2 ?side3 ?side4 ?side5 R4.out).mono ?_); (case side1 => repeat (with_reducible first | exact HB.out | refine bz ?_ (by assumption) | apply bA | apply bN | apply bD)); (case side2 => exact Kd.R_tight rfl a8.out); (case side3 => exact fun k_ e_ => (a8.out.1 k_ e_.symm).2.2.2.2.1); (case side4 => exact Kd.R_tight rfl a9.out); (case side5 => exact fun k_ e_ => (a9.out.1 k_ e_.symm).2.2.2.2.1); rintro e Us ⟨rfl, hy0, hy1, hb, hkp⟩; refine ⟨_, rfl, ?_⟩; replace b1 := a_ (Kd.R_mono (ok' := fun k_ => N_ (.slice e9 d3.length f0) k_ ∧ N_ (.slice e7 g5.length e8) k_ ∧ N_ (.slice f1 g6.length f2) k_ ∧ N_ (.slice e1 f9.length e2) k_ ∧ N_ (.slice e3 g2.length e4) k_ ∧ N_ (.slice d4 d0.length d5) k_ ∧ N_ (.slice d6 d1.length d7) k_ ∧ N_ (.slice m3 o1.length m4) k_ ∧ N_ (.slice m5 o2.length m6) k_ ∧ N_ (.slice m7 o3.length m8) k_ ∧ N_ (.slice m9 o4.length n0) k_) (Kd.R_keptB (b1.out) hkp (fun k_ hk_ hs_ => Or.elim hs_ (fun e_ => (hk_.2.2.2.1) e_) (fun e_ => (hk_.2.2.2.2.1) e_))) (fun _ hk_ => hk_.1)); replace b2 := a_ (Kd.R_mono (ok' := fun k_ => N_ (.slice e5 d2.length e6) k_ ∧ N_ (.slice e7 g5.length e8) k_ ∧ N_ (.slice f1 g6.length f2) k_ ∧ N_ (.slice e1 f9.length e2) k_ ∧ N_ (.slice e3 g2.length e4) k_ ∧ N_ (.slice d4 d0.length d5) k_ ∧ N_ (.slice d6 d1.length d7) k_ ∧ N_ (.slice m3 o1.length m4) k_ ∧ N_ (.slice m5 o2.length m6) k_ ∧ N_ (.slice m7 o3.length m8) k_ ∧ N_ (.slice m9 o4.length n0) k_) (Kd.R_keptB (b2.out) hkp (fun k_ hk_ hs_ => Or.elim hs_ (fun e_ => (hk_.2.2.2.1) e_) (fun e_ => (hk_.2.2.2.2.1) e_))) (fun _ hk_ => hk_.1)); replace a6 := a_ (Kd.R_mono (ok' := fun k_ => N_ (.slice e5 d2.length e6) k_ ∧ N_ (.slice e9 d3.length f0) k_ ∧ N_ (.slice f1 g6.length f2) k_ ∧ N_ (.slice e1 f9.length e2) k_ ∧ N_ (.slice e3 g2.length e4) k_ ∧ N_ (.slice d4 d0.length d5) k_ ∧ N_ (.slice d6 d1.length d7) k_ ∧ N_ (.slice m3 o1.length m4) k_ ∧ N_ (.slice m5 o2.length m6) k_ ∧ N_ (.slice m7 o3.length m8) k_ ∧ N_ (.slice m9 o4.length n0) k_) (Kd.R_keptB (a6.out) hkp (fun k_ hk_ hs_ => Or.elim hs_ (fun e_ => (hk_.1.1.1.1.2.2.2.1) e_) (fun e_ => (hk_.1.1.1.1.2.2.2.2.1) e_))) (fun _ ⟨⟨⟨⟨⟨⟨a, b, c, d, e, f, g⟩, h⟩, i⟩, j⟩, l⟩, _⟩ => ⟨a, b, c, d, e, f, g, h, i, j, l⟩)); replace a7 := a_ (Kd.R_mono (ok' := fun k_ => N_ (.slice e5 d2.length e6) k_ ∧ N_ (.slice e9 d3.length f0) k_ ∧ N_ (.slice e7 g5.length e8) k_ ∧ N_ (.slice e1 f9.length e2) k_ ∧ N_ (.slice e3 g2.length e4) k_ ∧ N_ (.slice d4 d0.length d5) k_ ∧ N_ (.slice d6 d1.length d7) k_ ∧ N_ (.slice m3 o1.length m4) k_ ∧ N_ (.slice m5 o2.length m6) k_ ∧ N_ (.slice m7 o3.length m8) k_ ∧ N_ (.slice m9 o4.length n0) k_) (Kd.R_keptB (a7.out) hkp (fun k_ hk_ hs_ => Or.elim hs_ (fun e_ => (hk_.1.1.1.1.2.2.2.1) e_) (fun e_ => (hk_.1.1.1.1.2.2.2.2.1) e_))) (fun _ ⟨⟨⟨⟨⟨⟨a, b, c, d, e, f, g⟩, h⟩, i⟩, j⟩, l⟩, _⟩ => ⟨a, b, c, d, e, f, g, h, i, j, l⟩)); replace a4 := a_ (Kd.R_mono (ok' := fun k_ => N_ (.slice e5 d2.length e6) k_ ∧ N_ (.slice e9 d3.length f0) k_ ∧ N_ (.slice e7 g5.length e8) k_ ∧ N_ (.slice f1 g6.length f2) k_ ∧ N_ (.slice e1 f9.length e2) k_ ∧ N_ (.slice e3 g2.length e4) k_ ∧ N_ (.slice d6 d1.length d7) k_ ∧ N_ (.slice m3 o1.length m4) k_ ∧ N_ (.slice m5 o2.length m6) k_ ∧ N_ (.slice m7 o3.length m8) k_ ∧ N_ (.slice m9 o4.length n0) k_) (Kd.R_keptB (a4.out) hkp (fun k_ hk_ hs_ => Or.elim hs_ (fun e_ => (hk_.2.2.2.2.1) e_) (fun e_ => (hk_.2.2.2.2.2.1) e_))) (fun _ hk_ => hk_.1)); replace a5 := a_ (Kd.R_mono (ok' := fun k_ => N_ (.slice e5 d2.length e6) k_ ∧ N_ (.slice e9 d3.length f0) k_ ∧ N_ (.slice e7 g5.length e8) k_ ∧ N_ (.slice f1 g6.length f2) k_ ∧ N_ (.slice e1 f9.length e2) k_ ∧ N_ (.slice e3 g2.length e4) k_ ∧ N_ (.slice d4 d0.length d5) k_ ∧ N_ (.slice m3 o1.length m4) k_ ∧ N_ (.slice m5 o2.length m6) k_ ∧ N_ (.slice m7 o3.length m8) k_ ∧ N_ (.slice m9 o4.length n0) k_) (Kd.R_keptB (a5.out) hkp (fun k_ hk_ hs_ => Or.elim hs_ (fun e_ => (hk_.2.2.2.2.1) e_) (fun e_ => (hk_.2.2.2.2.2.1) e_))) (fun _ hk_ => hk_.1)); replace b0 := a_ (blk_kept (pk b0.out) hkp (fun hs_ => Or.elim hs_ (fun e_ => (fun e_ => (Kd.R_ne a8.out b0.out (by decide)) e_) e_) (fun e_ => (fun e_ => (Kd.R_ne a9.out b0.out (by decide)) e_) e_))); replace b3 := a_ (blk_kept (pk b3.out) hkp (fun hs_ => Or.elim hs_ (fun e_ => (fun e_ => (Kd.R_ne a8.out b3.out (by decide)) e_) e_) (fun e_ => (fun e_ => (Kd.R_ne a9.out b3.out (by decide)) e_) e_))); replace b4 := a_ (blk_kept (pk b4.out) hkp (fun hs_ => Or.elim hs_ (fun e_ => (fun e_ => (Kd.R_ne a8.out b4.out (by decide)) e_) e_) (fun e_ => (fun e_ => (Kd.R_ne a9.out b4.out (by decide)) e_) e_))); replace c0 := a_ (blk_kept (pk c0.out) hkp (fun hs_ => Or.elim hs_ (fun e_ => (fun e_ => (Kd.R_ne a8.out c0.out (by decide)) e_) e_) (fun e_ => (fun e_ => (Kd.R_ne a9.out c0.out (by decide)) e_) e_))); replace c3 := a_ (blk_kept (pk c3.out) hkp (fun hs_ => Or.elim hs_ (fun e_ => (fun e_ => (Kd.R_ne a8.out c3.out (by decide)) e_) e_) (fun e_ => (fun e_ => (Kd.R_ne a9.out c3.out (by decide)) e_) e_))); replace b9 := a_ (blk_kept (pk b9.out) hkp (fun hs_ => Or.elim hs_ (fun e_ => (fun e_ => (Kd.R_ne a8.out b9.out (by decide)) e_) e_) (fun e_ => (fun e_ => (Kd.R_ne a9.out b9.out (by decide)) e_) e_))); replace a8 := a_ (Kd.R_reok rfl hy0 (fun k_ e_ => a8.out.1 k_ e_)); replace a9 := a_ (Kd.R_reok rfl hy1 (fun k_ e_ => a9.out.1 k_ e_)); replace l5 := a_ (Kd.R_mono (ok' := fun k_ => N_ (.slice e5 d2.length e6) k_ ∧ N_ (.slice e9 d3.length f0) k_ ∧ N_ (.slice e7 g5.length e8) k_ ∧ N_ (.slice f1 g6.length f2) k_ ∧ N_ (.slice e1 f9.length e2) k_ ∧ N_ (.slice e3 g2.length e4) k_ ∧ N_ (.slice d4 d0.length d5) k_ ∧ N_ (.slice d6 d1.length d7) k_ ∧ N_ (.slice m5 o2.length m6) k_ ∧ N_ (.slice m7 o3.length m8) k_ ∧ N_ (.slice m9 o4.length n0) k_) (Kd.R_keptB (l5.out) hkp (fun k_ hk_ hs_ => Or.elim hs_ (fun e_ => (hk_.2.2.2.2.1) e_) (fun e_ => (hk_.2.2.2.2.2.1) e_))) (fun _ hk_ => hk_.1)); replace l6 := a_ (Kd.R_mono (ok' := fun k_ => N_ (.slice e5 d2.length e6) k_ ∧ N_ (.slice e9 d3.length f0) k_ ∧ N_ (.slice e7 g5.length e8) k_ ∧ N_ (.slice f1 g6.length f2) k_ ∧ N_ (.slice e1 f9.length e2) k_ ∧ N_ (.slice e3 g2.length e4) k_ ∧ N_ (.slice d4 d0.length d5) k_ ∧ N_ (.slice d6 d1.length d7) k_ ∧ N_ (.slice m3 o1.length m4) k_ ∧ N_ (.slice m7 o3.length m8) k_ ∧ N_ (.slice m9 o4.length n0) k_) (Kd.R_keptB (l6.out) hkp (fun k_ hk_ hs_ => Or.elim hs_ (fun e_ => (hk_.2.2.2.2.1) e_) (fun e_ => (hk_.2.2.2.2.2.1) e_))) (fun _ hk_ => hk_.1)); replace p1 := a_ (Kd.R_mono (ok' := fun k_ => N_ (.slice e5 d2.length e6) k_ ∧ N_ (.slice e9 d3.length f0) k_ ∧ N_ (.slice e7 g5.length e8) k_ ∧ N_ (.slice f1 g6.length f2) k_ ∧ N_ (.slice e1 f9.length e2) k_ ∧ N_ (.slice e3 g2.length e4) k_ ∧ N_ (.slice d4 d0.length d5) k_ ∧ N_ (.slice d6 d1.length d7) k_ ∧ N_ (.slice m3 o1.length m4) k_ ∧ N_ (.slice m5 o2.length m6) k_ ∧ N_ (.slice m9 o4.length n0) k_) (Kd.R_keptB (p1.out) hkp (fun k_ hk_ hs_ => Or.elim hs_ (fun e_ => (hk_.2.2.2.2.1) e_) (fun e_ => (hk_.2.2.2.2.2.1) e_))) (fun _ hk_ => hk_.1)); replace p3 := a_ (Kd.R_mono (ok' := fun k_ => N_ (.slice e5 d2.length e6) k_ ∧ N_ (.slice e9 d3.length f0) k_ ∧ N_ (.slice e7 g5.length e8) k_ ∧ N_ (.slice f1 g6.length f2) k_ ∧ N_ (.slice e1 f9.length e2) k_ ∧ N_ (.slice e3 g2.length e4) k_ ∧ N_ (.slice d4 d0.length d5) k_ ∧ N_ (.slice d6 d1.length d7) k_ ∧ N_ (.slice m3 o1.length m4) k_ ∧ N_ (.slice m5 o2.length m6) k_ ∧ N_ (.slice m7 o3.length m8) k_) (Kd.R_keptB (p3.out) hkp (fun k_ hk_ hs_ => Or.elim hs_ (fun e_ => (hk_.2.2.2.2.1) e_) (fun e_ => (hk_.2.2.2.2.2.1) e_))) (fun _ hk_ => hk_.1)); replace HB := a_ (hb); clear hb hkp hy0 hy1))
        (try simp only [Act.put, sB, sC, sD])
        go_cut [82] (fun v82 wc => ∃ (kq : Nat) (x82_113 : Bool), v82 = .bool x82_113 ∧ Aside0 (laws_FnExactBoxMeet.j1 kq h6 x82_113 l0_0 l0_1 l1_0 l1_1 d2 d3 d0 d1 = some r) ∧ Aside0 (kq ≤ i3) ∧ Aside0 (Kd.R Kd.flt 39 wc w.heap.size (fun k_ => some k_ ≠ ((.slice e9 d3.length f0) : Value).ownBlock ∧ some k_ ≠ ((.slice e7 g5.length e8) : Value).ownBlock ∧ some k_ ≠ ((.slice f1 g6.length f2) : Value).ownBlock ∧ some k_ ≠ ((.slice e1 f9.length e2) : Value).ownBlock ∧ some k_ ≠ ((.slice e3 g2.length e4) : Value).ownBlock ∧ some k_ ≠ ((.slice d4 d0.length d5) : Value).ownBlock ∧ some k_ ≠ ((.slice d6 d1.length d7) : Value).ownBlock) (.slice e5 d2.length e6) d2) ∧ Aside0 (Kd.R Kd.flt 39 wc w.heap.size (fun k_ => some k_ ≠ ((.slice e5 d2.length e6) : Value).ownBlock ∧ some k_ ≠ ((.slice e7 g5.length e8) : Value).ownBlock ∧ some k_ ≠ ((.slice f1 g6.length f2) : Value).ownBlock ∧ some k_ ≠ ((.slice e1 f9.length e2) : Value).ownBlock ∧ some k_ ≠ ((.slice e3 g2.length e4) : Value).ownBlock ∧ some k_ ≠ ((.slice d4 d0.length d5) : Value).ownBlock ∧ some k_ ≠ ((.slice d6 d1.length d7) : Value).ownBlock) (.slice e9 d3.length f0) d3) ∧ Aside0 (Kd.R Kd.flt 39 wc w.heap.size (fun k_ => some k_ ≠ ((.slice e5 d2.length e6) : Value).ownBlock ∧ some k_ ≠ ((.slice e9 d3.length f0) : Value).ownBlock ∧ some k_ ≠ ((.slice f1 g6.length f2) : Value).ownBlock ∧ some k_ ≠ ((.slice e1 f9.length e2) : Value).ownBlock ∧ some k_ ≠ ((.slice e3 g2.length e4) : Value).ownBlock ∧ some k_ ≠ ((.slice d4 d0.length d5) : Value).ownBlock ∧ some k_ ≠ ((.slice d6 d1.length d7) : Value).ownBlock) (.slice e7 g5.length e8) j5) ∧ Aside0 (Kd.R Kd.flt 39 wc w.heap.size (fun k_ => some k_ ≠ ((.slice e5 d2.length e6) : Value).ownBlock ∧ some k_ ≠ ((.slice e9 d3.length f0) : Value).ownBlock ∧ some k_ ≠ ((.slice e7 g5.length e8) : Value).ownBlock ∧ some k_ ≠ ((.slice e1 f9.length e2) : Value).ownBlock ∧ some k_ ≠ ((.slice e3 g2.length e4) : Value).ownBlock ∧ some k_ ≠ ((.slice d4 d0.length d5) : Value).ownBlock ∧ some k_ ≠ ((.slice d6 d1.length d7) : Value).ownBlock) (.slice f1 g6.length f2) j6) ∧ Aside0 (Kd.R Kd.flt 39 wc w.heap.size (fun k_ => some k_ ≠ ((.slice e5 d2.length e6) : Value).ownBlock ∧ some k_ ≠ ((.slice e9 d3.length f0) : Value).ownBlock ∧ some k_ ≠ ((.slice e7 g5.length e8) : Value).ownBlock ∧ some k_ ≠ ((.slice f1 g6.length f2) : Value).ownBlock ∧ some k_ ≠ ((.slice e3 g2.length e4) : Value).ownBlock ∧ some k_ ≠ ((.slice d4 d0.length d5) : Value).ownBlock ∧ some k_ ≠ ((.slice d6 d1.length d7) : Value).ownBlock) (.slice e1 f9.length e2) j7) ∧ Aside0 (Kd.R Kd.flt 39 wc w.heap.size (fun k_ => some k_ ≠ ((.slice e5 d2.length e6) : Value).ownBlock ∧ some k_ ≠ ((.slice e9 d3.length f0) : Value).ownBlock ∧ some k_ ≠ ((.slice e7 g5.length e8) : Value).ownBlock ∧ some k_ ≠ ((.slice f1 g6.length f2) : Value).ownBlock ∧ some k_ ≠ ((.slice e1 f9.length e2) : Value).ownBlock ∧ some k_ ≠ ((.slice d4 d0.length d5) : Value).ownBlock ∧ some k_ ≠ ((.slice d6 d1.length d7) : Value).ownBlock) (.slice e3 g2.length e4) j8) ∧ Aside0 (Kd.R Kd.flt 39 wc w.heap.size (fun k_ => some k_ ≠ ((.slice e5 d2.length e6) : Value).ownBlock ∧ some k_ ≠ ((.slice e9 d3.length f0) : Value).ownBlock ∧ some k_ ≠ ((.slice e7 g5.length e8) : Value).ownBlock ∧ some k_ ≠ ((.slice f1 g6.length f2) : Value).ownBlock ∧ some k_ ≠ ((.slice e1 f9.length e2) : Value).ownBlock ∧ some k_ ≠ ((.slice e3 g2.length e4) : Value).ownBlock ∧ some k_ ≠ ((.slice d6 d1.length d7) : Value).ownBlock) (.slice d4 d0.length d5) d0) ∧ Aside0 (Kd.R Kd.flt 39 wc w.heap.size (fun k_ => some k_ ≠ ((.slice e5 d2.length e6) : Value).ownBlock ∧ some k_ ≠ ((.slice e9 d3.length f0) : Value).ownBlock ∧ some k_ ≠ ((.slice e7 g5.length e8) : Value).ownBlock ∧ some k_ ≠ ((.slice f1 g6.length f2) : Value).ownBlock ∧ some k_ ≠ ((.slice e1 f9.length e2) : Value).ownBlock ∧ some k_ ≠ ((.slice e3 g2.length e4) : Value).ownBlock ∧ some k_ ≠ ((.slice d4 d0.length d5) : Value).ownBlock) (.slice d6 d1.length d7) d1) ∧ Aside0 (wc.heap[i9]? = some (.cells #[(.slice A0_0 l0_0.length c0_0), (.slice A0_1 l0_1.length c0_1)] 24 (0, 0))) ∧ Aside0 (wc.heap[j3]? = some (.cells #[(.slice A1_0 l1_0.length c1_0), (.slice A1_1 l1_1.length c1_1)] 24 (0, 0))) ∧ Aside0 (wc.heap[h8]? = some (.cells #[(.slice e5 d2.length e6), (.slice e9 d3.length f0)] 26 (0, 0))) ∧ Aside0 (wc.heap[n4]? = some (.cells #[(.slice e7 g5.length e8), (.slice f1 g6.length f2)] 26 (0, 0))) ∧ Aside0 (wc.heap[n8]? = some (.cells #[(.slice e1 f9.length e2), (.slice e3 g2.length e4)] 26 (0, 0))) ∧ Aside0 (wc.heap[n7]? = some (.cells #[(.slice d4 d0.length d5), (.slice d6 d1.length d7)] 26 (0, 0))) ∧ Aside0 (Below w.heap.size w wc))
        case first =>
         have H := HC114.out
         clear HC114
         by_cases c138 : x9 < 0
         ·rw [if_pos c138] at H
          have t8 : decide (x9 < 0) = true := decide_eq_true c138
          clear c138
          (first | rw [t8] | (simp only [i64_w, i32_w]; rw [t8]) | skip)
          have H' := Aside0.mk H
          clear H
          go_wp2
          go_meet
          case rel => exact ⟨_, (true), (by first | rfl | (simp; done) | (simp [*]; done)), H', ⟨by have := x8.out; first | omega | exact Nat.le_refl _⟩, ⟨rk (Kd.R_mono b1.out (fun _ ⟨a, b, c, d, e, f, g, _⟩ => ⟨a, b, c, d, e, f, g⟩))⟩, ⟨rk (Kd.R_mono b2.out (fun _ ⟨a, b, c, d, e, f, g, _⟩ => ⟨a, b, c, d, e, f, g⟩))⟩, ⟨rk (Kd.R_mono a6.out (fun _ ⟨a, b, c, d, e, f, g, _⟩ => ⟨a, b, c, d, e, f, g⟩))⟩, ⟨rk (Kd.R_mono a7.out (fun _ ⟨a, b, c, d, e, f, g, _⟩ => ⟨a, b, c, d, e, f, g⟩))⟩, ⟨rk (Kd.R_mono a8.out (fun _ ⟨a, b, c, d, e, f, g, _⟩ => ⟨a, b, c, d, e, f, g⟩))⟩, ⟨rk (Kd.R_mono a9.out (fun _ ⟨a, b, c, d, e, f, g, _⟩ => ⟨a, b, c, d, e, f, g⟩))⟩, ⟨rk (Kd.R_mono a4.out (fun _ ⟨a, b, c, d, e, f, g, _⟩ => ⟨a, b, c, d, e, f, g⟩))⟩, ⟨rk (Kd.R_mono a5.out (fun _ ⟨a, b, c, d, e, f, g, _⟩ => ⟨a, b, c, d, e, f, g⟩))⟩, ⟨pk b0.out⟩, ⟨pk b3.out⟩, ⟨pk b4.out⟩, ⟨pk c0.out⟩, ⟨pk c3.out⟩, ⟨pk b9.out⟩, ⟨by repeat (with_reducible first | exact HB.out | refine bz ?_ (by assumption) | apply bA | apply bN | apply bD)⟩⟩
         ·rw [if_neg c138] at H
          have t8 : decide (x9 < 0) = false := decide_eq_false c138
          clear c138
          (first | rw [t8] | (simp only [i64_w, i32_w]; rw [t8]) | skip)
          replace H := Option.bind_eq_some_iff.mp H
          obtain ⟨t271, I5, H⟩ := H
          have L6 := Aside0.mk I5
          clear I5
          by_cases c140 : t271 = true
          ·subst c140
           have H1 : (laws_FnExactBoxMeet.j1 i3 h6 (p9 != h6) l0_0 l0_1 l1_0 l1_1 d2 d3 d0 d1) = some r := by rw [if_pos rfl] at H; exact H
           clear H
           have H := H1
           clear H1
           have H' := Aside0.mk H
           clear H
           have T4 := n2.out
           have T5 := k8.out
           have T6 := n3.out
           have T7 := k9.out
           have T9 := l4.out
           have U0 := j9.out
           have U1 := m1.out
           have U2 := k1.out
           have U3 := m2.out
           have U4 := k2.out
           have z8 : _ = some (Value.slice d4 d0.length d5) := (blk_cell b9.out 0).trans rfl
           have z9 : _ = some (Value.slice d6 d1.length d7) := (blk_cell b9.out 1).trans rfl
           have A0 := blk_frozen b9.out 0
           have A1 := blk_frozen b9.out 1
           have U5 := h9.out
           have U6 := g3.out
           have U7 := i0.out
           have U8 := g4.out
           have U9 := l0.out
           have V0 := l9.out
           have V1 := l1.out
           have V2 := m0.out
           have A2 : _ = some (Value.slice e5 d2.length e6) := (blk_cell b4.out 0).trans rfl
           have A4 : _ = some (Value.slice e9 d3.length f0) := (blk_cell b4.out 1).trans rfl
           have A5 := blk_frozen b4.out 0
           have A6 := blk_frozen b4.out 1
           go_wp2_with (first | (go_at_call 10; (with_reducible refine (laws_eqBox.calls i3 _ _ d0 _ _ d1 _ _ d2 _ _ d3 true _ ?side1 ?side2 ?side3 ?side4 ?side5 ?side6 ?side7 ?side8 L6.out).mono ?_); (case side1 => exact cu (Kd.R_reads' a4.out).2.2); (case side2 => exact (Kd.R_reads' a4.out).2.1); (case side3 => exact cu (Kd.R_reads' a5.out).2.2); (case side4 => exact (Kd.R_reads' a5.out).2.1); (case side5 => exact cu (Kd.R_reads' b1.out).2.2); (case side6 => exact (Kd.R_reads' b1.out).2.1); (case side7 => exact cu (Kd.R_reads' b2.out).2.2); (case side8 => exact (Kd.R_reads' b2.out).2.1); rintro e Ut ⟨rfl, hb⟩; replace b1 := a_ (Kd.R_below (rk b1.out) hb); replace b2 := a_ (Kd.R_below (rk b2.out) hb); replace a6 := a_ (Kd.R_below (rk a6.out) hb); replace a7 := a_ (Kd.R_below (rk a7.out) hb); replace a8 := a_ (Kd.R_below (rk a8.out) hb); replace a9 := a_ (Kd.R_below (rk a9.out) hb); replace a4 := a_ (Kd.R_below (rk a4.out) hb); replace a5 := a_ (Kd.R_below (rk a5.out) hb); replace l5 := a_ (Kd.R_below (rk l5.out) hb); replace l6 := a_ (Kd.R_below (rk l6.out) hb); replace p1 := a_ (Kd.R_below (rk p1.out) hb); replace p3 := a_ (Kd.R_below (rk p3.out) hb); replace b0 := a_ (blk_below (pk b0.out) hb); replace b3 := a_ (blk_below (pk b3.out) hb); replace b4 := a_ (blk_below (pk b4.out) hb); replace c0 := a_ (blk_below (pk c0.out) hb); replace c3 := a_ (blk_below (pk c3.out) hb); replace b9 := a_ (blk_below (pk b9.out) hb); replace HB := a_ (below_step (by repeat (with_reducible first | exact HB.out | refine bz ?_ (by assumption) | apply bA | apply bN | apply bD)) hb); clear hb))
           go_meet
           case rel => exact ⟨_, ((p9 != h6)), (by first | rfl | (simp; done) | (simp [*]; done)), H', ⟨by have := x8.out; first | omega | exact Nat.le_refl _⟩, ⟨rk (Kd.R_mono b1.out (fun _ ⟨a, b, c, d, e, f, g, _⟩ => ⟨a, b, c, d, e, f, g⟩))⟩, ⟨rk (Kd.R_mono b2.out (fun _ ⟨a, b, c, d, e, f, g, _⟩ => ⟨a, b, c, d, e, f, g⟩))⟩, ⟨rk (Kd.R_mono a6.out (fun _ ⟨a, b, c, d, e, f, g, _⟩ => ⟨a, b, c, d, e, f, g⟩))⟩, ⟨rk (Kd.R_mono a7.out (fun _ ⟨a, b, c, d, e, f, g, _⟩ => ⟨a, b, c, d, e, f, g⟩))⟩, ⟨rk (Kd.R_mono a8.out (fun _ ⟨a, b, c, d, e, f, g, _⟩ => ⟨a, b, c, d, e, f, g⟩))⟩, ⟨rk (Kd.R_mono a9.out (fun _ ⟨a, b, c, d, e, f, g, _⟩ => ⟨a, b, c, d, e, f, g⟩))⟩, ⟨rk (Kd.R_mono a4.out (fun _ ⟨a, b, c, d, e, f, g, _⟩ => ⟨a, b, c, d, e, f, g⟩))⟩, ⟨rk (Kd.R_mono a5.out (fun _ ⟨a, b, c, d, e, f, g, _⟩ => ⟨a, b, c, d, e, f, g⟩))⟩, ⟨pk b0.out⟩, ⟨pk b3.out⟩, ⟨pk b4.out⟩, ⟨pk c0.out⟩, ⟨pk c3.out⟩, ⟨pk b9.out⟩, ⟨by repeat (with_reducible first | exact HB.out | refine bz ?_ (by assumption) | apply bA | apply bN | apply bD)⟩⟩
          ·replace c140 := Bool.eq_false_iff.mpr c140
           subst c140
           have H1 : (laws_FnExactBoxMeet.j1 i3 h6 true l0_0 l0_1 l1_0 l1_1 d2 d3 d0 d1) = some r := by rw [if_neg (show ¬ (false = true) by decide)] at H; exact H
           clear H
           have H := H1
           clear H1
           have H' := Aside0.mk H
           clear H
           have V3 := n2.out
           have V4 := k8.out
           have V5 := n3.out
           have V6 := k9.out
           have V7 := l4.out
           have V8 := j9.out
           have V9 := m1.out
           have W0 := k1.out
           have W1 := m2.out
           have W2 := k2.out
           have A7 : _ = some (Value.slice d4 d0.length d5) := (blk_cell b9.out 0).trans rfl
           have A8 : _ = some (Value.slice d6 d1.length d7) := (blk_cell b9.out 1).trans rfl
           have A9 := blk_frozen b9.out 0
           have B0 := blk_frozen b9.out 1
           have W3 := h9.out
           have W4 := g3.out
           have W5 := i0.out
           have W6 := g4.out
           have W7 := l0.out
           have W8 := l9.out
           have W9 := l1.out
           have X0 := m0.out
           have B1 : _ = some (Value.slice e5 d2.length e6) := (blk_cell b4.out 0).trans rfl
           have B2 : _ = some (Value.slice e9 d3.length f0) := (blk_cell b4.out 1).trans rfl
           have B3 := blk_frozen b4.out 0
           have B4 := blk_frozen b4.out 1
           go_wp2_with (first | (go_at_call 10; (with_reducible refine (laws_eqBox.calls i3 _ _ d0 _ _ d1 _ _ d2 _ _ d3 false _ ?side1 ?side2 ?side3 ?side4 ?side5 ?side6 ?side7 ?side8 L6.out).mono ?_); (case side1 => exact cu (Kd.R_reads' a4.out).2.2); (case side2 => exact (Kd.R_reads' a4.out).2.1); (case side3 => exact cu (Kd.R_reads' a5.out).2.2); (case side4 => exact (Kd.R_reads' a5.out).2.1); (case side5 => exact cu (Kd.R_reads' b1.out).2.2); (case side6 => exact (Kd.R_reads' b1.out).2.1); (case side7 => exact cu (Kd.R_reads' b2.out).2.2); (case side8 => exact (Kd.R_reads' b2.out).2.1); rintro e Uu ⟨rfl, hb⟩; replace b1 := a_ (Kd.R_below (rk b1.out) hb); replace b2 := a_ (Kd.R_below (rk b2.out) hb); replace a6 := a_ (Kd.R_below (rk a6.out) hb); replace a7 := a_ (Kd.R_below (rk a7.out) hb); replace a8 := a_ (Kd.R_below (rk a8.out) hb); replace a9 := a_ (Kd.R_below (rk a9.out) hb); replace a4 := a_ (Kd.R_below (rk a4.out) hb); replace a5 := a_ (Kd.R_below (rk a5.out) hb); replace l5 := a_ (Kd.R_below (rk l5.out) hb); replace l6 := a_ (Kd.R_below (rk l6.out) hb); replace p1 := a_ (Kd.R_below (rk p1.out) hb); replace p3 := a_ (Kd.R_below (rk p3.out) hb); replace b0 := a_ (blk_below (pk b0.out) hb); replace b3 := a_ (blk_below (pk b3.out) hb); replace b4 := a_ (blk_below (pk b4.out) hb); replace c0 := a_ (blk_below (pk c0.out) hb); replace c3 := a_ (blk_below (pk c3.out) hb); replace b9 := a_ (blk_below (pk b9.out) hb); replace HB := a_ (below_step (by repeat (with_reducible first | exact HB.out | refine bz ?_ (by assumption) | apply bA | apply bN | apply bD)) hb); clear hb))
           go_meet
           case rel => exact ⟨_, (true), (by first | rfl | (simp; done) | (simp [*]; done)), H', ⟨by have := x8.out; first | omega | exact Nat.le_refl _⟩, ⟨rk (Kd.R_mono b1.out (fun _ ⟨a, b, c, d, e, f, g, _⟩ => ⟨a, b, c, d, e, f, g⟩))⟩, ⟨rk (Kd.R_mono b2.out (fun _ ⟨a, b, c, d, e, f, g, _⟩ => ⟨a, b, c, d, e, f, g⟩))⟩, ⟨rk (Kd.R_mono a6.out (fun _ ⟨a, b, c, d, e, f, g, _⟩ => ⟨a, b, c, d, e, f, g⟩))⟩, ⟨rk (Kd.R_mono a7.out (fun _ ⟨a, b, c, d, e, f, g, _⟩ => ⟨a, b, c, d, e, f, g⟩))⟩, ⟨rk (Kd.R_mono a8.out (fun _ ⟨a, b, c, d, e, f, g, _⟩ => ⟨a, b, c, d, e, f, g⟩))⟩, ⟨rk (Kd.R_mono a9.out (fun _ ⟨a, b, c, d, e, f, g, _⟩ => ⟨a, b, c, d, e, f, g⟩))⟩, ⟨rk (Kd.R_mono a4.out (fun _ ⟨a, b, c, d, e, f, g, _⟩ => ⟨a, b, c, d, e, f, g⟩))⟩, ⟨rk (Kd.R_mono a5.out (fun _ ⟨a, b, c, d, e, f, g, _⟩ => ⟨a, b, c, d, e, f, g⟩))⟩, ⟨pk b0.out⟩, ⟨pk b3.out⟩, ⟨pk b4.out⟩, ⟨pk c0.out⟩, ⟨pk c3.out⟩, ⟨pk b9.out⟩, ⟨by repeat (with_reducible first | exact HB.out | refine bz ?_ (by assumption) | apply bA | apply bN | apply bD)⟩⟩
        case rest =>
         clear HC114
         try clear c1; try clear p2; try clear c8; try clear c10; try clear c11; try clear c12; try clear c13; try clear c14; try clear c15; try clear c16; try clear c125; try clear c126; try clear c127; try clear c128; try clear c129; try clear c132; try clear c133; try clear c134; try clear c135; try clear c138; try clear t8; try clear c140; try clear c141; try clear c142; try clear c143; try clear c144; try clear c145; try clear c147; try clear c148; try clear c149; try clear c150; try clear c153; try clear c154; try clear c155; try clear c156; try clear c157; try clear c159; try clear c160; try clear c161; try clear c162; try clear z0; try clear z1; try clear z4; try clear z5; try clear z8; try clear z9; try clear A2; try clear A4; try clear A7; try clear A8; try clear B1; try clear B2; try clear z2; try clear z3; try clear z6; try clear z7; try clear A0; try clear A1; try clear A5; try clear A6; try clear A9; try clear B0; try clear B3; try clear B4
         obtain ⟨kq, x82_113, rfl, HA, I6, b1, b2, a6, a7, a8, a9, a4, a5, b0, b3, b4, c0, c3, b9, HB⟩ := hcut
         have b5 := (Kd.R_reads' a6.out).1
         rw [b5] at a6
         (try simp only [b5])
         (try simp only [b5] at b0)
         (try simp only [b5] at b3)
         (try simp only [b5] at b4)
         (try simp only [b5] at c0)
         (try simp only [b5] at c3)
         (try simp only [b5] at b9)
         (try simp only [b5] at b1)
         (try simp only [b5] at b2)
         (try simp only [b5] at a7)
         (try simp only [b5] at a8)
         (try simp only [b5] at a9)
         (try simp only [b5] at a4)
         (try simp only [b5] at a5)
         have b6 := (Kd.R_reads' a7.out).1
         rw [b6] at a7
         (try simp only [b6])
         (try simp only [b6] at b0)
         (try simp only [b6] at b3)
         (try simp only [b6] at b4)
         (try simp only [b6] at c0)
         (try simp only [b6] at c3)
         (try simp only [b6] at b9)
         (try simp only [b6] at b1)
         (try simp only [b6] at b2)
         (try simp only [b6] at a6)
         (try simp only [b6] at a8)
         (try simp only [b6] at a9)
         (try simp only [b6] at a4)
         (try simp only [b6] at a5)
         have b7 := (Kd.R_reads' a8.out).1
         rw [b7] at a8
         (try simp only [b7])
         (try simp only [b7] at b0)
         (try simp only [b7] at b3)
         (try simp only [b7] at b4)
         (try simp only [b7] at c0)
         (try simp only [b7] at c3)
         (try simp only [b7] at b9)
         (try simp only [b7] at b1)
         (try simp only [b7] at b2)
         (try simp only [b7] at a6)
         (try simp only [b7] at a7)
         (try simp only [b7] at a9)
         (try simp only [b7] at a4)
         (try simp only [b7] at a5)
         have b8 := (Kd.R_reads' a9.out).1
         rw [b8] at a9
         (try simp only [b8])
         (try simp only [b8] at b0)
         (try simp only [b8] at b3)
         (try simp only [b8] at b4)
         (try simp only [b8] at c0)
         (try simp only [b8] at c3)
         (try simp only [b8] at b9)
         (try simp only [b8] at b1)
         (try simp only [b8] at b2)
         (try simp only [b8] at a6)
         (try simp only [b8] at a7)
         (try simp only [b8] at a8)
         (try simp only [b8] at a4)
         (try simp only [b8] at a5)
         cases kq with
         | zero => exact absurd HA.out (by simp [laws_FnExactBoxMeet.j1])
         | succ h3 =>
          have H := HA.out
          clear HA
          simp only [laws_FnExactBoxMeet.j1] at H
          by_cases c165 : x82_113 = true
          ·subst c165
           have H1 : (none) = some r := by rw [if_pos rfl] at H; exact H
           clear H
           have H := H1
           clear H1
           exact absurd H (by simp)
          ·replace c165 := Bool.eq_false_iff.mpr c165
           subst c165
           have H1 : ((laws_markBox.f h3 d0 d1 1).bind fun bt272 => ((laws_heldBox.f h3 bt272.2.1 bt272.2.2 1).bind fun t275 => (if t275 < 0 then (none) else (if t275 = bt272.1 then ((laws_toBox.f h3 l0_0 l0_1).bind fun bt276 => ((laws_toBox.f h3 l1_0 l1_1).bind fun bt282 => ((impl_BoxMeet.f h3 bt276.1 bt276.2 bt282.1 bt282.2).bind fun bt288 => ((laws_eqBox.f h3 bt288.1 bt288.2.1 d2 d3).bind fun t296 => (if t296 = true then (laws_FnExactBoxMeet.j2 h3 bt272.1 (bt288.2.2 != h6) bt272.2.1 bt272.2.2) else (laws_FnExactBoxMeet.j2 h3 bt272.1 true bt272.2.1 bt272.2.2)))))) else (none))))) = some r := by rw [if_neg (show ¬ (false = true) by decide)] at H; exact H
           clear H
           have H := H1
           clear H1
           replace H := Option.bind_eq_some_iff.mp H
           obtain ⟨⟨p4, n9, o0⟩, I7, H⟩ := H
           replace H : ((laws_heldBox.f h3 n9 o0 1).bind fun t275 => (if t275 < 0 then (none) else (if t275 = p4 then ((laws_toBox.f h3 l0_0 l0_1).bind fun bt276 => ((laws_toBox.f h3 l1_0 l1_1).bind fun bt282 => ((impl_BoxMeet.f h3 bt276.1 bt276.2 bt282.1 bt282.2).bind fun bt288 => ((laws_eqBox.f h3 bt288.1 bt288.2.1 d2 d3).bind fun t296 => (if t296 = true then (laws_FnExactBoxMeet.j2 h3 p4 (bt288.2.2 != h6) n9 o0) else (laws_FnExactBoxMeet.j2 h3 p4 true n9 o0)))))) else (none)))) = some r := H
           have X1 := Aside0.mk I7
           clear I7
           replace H := Option.bind_eq_some_iff.mp H
           obtain ⟨t275, I8, H⟩ := H
           have X2 := Aside0.mk I8
           clear I8
           by_cases c168 : t275 < 0
           ·rw [if_pos c168] at H
            exact absurd H (by simp)
           ·rw [if_neg c168] at H
            have X3 : decide (t275 < 0) = false := decide_eq_false c168
            clear c168
            by_cases c169 : t275 = p4
            ·rw [if_pos c169] at H
             have X4 : (t275 == p4) = true := beq_iff_eq.mpr c169
             have X5 : (t275 != p4) = false := bne_eq_false_iff_eq.mpr c169
             clear c169
             replace H := Option.bind_eq_some_iff.mp H
             obtain ⟨⟨q0, q1⟩, I9, H⟩ := H
             replace H : ((laws_toBox.f h3 l1_0 l1_1).bind fun bt282 => ((impl_BoxMeet.f h3 q0 q1 bt282.1 bt282.2).bind fun bt288 => ((laws_eqBox.f h3 bt288.1 bt288.2.1 d2 d3).bind fun t296 => (if t296 = true then (laws_FnExactBoxMeet.j2 h3 p4 (bt288.2.2 != h6) n9 o0) else (laws_FnExactBoxMeet.j2 h3 p4 true n9 o0))))) = some r := H
             have L7 := Aside0.mk I9
             clear I9
             replace H := Option.bind_eq_some_iff.mp H
             obtain ⟨⟨q2, q3⟩, J0, H⟩ := H
             replace H : ((impl_BoxMeet.f h3 q0 q1 q2 q3).bind fun bt288 => ((laws_eqBox.f h3 bt288.1 bt288.2.1 d2 d3).bind fun t296 => (if t296 = true then (laws_FnExactBoxMeet.j2 h3 p4 (bt288.2.2 != h6) n9 o0) else (laws_FnExactBoxMeet.j2 h3 p4 true n9 o0)))) = some r := H
             have K0 := Aside0.mk J0
             clear J0
             replace H := Option.bind_eq_some_iff.mp H
             obtain ⟨⟨h7, i2, v5⟩, J1, H⟩ := H
             replace H : ((laws_eqBox.f h3 h7 i2 d2 d3).bind fun t296 => (if t296 = true then (laws_FnExactBoxMeet.j2 h3 p4 (v5 != h6) n9 o0) else (laws_FnExactBoxMeet.j2 h3 p4 true n9 o0))) = some r := H
             have G9 := Aside0.mk J1
             clear J1
             have HC173 := Aside0.mk H
             clear H
             have X6 := n2.out
             have X7 := k8.out
             have X8 := n3.out
             have X9 := k9.out
             have Y0 := l4.out
             have Y1 := j9.out
             have Y2 := m1.out
             have Y3 := k1.out
             have Y4 := m2.out
             have Y5 := k2.out
             have L8 : wc.cell? ⟨n7, 0, none⟩ = some (.slice d4 d0.length d5) := (blk_cell b9.out 0).trans rfl
             have L9 : wc.cell? ⟨n7, 1, none⟩ = some (.slice d6 d1.length d7) := (blk_cell b9.out 1).trans rfl
             have M0 := blk_frozen b9.out 0
             have M1 := blk_frozen b9.out 1
             try go_wp2_with (first | ((with_reducible refine gate_callee (f := 11) rfl ?_); refine goesL_ (some 85) rfl rfl Try.func11 (by kernel_rfl) rfl #[.agg #[.slice d4 d0.length d5, .slice d6 d1.length d7], .int .i64 1] rfl (by (try simp only [lA, lB, lC]); first | done | rfl | (simp only [lD, lE]; rfl)) ?_; (with_reducible refine (laws_markBox.calls h3 (fun k_ => some k_ = (.slice d4 d0.length d5 : Value).ownBlock) (.slice d4 d0.length d5) d0 (fun k_ => some k_ = (.slice d6 d1.length d7 : Value).ownBlock) (.slice d6 d1.length d7) d1 1 p4 n9 o0 w _ ?side1 ?side2 ?side3 ?side4 ?side5 X1.out).mono ?_); (case side1 => repeat (with_reducible first | exact HB.out | refine bz ?_ (by assumption) | apply bA | apply bN | apply bD)); (case side2 => exact Kd.R_tight rfl a4.out); (case side3 => exact fun k_ e_ => (a4.out.1 k_ e_.symm).2.2.2.2.2.2); (case side4 => exact Kd.R_tight rfl a5.out); (case side5 => exact fun k_ e_ => (a5.out.1 k_ e_.symm).2.2.2.2.2.2); rintro e Uv ⟨rfl, hy0, hy1, hb, hkp⟩; refine ⟨_, rfl, ?_⟩; replace b1 := a_ (Kd.R_mono (ok' := fun k_ => N_ (.slice e9 d3.length f0) k_ ∧ N_ (.slice e7 j5.length e8) k_ ∧ N_ (.slice f1 j6.length f2) k_ ∧ N_ (.slice e1 j7.length e2) k_ ∧ N_ (.slice e3 j8.length e4) k_ ∧ N_ (.slice d4 d0.length d5) k_ ∧ N_ (.slice d6 d1.length d7) k_) (Kd.R_keptB (b1.out) hkp (fun k_ hk_ hs_ => Or.elim hs_ (fun e_ => (hk_.2.2.2.2.2.1) e_) (fun e_ => (hk_.2.2.2.2.2.2) e_))) (fun _ hk_ => hk_.1)); replace b2 := a_ (Kd.R_mono (ok' := fun k_ => N_ (.slice e5 d2.length e6) k_ ∧ N_ (.slice e7 j5.length e8) k_ ∧ N_ (.slice f1 j6.length f2) k_ ∧ N_ (.slice e1 j7.length e2) k_ ∧ N_ (.slice e3 j8.length e4) k_ ∧ N_ (.slice d4 d0.length d5) k_ ∧ N_ (.slice d6 d1.length d7) k_) (Kd.R_keptB (b2.out) hkp (fun k_ hk_ hs_ => Or.elim hs_ (fun e_ => (hk_.2.2.2.2.2.1) e_) (fun e_ => (hk_.2.2.2.2.2.2) e_))) (fun _ hk_ => hk_.1)); replace a6 := a_ (Kd.R_mono (ok' := fun k_ => N_ (.slice e5 d2.length e6) k_ ∧ N_ (.slice e9 d3.length f0) k_ ∧ N_ (.slice f1 j6.length f2) k_ ∧ N_ (.slice e1 j7.length e2) k_ ∧ N_ (.slice e3 j8.length e4) k_ ∧ N_ (.slice d4 d0.length d5) k_ ∧ N_ (.slice d6 d1.length d7) k_) (Kd.R_keptB (a6.out) hkp (fun k_ hk_ hs_ => Or.elim hs_ (fun e_ => (hk_.2.2.2.2.2.1) e_) (fun e_ => (hk_.2.2.2.2.2.2) e_))) (fun _ hk_ => hk_.1)); replace a7 := a_ (Kd.R_mono (ok' := fun k_ => N_ (.slice e5 d2.length e6) k_ ∧ N_ (.slice e9 d3.length f0) k_ ∧ N_ (.slice e7 j5.length e8) k_ ∧ N_ (.slice e1 j7.length e2) k_ ∧ N_ (.slice e3 j8.length e4) k_ ∧ N_ (.slice d4 d0.length d5) k_ ∧ N_ (.slice d6 d1.length d7) k_) (Kd.R_keptB (a7.out) hkp (fun k_ hk_ hs_ => Or.elim hs_ (fun e_ => (hk_.2.2.2.2.2.1) e_) (fun e_ => (hk_.2.2.2.2.2.2) e_))) (fun _ hk_ => hk_.1)); replace a8 := a_ (Kd.R_mono (ok' := fun k_ => N_ (.slice e5 d2.length e6) k_ ∧ N_ (.slice e9 d3.length f0) k_ ∧ N_ (.slice e7 j5.length e8) k_ ∧ N_ (.slice f1 j6.length f2) k_ ∧ N_ (.slice e3 j8.length e4) k_ ∧ N_ (.slice d4 d0.length d5) k_ ∧ N_ (.slice d6 d1.length d7) k_) (Kd.R_keptB (a8.out) hkp (fun k_ hk_ hs_ => Or.elim hs_ (fun e_ => (hk_.2.2.2.2.2.1) e_) (fun e_ => (hk_.2.2.2.2.2.2) e_))) (fun _ hk_ => hk_.1)); replace a9 := a_ (Kd.R_mono (ok' := fun k_ => N_ (.slice e5 d2.length e6) k_ ∧ N_ (.slice e9 d3.length f0) k_ ∧ N_ (.slice e7 j5.length e8) k_ ∧ N_ (.slice f1 j6.length f2) k_ ∧ N_ (.slice e1 j7.length e2) k_ ∧ N_ (.slice d4 d0.length d5) k_ ∧ N_ (.slice d6 d1.length d7) k_) (Kd.R_keptB (a9.out) hkp (fun k_ hk_ hs_ => Or.elim hs_ (fun e_ => (hk_.2.2.2.2.2.1) e_) (fun e_ => (hk_.2.2.2.2.2.2) e_))) (fun _ hk_ => hk_.1)); replace b0 := a_ (blk_kept (pk b0.out) hkp (fun hs_ => Or.elim hs_ (fun e_ => (fun e_ => (Kd.R_ne a4.out b0.out (by decide)) e_) e_) (fun e_ => (fun e_ => (Kd.R_ne a5.out b0.out (by decide)) e_) e_))); replace b3 := a_ (blk_kept (pk b3.out) hkp (fun hs_ => Or.elim hs_ (fun e_ => (fun e_ => (Kd.R_ne a4.out b3.out (by decide)) e_) e_) (fun e_ => (fun e_ => (Kd.R_ne a5.out b3.out (by decide)) e_) e_))); replace b4 := a_ (blk_kept (pk b4.out) hkp (fun hs_ => Or.elim hs_ (fun e_ => (fun e_ => (Kd.R_ne a4.out b4.out (by decide)) e_) e_) (fun e_ => (fun e_ => (Kd.R_ne a5.out b4.out (by decide)) e_) e_))); replace c0 := a_ (blk_kept (pk c0.out) hkp (fun hs_ => Or.elim hs_ (fun e_ => (fun e_ => (Kd.R_ne a4.out c0.out (by decide)) e_) e_) (fun e_ => (fun e_ => (Kd.R_ne a5.out c0.out (by decide)) e_) e_))); replace c3 := a_ (blk_kept (pk c3.out) hkp (fun hs_ => Or.elim hs_ (fun e_ => (fun e_ => (Kd.R_ne a4.out c3.out (by decide)) e_) e_) (fun e_ => (fun e_ => (Kd.R_ne a5.out c3.out (by decide)) e_) e_))); replace b9 := a_ (blk_kept (pk b9.out) hkp (fun hs_ => Or.elim hs_ (fun e_ => (fun e_ => (Kd.R_ne a4.out b9.out (by decide)) e_) e_) (fun e_ => (fun e_ => (Kd.R_ne a5.out b9.out (by decide)) e_) e_))); replace a4 := a_ (Kd.R_reok rfl hy0 (fun k_ e_ => a4.out.1 k_ e_)); replace a5 := a_ (Kd.R_reok rfl hy1 (fun k_ e_ => a5.out.1 k_ e_)); replace HB := a_ (hb); clear hb hkp hy0 hy1; have M2 : _ = some (Value.slice d4 d0.length d5) := (blk_cell b9.out 0).trans rfl; have M3 : _ = some (Value.slice d6 d1.length d7) := (blk_cell b9.out 1).trans rfl; have M4 := blk_frozen b9.out 0; have M5 := blk_frozen b9.out 1) | ((with_reducible refine gate_callee (f := 12) rfl ?_); refine goesL_ (some 88) rfl rfl Try.func12 (by kernel_rfl) rfl #[.agg #[.slice d4 n9.length d5, .slice d6 o0.length d7], .int .i64 1] rfl (by (try simp only [lA, lB, lC]); first | done | (rw [show n9.length = d0.length from (Kd.R_reads' a4.out).1.symm, show o0.length = d1.length from (Kd.R_reads' a5.out).1.symm] <;> rfl) | rfl | (simp only [lD, lE]; rfl)) ?_; (with_reducible refine (laws_heldBox.calls h3 _ _ n9 _ _ o0 1 t275 _ ?side1 ?side2 ?side3 ?side4 X2.out).mono ?_); (case side1 => exact cu (Kd.R_reads' a4.out).2.2); (case side2 => rw [show n9.length = d0.length from (Kd.R_reads' a4.out).1.symm]; exact (Kd.R_reads' a4.out).2.1); (case side3 => exact cu (Kd.R_reads' a5.out).2.2); (case side4 => rw [show o0.length = d1.length from (Kd.R_reads' a5.out).1.symm]; exact (Kd.R_reads' a5.out).2.1); rintro e Y6 ⟨rfl, hb⟩; refine ⟨_, rfl, ?_⟩; replace b1 := a_ (Kd.R_below (rk b1.out) hb); replace b2 := a_ (Kd.R_below (rk b2.out) hb); replace a6 := a_ (Kd.R_below (rk a6.out) hb); replace a7 := a_ (Kd.R_below (rk a7.out) hb); replace a8 := a_ (Kd.R_below (rk a8.out) hb); replace a9 := a_ (Kd.R_below (rk a9.out) hb); replace a4 := a_ (Kd.R_below (rk a4.out) hb); replace a5 := a_ (Kd.R_below (rk a5.out) hb); replace b0 := a_ (blk_below (pk b0.out) hb); replace b3 := a_ (blk_below (pk b3.out) hb); replace b4 := a_ (blk_below (pk b4.out) hb); replace c0 := a_ (blk_below (pk c0.out) hb); replace c3 := a_ (blk_below (pk c3.out) hb); replace b9 := a_ (blk_below (pk b9.out) hb); replace HB := a_ (below_step (by repeat (with_reducible first | exact HB.out | refine bz ?_ (by assumption) | apply bA | apply bN | apply bD)) hb); clear hb))
             replace b1 := a_ (Kd.R_drew b1.out)
             replace b2 := a_ (Kd.R_drew b2.out)
             replace a6 := a_ (Kd.R_drew a6.out)
             replace a7 := a_ (Kd.R_drew a7.out)
             replace a8 := a_ (Kd.R_drew a8.out)
             replace a9 := a_ (Kd.R_drew a9.out)
             replace a4 := a_ (Kd.R_drew a4.out)
             replace a5 := a_ (Kd.R_drew a5.out)
             replace b0 := a_ (blk_drew b0.out)
             replace b3 := a_ (blk_drew b3.out)
             replace b4 := a_ (blk_drew b4.out)
             replace c0 := a_ (blk_drew c0.out)
             replace c3 := a_ (blk_drew c3.out)
             replace b9 := a_ (blk_drew b9.out)
             replace HB := a_ (below_drew1 HB.out)
             refine start_ (n := 11) (S := fun w' => w'.cell? ⟨i9, 0, none⟩ = some (.slice A0_0 l0_0.length c0_0) ∧ w'.cell? ⟨i9, 1, none⟩ = some (.slice A0_1 l0_1.length c0_1) ∧ w'.cell? ⟨j3, 0, none⟩ = some (.slice A1_0 l1_0.length c1_0) ∧ w'.cell? ⟨j3, 1, none⟩ = some (.slice A1_1 l1_1.length c1_1)) (ds := []) #[false, false, false, false, false, false, false, false, false, false, false] (by kernel_rfl) rfl rfl ⟨(blk_cell b0.out 0).trans rfl, (blk_cell b0.out 1).trans rfl, (blk_cell b3.out 0).trans rfl, (blk_cell b3.out 1).trans rfl⟩ (fun f3 => ?_); refine with_tabW laws_FnExactBoxMeet.tab31 laws_FnExactBoxMeet.bits31 (fun HT_ HW_ => ?_)
             generalize Y6.drew = Uw at b1 b2 a6 a7 a8 a9 a4 a5 b0 b3 b4 c0 c3 b9 HB f3 ⊢
             refine take_ (i := 0) (N := some 95) (v := ?_) (a' := ?_) #[true, false, false, false, false, false, false, false, false, false, false] rfl rfl (take_ofW HT_.out HW_.out (by kernel_rfl)) (fun _ _ _ h => h) (Or.inl ⟨by rfl, ?_⟩) f3 ?_ ?_
             rotate_left
             ·rintro w' ⟨s0, s1, s2, s3⟩
              go_simp
              with_reducible rfl
             rotate_left
             ·simp only [Act.put, sB, sC, sD, i64_w, i32_w]
              rfl
             refine take_ (i := 2) (N := some 97) (v := ?_) (a' := ?_) #[true, false, true, false, false, false, false, false, false, false, false] rfl rfl (take_ofW HT_.out HW_.out (by kernel_rfl)) (fun _ _ _ h => h) (Or.inl ⟨by rfl, ?_⟩) f3 ?_ ?_
             rotate_left
             ·rintro w' ⟨s0, s1, s2, s3⟩
              go_simp
              with_reducible rfl
             rotate_left
             ·simp only [Act.put, sB, sC, sD, i64_w, i32_w]
              rfl
             refine join_ (σ := Value × Value × Value × Value × Value × Value × Nat) 2 #[true, true, true, true, true, true, true, true, true, false, false] (fun s_ => [(96, .agg #[s_.1, s_.2.1]), (98, .agg #[s_.2.2.1, s_.2.2.2.1]), (99, .tuple #[.agg #[s_.2.2.2.2.1, s_.2.2.2.2.2.1], .bool v5]), (15, .pointer (some ⟨s_.2.2.2.2.2.2, 0, none⟩)), (94, .tuple #[.agg #[s_.2.2.2.2.1, s_.2.2.2.2.2.1], .bool v5]), (100, .agg #[s_.2.2.2.2.1, s_.2.2.2.2.2.1]), (101, .bool v5)]) (fun s_ w' => (w'.cell? ⟨i9, 0, none⟩ = some (.slice A0_0 l0_0.length c0_0) ∧ w'.cell? ⟨i9, 1, none⟩ = some (.slice A0_1 l0_1.length c0_1) ∧ w'.cell? ⟨j3, 0, none⟩ = some (.slice A1_0 l1_0.length c1_0) ∧ w'.cell? ⟨j3, 1, none⟩ = some (.slice A1_1 l1_1.length c1_1)) ∧ (Kd.R Kd.flt 39 w' w.heap.size (fun k_ => some k_ ≠ (s_.2.1 : Value).ownBlock ∧ some k_ ≠ (s_.2.2.1 : Value).ownBlock ∧ some k_ ≠ (s_.2.2.2.1 : Value).ownBlock ∧ some k_ ≠ (s_.2.2.2.2.1 : Value).ownBlock ∧ some k_ ≠ (s_.2.2.2.2.2.1 : Value).ownBlock ∧ N_ (.slice e5 d2.length e6) k_ ∧ N_ (.slice e9 d3.length f0) k_ ∧ N_ (.slice e7 j5.length e8) k_ ∧ N_ (.slice f1 j6.length f2) k_ ∧ N_ (.slice e1 j7.length e2) k_ ∧ N_ (.slice e3 j8.length e4) k_ ∧ N_ (.slice d4 d0.length d5) k_ ∧ N_ (.slice d6 d1.length d7) k_) s_.1 q0) ∧ (Kd.R Kd.flt 39 w' w.heap.size (fun k_ => some k_ ≠ (s_.1 : Value).ownBlock ∧ some k_ ≠ (s_.2.2.1 : Value).ownBlock ∧ some k_ ≠ (s_.2.2.2.1 : Value).ownBlock ∧ some k_ ≠ (s_.2.2.2.2.1 : Value).ownBlock ∧ some k_ ≠ (s_.2.2.2.2.2.1 : Value).ownBlock ∧ N_ (.slice e5 d2.length e6) k_ ∧ N_ (.slice e9 d3.length f0) k_ ∧ N_ (.slice e7 j5.length e8) k_ ∧ N_ (.slice f1 j6.length f2) k_ ∧ N_ (.slice e1 j7.length e2) k_ ∧ N_ (.slice e3 j8.length e4) k_ ∧ N_ (.slice d4 d0.length d5) k_ ∧ N_ (.slice d6 d1.length d7) k_) s_.2.1 q1) ∧ (Kd.R Kd.flt 39 w' w.heap.size (fun k_ => some k_ ≠ (s_.1 : Value).ownBlock ∧ some k_ ≠ (s_.2.1 : Value).ownBlock ∧ some k_ ≠ (s_.2.2.2.1 : Value).ownBlock ∧ some k_ ≠ (s_.2.2.2.2.1 : Value).ownBlock ∧ some k_ ≠ (s_.2.2.2.2.2.1 : Value).ownBlock ∧ N_ (.slice e5 d2.length e6) k_ ∧ N_ (.slice e9 d3.length f0) k_ ∧ N_ (.slice e7 j5.length e8) k_ ∧ N_ (.slice f1 j6.length f2) k_ ∧ N_ (.slice e1 j7.length e2) k_ ∧ N_ (.slice e3 j8.length e4) k_ ∧ N_ (.slice d4 d0.length d5) k_ ∧ N_ (.slice d6 d1.length d7) k_) s_.2.2.1 q2) ∧ (Kd.R Kd.flt 39 w' w.heap.size (fun k_ => some k_ ≠ (s_.1 : Value).ownBlock ∧ some k_ ≠ (s_.2.1 : Value).ownBlock ∧ some k_ ≠ (s_.2.2.1 : Value).ownBlock ∧ some k_ ≠ (s_.2.2.2.2.1 : Value).ownBlock ∧ some k_ ≠ (s_.2.2.2.2.2.1 : Value).ownBlock ∧ N_ (.slice e5 d2.length e6) k_ ∧ N_ (.slice e9 d3.length f0) k_ ∧ N_ (.slice e7 j5.length e8) k_ ∧ N_ (.slice f1 j6.length f2) k_ ∧ N_ (.slice e1 j7.length e2) k_ ∧ N_ (.slice e3 j8.length e4) k_ ∧ N_ (.slice d4 d0.length d5) k_ ∧ N_ (.slice d6 d1.length d7) k_) s_.2.2.2.1 q3) ∧ (Kd.R Kd.flt 39 w' w.heap.size (fun k_ => some k_ ≠ (s_.1 : Value).ownBlock ∧ some k_ ≠ (s_.2.1 : Value).ownBlock ∧ some k_ ≠ (s_.2.2.1 : Value).ownBlock ∧ some k_ ≠ (s_.2.2.2.1 : Value).ownBlock ∧ some k_ ≠ (s_.2.2.2.2.2.1 : Value).ownBlock ∧ N_ (.slice e5 d2.length e6) k_ ∧ N_ (.slice e9 d3.length f0) k_ ∧ N_ (.slice e7 j5.length e8) k_ ∧ N_ (.slice f1 j6.length f2) k_ ∧ N_ (.slice e1 j7.length e2) k_ ∧ N_ (.slice e3 j8.length e4) k_ ∧ N_ (.slice d4 d0.length d5) k_ ∧ N_ (.slice d6 d1.length d7) k_) s_.2.2.2.2.1 h7) ∧ (Kd.R Kd.flt 39 w' w.heap.size (fun k_ => some k_ ≠ (s_.1 : Value).ownBlock ∧ some k_ ≠ (s_.2.1 : Value).ownBlock ∧ some k_ ≠ (s_.2.2.1 : Value).ownBlock ∧ some k_ ≠ (s_.2.2.2.1 : Value).ownBlock ∧ some k_ ≠ (s_.2.2.2.2.1 : Value).ownBlock ∧ N_ (.slice e5 d2.length e6) k_ ∧ N_ (.slice e9 d3.length f0) k_ ∧ N_ (.slice e7 j5.length e8) k_ ∧ N_ (.slice f1 j6.length f2) k_ ∧ N_ (.slice e1 j7.length e2) k_ ∧ N_ (.slice e3 j8.length e4) k_ ∧ N_ (.slice d4 d0.length d5) k_ ∧ N_ (.slice d6 d1.length d7) k_) s_.2.2.2.2.2.1 i2) ∧ (Kd.R Kd.flt 39 w' w.heap.size (fun k_ => some k_ ≠ (s_.1 : Value).ownBlock ∧ some k_ ≠ (s_.2.1 : Value).ownBlock ∧ some k_ ≠ (s_.2.2.1 : Value).ownBlock ∧ some k_ ≠ (s_.2.2.2.1 : Value).ownBlock ∧ some k_ ≠ (s_.2.2.2.2.1 : Value).ownBlock ∧ some k_ ≠ (s_.2.2.2.2.2.1 : Value).ownBlock ∧ N_ (.slice e9 d3.length f0) k_ ∧ N_ (.slice e7 j5.length e8) k_ ∧ N_ (.slice f1 j6.length f2) k_ ∧ N_ (.slice e1 j7.length e2) k_ ∧ N_ (.slice e3 j8.length e4) k_ ∧ N_ (.slice d4 d0.length d5) k_ ∧ N_ (.slice d6 d1.length d7) k_) (.slice e5 d2.length e6) d2) ∧ (Kd.R Kd.flt 39 w' w.heap.size (fun k_ => some k_ ≠ (s_.1 : Value).ownBlock ∧ some k_ ≠ (s_.2.1 : Value).ownBlock ∧ some k_ ≠ (s_.2.2.1 : Value).ownBlock ∧ some k_ ≠ (s_.2.2.2.1 : Value).ownBlock ∧ some k_ ≠ (s_.2.2.2.2.1 : Value).ownBlock ∧ some k_ ≠ (s_.2.2.2.2.2.1 : Value).ownBlock ∧ N_ (.slice e5 d2.length e6) k_ ∧ N_ (.slice e7 j5.length e8) k_ ∧ N_ (.slice f1 j6.length f2) k_ ∧ N_ (.slice e1 j7.length e2) k_ ∧ N_ (.slice e3 j8.length e4) k_ ∧ N_ (.slice d4 d0.length d5) k_ ∧ N_ (.slice d6 d1.length d7) k_) (.slice e9 d3.length f0) d3) ∧ (Kd.R Kd.flt 39 w' w.heap.size (fun k_ => some k_ ≠ (s_.1 : Value).ownBlock ∧ some k_ ≠ (s_.2.1 : Value).ownBlock ∧ some k_ ≠ (s_.2.2.1 : Value).ownBlock ∧ some k_ ≠ (s_.2.2.2.1 : Value).ownBlock ∧ some k_ ≠ (s_.2.2.2.2.1 : Value).ownBlock ∧ some k_ ≠ (s_.2.2.2.2.2.1 : Value).ownBlock ∧ N_ (.slice e5 d2.length e6) k_ ∧ N_ (.slice e9 d3.length f0) k_ ∧ N_ (.slice f1 j6.length f2) k_ ∧ N_ (.slice e1 j7.length e2) k_ ∧ N_ (.slice e3 j8.length e4) k_ ∧ N_ (.slice d4 d0.length d5) k_ ∧ N_ (.slice d6 d1.length d7) k_) (.slice e7 j5.length e8) j5) ∧ (Kd.R Kd.flt 39 w' w.heap.size (fun k_ => some k_ ≠ (s_.1 : Value).ownBlock ∧ some k_ ≠ (s_.2.1 : Value).ownBlock ∧ some k_ ≠ (s_.2.2.1 : Value).ownBlock ∧ some k_ ≠ (s_.2.2.2.1 : Value).ownBlock ∧ some k_ ≠ (s_.2.2.2.2.1 : Value).ownBlock ∧ some k_ ≠ (s_.2.2.2.2.2.1 : Value).ownBlock ∧ N_ (.slice e5 d2.length e6) k_ ∧ N_ (.slice e9 d3.length f0) k_ ∧ N_ (.slice e7 j5.length e8) k_ ∧ N_ (.slice e1 j7.length e2) k_ ∧ N_ (.slice e3 j8.length e4) k_ ∧ N_ (.slice d4 d0.length d5) k_ ∧ N_ (.slice d6 d1.length d7) k_) (.slice f1 j6.length f2) j6) ∧ (Kd.R Kd.flt 39 w' w.heap.size (fun k_ => some k_ ≠ (s_.1 : Value).ownBlock ∧ some k_ ≠ (s_.2.1 : Value).ownBlock ∧ some k_ ≠ (s_.2.2.1 : Value).ownBlock ∧ some k_ ≠ (s_.2.2.2.1 : Value).ownBlock ∧ some k_ ≠ (s_.2.2.2.2.1 : Value).ownBlock ∧ some k_ ≠ (s_.2.2.2.2.2.1 : Value).ownBlock ∧ N_ (.slice e5 d2.length e6) k_ ∧ N_ (.slice e9 d3.length f0) k_ ∧ N_ (.slice e7 j5.length e8) k_ ∧ N_ (.slice f1 j6.length f2) k_ ∧ N_ (.slice e3 j8.length e4) k_ ∧ N_ (.slice d4 d0.length d5) k_ ∧ N_ (.slice d6 d1.length d7) k_) (.slice e1 j7.length e2) j7) ∧ (Kd.R Kd.flt 39 w' w.heap.size (fun k_ => some k_ ≠ (s_.1 : Value).ownBlock ∧ some k_ ≠ (s_.2.1 : Value).ownBlock ∧ some k_ ≠ (s_.2.2.1 : Value).ownBlock ∧ some k_ ≠ (s_.2.2.2.1 : Value).ownBlock ∧ some k_ ≠ (s_.2.2.2.2.1 : Value).ownBlock ∧ some k_ ≠ (s_.2.2.2.2.2.1 : Value).ownBlock ∧ N_ (.slice e5 d2.length e6) k_ ∧ N_ (.slice e9 d3.length f0) k_ ∧ N_ (.slice e7 j5.length e8) k_ ∧ N_ (.slice f1 j6.length f2) k_ ∧ N_ (.slice e1 j7.length e2) k_ ∧ N_ (.slice d4 d0.length d5) k_ ∧ N_ (.slice d6 d1.length d7) k_) (.slice e3 j8.length e4) j8) ∧ (Kd.R Kd.flt 39 w' w.heap.size (fun k_ => some k_ ≠ (s_.1 : Value).ownBlock ∧ some k_ ≠ (s_.2.1 : Value).ownBlock ∧ some k_ ≠ (s_.2.2.1 : Value).ownBlock ∧ some k_ ≠ (s_.2.2.2.1 : Value).ownBlock ∧ some k_ ≠ (s_.2.2.2.2.1 : Value).ownBlock ∧ some k_ ≠ (s_.2.2.2.2.2.1 : Value).ownBlock ∧ N_ (.slice e5 d2.length e6) k_ ∧ N_ (.slice e9 d3.length f0) k_ ∧ N_ (.slice e7 j5.length e8) k_ ∧ N_ (.slice f1 j6.length f2) k_ ∧ N_ (.slice e1 j7.length e2) k_ ∧ N_ (.slice e3 j8.length e4) k_ ∧ N_ (.slice d6 d1.length d7) k_) (.slice d4 d0.length d5) n9) ∧ (Kd.R Kd.flt 39 w' w.heap.size (fun k_ => some k_ ≠ (s_.1 : Value).ownBlock ∧ some k_ ≠ (s_.2.1 : Value).ownBlock ∧ some k_ ≠ (s_.2.2.1 : Value).ownBlock ∧ some k_ ≠ (s_.2.2.2.1 : Value).ownBlock ∧ some k_ ≠ (s_.2.2.2.2.1 : Value).ownBlock ∧ some k_ ≠ (s_.2.2.2.2.2.1 : Value).ownBlock ∧ N_ (.slice e5 d2.length e6) k_ ∧ N_ (.slice e9 d3.length f0) k_ ∧ N_ (.slice e7 j5.length e8) k_ ∧ N_ (.slice f1 j6.length f2) k_ ∧ N_ (.slice e1 j7.length e2) k_ ∧ N_ (.slice e3 j8.length e4) k_ ∧ N_ (.slice d4 d0.length d5) k_) (.slice d6 d1.length d7) o0) ∧ (w'.heap[i9]? = some (.cells #[.slice A0_0 l0_0.length c0_0, .slice A0_1 l0_1.length c0_1] 24 (0, 0))) ∧ (w'.heap[j3]? = some (.cells #[.slice A1_0 l1_0.length c1_0, .slice A1_1 l1_1.length c1_1] 24 (0, 0))) ∧ (w'.heap[h8]? = some (.cells #[.slice e5 d2.length e6, .slice e9 d3.length f0] 26 (0, 0))) ∧ (w'.heap[n4]? = some (.cells #[.slice e7 j5.length e8, .slice f1 j6.length f2] 26 (0, 0))) ∧ (w'.heap[n8]? = some (.cells #[.slice e1 j7.length e2, .slice e3 j8.length e4] 26 (0, 0))) ∧ (w'.heap[n7]? = some (.cells #[.slice d4 d0.length d5, .slice d6 d1.length d7] 26 (0, 0))) ∧ (w'.heap[s_.2.2.2.2.2.2]? = some (.cells #[.slice none 0 0, .slice none 0 0] 26 (0, 0))) ∧ (w.heap.size ≤ s_.2.2.2.2.2.2) ∧ (w.heap.size ≤ s_.2.2.2.2.2.2) ∧ (i9 ≠ s_.2.2.2.2.2.2) ∧ (s_.2.2.2.2.2.2 ≠ i9) ∧ (j3 ≠ s_.2.2.2.2.2.2) ∧ (s_.2.2.2.2.2.2 ≠ j3) ∧ (h8 ≠ s_.2.2.2.2.2.2) ∧ (s_.2.2.2.2.2.2 ≠ h8) ∧ (n4 ≠ s_.2.2.2.2.2.2) ∧ (s_.2.2.2.2.2.2 ≠ n4) ∧ (n8 ≠ s_.2.2.2.2.2.2) ∧ (s_.2.2.2.2.2.2 ≠ n8) ∧ (n7 ≠ s_.2.2.2.2.2.2) ∧ (s_.2.2.2.2.2.2 ≠ n7) ∧ (Below w.heap.size w w')) ?_ ?_
             rotate_left
             ·intro hCont
              refine two_ (i := 1) (j := 8) (Ni := some 96) (Nj := some 15) #[true, true, true, false, false, false, false, false, false, false, false] #[true, false, true, false, false, false, false, false, true, false, false] rfl rfl rfl rfl (two_of HT_.out (by kernel_rfl)) (by decide) (by decide) (fun K hK => ?_) (fun K hK => ?_)
              ·skip
               refine goes_ Try.func8 (by kernel_rfl) rfl #[.agg #[.slice A0_0 l0_0.length c0_0, .slice A0_1 l0_1.length c0_1]] (by rfl) rfl rfl (by (try simp only [lA, lB, lC]); first | done | rfl | (simp only [lD, lE]; rfl)) ?_
               with_reducible refine (laws_toBox.calls h3 _ _ l0_0 _ _ l0_1 q0 q1 _ ?side1 ?side2 ?side3 ?side4 L7.out).mono ?_
               (case side1 => exact Kd.C_below t2.out (un HB.out))
               (case side2 => exact t3.out)
               (case side3 => exact Kd.C_below t4.out (un HB.out))
               (case side4 => exact t5.out)
               rintro e Y7 ⟨s6, s7, rfl, ho0, ho1, hb⟩
               refine ⟨_, rfl, ?_⟩
               have g0 := a_ (Kd.R_lower (nw (nw (nw (nw (nw (nw (nw (nw ho0 b1.out) b2.out) a6.out) a7.out) a8.out) a9.out) a4.out) a5.out) (bs HB.out))
               have g1 := a_ (Kd.R_lower (nw (nw (nw (nw (nw (nw (nw (nw ho1 b1.out) b2.out) a6.out) a7.out) a8.out) a9.out) a4.out) a5.out) (bs HB.out))
               replace b1 := a_ (ol2 b1.out hb ho0 ho1)
               replace b2 := a_ (ol2 b2.out hb ho0 ho1)
               replace a6 := a_ (ol2 a6.out hb ho0 ho1)
               replace a7 := a_ (ol2 a7.out hb ho0 ho1)
               replace a8 := a_ (ol2 a8.out hb ho0 ho1)
               replace a9 := a_ (ol2 a9.out hb ho0 ho1)
               replace a4 := a_ (ol2 a4.out hb ho0 ho1)
               replace a5 := a_ (ol2 a5.out hb ho0 ho1)
               replace b0 := a_ (blk_below (pk b0.out) hb)
               replace b3 := a_ (blk_below (pk b3.out) hb)
               replace b4 := a_ (blk_below (pk b4.out) hb)
               replace c0 := a_ (blk_below (pk c0.out) hb)
               replace c3 := a_ (blk_below (pk c3.out) hb)
               replace b9 := a_ (blk_below (pk b9.out) hb)
               replace HB := a_ (below_step (by repeat (with_reducible first | exact HB.out | refine bz ?_ (by assumption) | apply bA | apply bN | apply bD)) hb)
               (try clear hb)
               (try clear hb2)
               (try clear hk)
               (try clear hi)
               (try clear ho0)
               (try clear ho1)
               refine hK.out _ _ ⟨(blk_cell b0.out 0).trans rfl, (blk_cell b0.out 1).trans rfl, (blk_cell b3.out 0).trans rfl, (blk_cell b3.out 1).trans rfl⟩ (fun f3 => ?_)
               clear hK K
               refine norm_ (a' := ?_) ?_ ?_
               rotate_left
               ·show Act.put _ (some 96) _ = _
                simp only [Act.put, sB, sC, sD, i64_w, i32_w]
                rfl
               refine two_ (i := 3) (j := 8) (Ni := some 98) (Nj := some 15) #[true, true, true, true, false, false, false, false, false, false, false] #[true, true, true, false, false, false, false, false, true, false, false] rfl rfl rfl rfl (two_of HT_.out (by kernel_rfl)) (by decide) (by decide) (fun K hK => ?_) (fun K hK => ?_)
               ·skip
                refine goes_ Try.func8 (by kernel_rfl) rfl #[.agg #[.slice A1_0 l1_0.length c1_0, .slice A1_1 l1_1.length c1_1]] (by rfl) rfl rfl (by (try simp only [lA, lB, lC]); first | done | rfl | (simp only [lD, lE]; rfl)) ?_
                with_reducible refine (laws_toBox.calls h3 _ _ l1_0 _ _ l1_1 q2 q3 _ ?side1 ?side2 ?side3 ?side4 K0.out).mono ?_
                (case side1 => exact Kd.C_below s8.out (un HB.out))
                (case side2 => exact s9.out)
                (case side3 => exact Kd.C_below t0.out (un HB.out))
                (case side4 => exact t1.out)
                rintro e M6 ⟨q4, q5, rfl, ho0, ho1, hb⟩
                refine ⟨_, rfl, ?_⟩
                have h4 := a_ (Kd.R_lower (nw (nw (nw (nw (nw (nw (nw (nw (nw (nw ho0 b1.out) b2.out) a6.out) a7.out) a8.out) a9.out) a4.out) a5.out) g0.out) g1.out) (bs HB.out))
                have h5 := a_ (Kd.R_lower (nw (nw (nw (nw (nw (nw (nw (nw (nw (nw ho1 b1.out) b2.out) a6.out) a7.out) a8.out) a9.out) a4.out) a5.out) g0.out) g1.out) (bs HB.out))
                replace b1 := a_ (ol2 b1.out hb ho0 ho1)
                replace b2 := a_ (ol2 b2.out hb ho0 ho1)
                replace a6 := a_ (ol2 a6.out hb ho0 ho1)
                replace a7 := a_ (ol2 a7.out hb ho0 ho1)
                replace a8 := a_ (ol2 a8.out hb ho0 ho1)
                replace a9 := a_ (ol2 a9.out hb ho0 ho1)
                replace a4 := a_ (ol2 a4.out hb ho0 ho1)
                replace a5 := a_ (ol2 a5.out hb ho0 ho1)
                replace g0 := a_ (ol2 g0.out hb ho0 ho1)
                replace g1 := a_ (ol2 g1.out hb ho0 ho1)
                replace b0 := a_ (blk_below (pk b0.out) hb)
                replace b3 := a_ (blk_below (pk b3.out) hb)
                replace b4 := a_ (blk_below (pk b4.out) hb)
                replace c0 := a_ (blk_below (pk c0.out) hb)
                replace c3 := a_ (blk_below (pk c3.out) hb)
                replace b9 := a_ (blk_below (pk b9.out) hb)
                replace HB := a_ (below_step (by repeat (with_reducible first | exact HB.out | refine bz ?_ (by assumption) | apply bA | apply bN | apply bD)) hb)
                (try clear hb)
                (try clear hb2)
                (try clear hk)
                (try clear hi)
                (try clear ho0)
                (try clear ho1)
                obtain ⟨J2, J3, J4⟩ := Kd.R_slice g0.out
                (first | subst J4 | (injection J4 with f1_ f2_ f3_; obtain rfl := f1_.symm; obtain rfl := f3_.symm))
                obtain ⟨q6, q7, q8⟩ := Kd.R_slice g1.out
                (first | subst q8 | (injection q8 with f1_ f2_ f3_; obtain rfl := f1_.symm; obtain rfl := f3_.symm))
                obtain ⟨q9, r0, r1⟩ := Kd.R_slice h4.out
                (first | subst r1 | (injection r1 with f1_ f2_ f3_; obtain rfl := f1_.symm; obtain rfl := f3_.symm))
                obtain ⟨r2, r3, r4⟩ := Kd.R_slice h5.out
                (first | subst r4 | (injection r4 with f1_ f2_ f3_; obtain rfl := f1_.symm; obtain rfl := f3_.symm))
                refine hK.out _ _ ⟨(blk_cell b0.out 0).trans rfl, (blk_cell b0.out 1).trans rfl, (blk_cell b3.out 0).trans rfl, (blk_cell b3.out 1).trans rfl⟩ (fun f3 => ?_)
                clear hK K
                refine norm_ (a' := ?_) ?_ ?_
                rotate_left
                ·show Act.put _ (some 98) _ = _
                 simp only [Act.put, sB, sC, sD, i64_w, i32_w]
                 rfl
                refine two_ (i := 4) (j := 8) (Ni := some 99) (Nj := some 15) #[true, true, true, true, true, false, false, false, false, false, false] #[true, true, true, true, false, false, false, false, true, false, false] rfl rfl rfl rfl (two_of HT_.out (by kernel_rfl)) (by decide) (by decide) (fun K hK => ?_) (fun K hK => ?_)
                ·skip
                 refine goes_ Try.func14 (by kernel_rfl) rfl #[.agg #[.slice J2 q0.length J3, .slice q6 q1.length q7], .agg #[.slice q9 q2.length r0, .slice r2 q3.length r3]] (by rfl) rfl rfl (by (try simp only [lA, lB, lC]); first | done | rfl | (simp only [lD, lE]; rfl)) ?_
                 with_reducible refine (impl_BoxMeet.calls h3 _ _ q0 _ _ q1 _ _ q2 _ _ q3 h7 i2 v5 _ ?side1 ?side2 ?side3 ?side4 ?side5 ?side6 ?side7 ?side8 G9.out).mono ?_
                 (case side1 => exact cu (Kd.R_reads' g0.out).2.2)
                 (case side2 => exact (Kd.R_reads' g0.out).2.1)
                 (case side3 => exact cu (Kd.R_reads' g1.out).2.2)
                 (case side4 => exact (Kd.R_reads' g1.out).2.1)
                 (case side5 => exact cu (Kd.R_reads' h4.out).2.2)
                 (case side6 => exact (Kd.R_reads' h4.out).2.1)
                 (case side7 => exact cu (Kd.R_reads' h5.out).2.2)
                 (case side8 => exact (Kd.R_reads' h5.out).2.1)
                 rintro e Ux ⟨o5, o6, rfl, ho0, ho1, hb⟩
                 refine ⟨_, rfl, ?_⟩
                 have l7 := a_ (Kd.R_lower (nw (nw (nw (nw (nw (nw (nw (nw (nw (nw (nw (nw ho0 b1.out) b2.out) a6.out) a7.out) a8.out) a9.out) a4.out) a5.out) g0.out) g1.out) h4.out) h5.out) (bs HB.out))
                 have l8 := a_ (Kd.R_lower (nw (nw (nw (nw (nw (nw (nw (nw (nw (nw (nw (nw ho1 b1.out) b2.out) a6.out) a7.out) a8.out) a9.out) a4.out) a5.out) g0.out) g1.out) h4.out) h5.out) (bs HB.out))
                 replace b1 := a_ (ol2 b1.out hb ho0 ho1)
                 replace b2 := a_ (ol2 b2.out hb ho0 ho1)
                 replace a6 := a_ (ol2 a6.out hb ho0 ho1)
                 replace a7 := a_ (ol2 a7.out hb ho0 ho1)
                 replace a8 := a_ (ol2 a8.out hb ho0 ho1)
                 replace a9 := a_ (ol2 a9.out hb ho0 ho1)
                 replace a4 := a_ (ol2 a4.out hb ho0 ho1)
                 replace a5 := a_ (ol2 a5.out hb ho0 ho1)
                 replace g0 := a_ (ol2 g0.out hb ho0 ho1)
                 replace g1 := a_ (ol2 g1.out hb ho0 ho1)
                 replace h4 := a_ (ol2 h4.out hb ho0 ho1)
                 replace h5 := a_ (ol2 h5.out hb ho0 ho1)
                 replace b0 := a_ (blk_below (pk b0.out) hb)
                 replace b3 := a_ (blk_below (pk b3.out) hb)
                 replace b4 := a_ (blk_below (pk b4.out) hb)
                 replace c0 := a_ (blk_below (pk c0.out) hb)
                 replace c3 := a_ (blk_below (pk c3.out) hb)
                 replace b9 := a_ (blk_below (pk b9.out) hb)
                 replace HB := a_ (below_step (by repeat (with_reducible first | exact HB.out | refine bz ?_ (by assumption) | apply bA | apply bN | apply bD)) hb)
                 (try clear hb)
                 (try clear hb2)
                 (try clear hk)
                 (try clear hi)
                 (try clear ho0)
                 (try clear ho1)
                 refine hK.out _ _ ⟨(blk_cell b0.out 0).trans rfl, (blk_cell b0.out 1).trans rfl, (blk_cell b3.out 0).trans rfl, (blk_cell b3.out 1).trans rfl⟩ (fun f3 => ?_)
                 clear hK K
                 refine norm_ (a' := ?_) ?_ ?_
                 rotate_left
                 ·show Act.put _ (some 99) _ = _
                  simp only [Act.put, sB, sC, sD, i64_w, i32_w]
                  rfl
                 refine pure_ (i := 5) (N := some 94) (v := ?_) (a' := ?_) #[true, true, true, true, true, true, false, false, false, false, false] rfl rfl (any_of HT_.out (by kernel_rfl)) (fun _ _ _ h => h) (Or.inl ⟨by rfl, ?_⟩) ?_ ?_
                 rotate_left
                 ·intro w'
                  go_simp
                  with_reducible rfl
                 rotate_left
                 ·simp only [Act.put, sB, sC, sD, i64_w, i32_w]
                  rfl
                 refine pure_ (i := 6) (N := some 100) (v := ?_) (a' := ?_) #[true, true, true, true, true, true, true, false, false, false, false] rfl rfl (any_of HT_.out (by kernel_rfl)) (fun _ _ _ h => h) (Or.inl ⟨by rfl, ?_⟩) ?_ ?_
                 rotate_left
                 ·intro w'
                  go_simp
                  with_reducible rfl
                 rotate_left
                 ·simp only [Act.put, sB, sC, sD, i64_w, i32_w]
                  rfl
                 refine pure_ (i := 7) (N := some 101) (v := ?_) (a' := ?_) #[true, true, true, true, true, true, true, true, false, false, false] rfl rfl (any_of HT_.out (by kernel_rfl)) (fun _ _ _ h => h) (Or.inl ⟨by rfl, ?_⟩) ?_ ?_
                 rotate_left
                 ·intro w'
                  go_simp
                  with_reducible rfl
                 rotate_left
                 ·simp only [Act.put, sB, sC, sD, i64_w, i32_w]
                  rfl
                 refine one_ (i := 8) (N := some 15) #[true, true, true, true, true, true, true, true, true, false, false] rfl rfl (one_of HT_.out (by kernel_rfl)) (by decide) (fun K hK => ?_)
                 refine box_step ?hg (N := 15) ?hd (cs := #[.slice none 0 0, .slice none 0 0]) (t := 26) ?hr ?_; (case hd => rfl); (case hg => rfl); (case hr => first | (go_simp; done) | (go_simp; rfl))
                 intro j4 hg K1 hbox hb
                 replace b1 := a_ (Kd.R_below (rk b1.out) hb)
                 replace b2 := a_ (Kd.R_below (rk b2.out) hb)
                 replace a6 := a_ (Kd.R_below (rk a6.out) hb)
                 replace a7 := a_ (Kd.R_below (rk a7.out) hb)
                 replace a8 := a_ (Kd.R_below (rk a8.out) hb)
                 replace a9 := a_ (Kd.R_below (rk a9.out) hb)
                 replace a4 := a_ (Kd.R_below (rk a4.out) hb)
                 replace a5 := a_ (Kd.R_below (rk a5.out) hb)
                 replace g0 := a_ (Kd.R_below (rk g0.out) hb)
                 replace g1 := a_ (Kd.R_below (rk g1.out) hb)
                 replace h4 := a_ (Kd.R_below (rk h4.out) hb)
                 replace h5 := a_ (Kd.R_below (rk h5.out) hb)
                 replace l7 := a_ (Kd.R_below (rk l7.out) hb)
                 replace l8 := a_ (Kd.R_below (rk l8.out) hb)
                 have d8 := a_ (hbox)
                 have u1 := a_ (bsg hg HB.out)
                 have u2 := a_ (bsg hg HB.out)
                 replace HB := a_ (below_step (by repeat (with_reducible first | exact HB.out | refine bz ?_ (by assumption) | apply bA | apply bN | apply bD)) hb)
                 have h1 := a_ (nel hg b0.out)
                 have k3 := a_ (nle hg b0.out)
                 replace b0 := a_ (blk_below (pk b0.out) hb)
                 have h2 := a_ (nel hg b3.out)
                 have k4 := a_ (nle hg b3.out)
                 replace b3 := a_ (blk_below (pk b3.out) hb)
                 have i6 := a_ (nel hg b4.out)
                 have k5 := a_ (nle hg b4.out)
                 replace b4 := a_ (blk_below (pk b4.out) hb)
                 have i7 := a_ (nel hg c0.out)
                 have k6 := a_ (nle hg c0.out)
                 replace c0 := a_ (blk_below (pk c0.out) hb)
                 have i8 := a_ (nel hg c3.out)
                 have k7 := a_ (nle hg c3.out)
                 replace c3 := a_ (blk_below (pk c3.out) hb)
                 have i1 := a_ (nel hg b9.out)
                 have k0 := a_ (nle hg b9.out)
                 replace b9 := a_ (blk_below (pk b9.out) hb)
                 clear hb hbox hg
                 refine hK.out _ _ ⟨(blk_cell b0.out 0).trans rfl, (blk_cell b0.out 1).trans rfl, (blk_cell b3.out 0).trans rfl, (blk_cell b3.out 1).trans rfl⟩ (fun f3 => ?_)
                 clear hK K
                 refine norm_ (a' := ?_) ?_ ?_
                 rotate_left
                 ·show Act.put _ (some 15) _ = _
                  simp only [Act.put, sB, sC, sD, i64_w, i32_w]
                  rfl
                 exact norm_ (by simp only [putAll, Act.put, sB, sC, sD]) (hCont (.slice J2 q0.length J3, .slice q6 q1.length q7, .slice q9 q2.length r0, .slice r2 q3.length r3, o5, o6, j4) _ ⟨f3, (rk (Kd.R_mono g0.out (fun _ ⟨⟨⟨⟨⟨⟨⟨⟨⟨⟨⟨⟨a, b⟩, c⟩, d⟩, e⟩, f⟩, g⟩, h⟩, i⟩, j⟩, l⟩, m⟩, n⟩ => ⟨a, j, l, m, n, b, c, d, e, f, g, h, i⟩))), (rk (Kd.R_mono g1.out (fun _ ⟨⟨⟨⟨⟨⟨⟨⟨⟨⟨⟨⟨a, b⟩, c⟩, d⟩, e⟩, f⟩, g⟩, h⟩, i⟩, j⟩, l⟩, m⟩, n⟩ => ⟨a, j, l, m, n, b, c, d, e, f, g, h, i⟩))), (rk (Kd.R_mono h4.out (fun _ ⟨⟨⟨⟨⟨⟨⟨⟨⟨⟨⟨⟨a, b⟩, c⟩, d⟩, e⟩, f⟩, g⟩, h⟩, i⟩, j⟩, l⟩, m⟩, n⟩ => ⟨j, l, a, m, n, b, c, d, e, f, g, h, i⟩))), (rk (Kd.R_mono h5.out (fun _ ⟨⟨⟨⟨⟨⟨⟨⟨⟨⟨⟨⟨a, b⟩, c⟩, d⟩, e⟩, f⟩, g⟩, h⟩, i⟩, j⟩, l⟩, m⟩, n⟩ => ⟨j, l, a, m, n, b, c, d, e, f, g, h, i⟩))), (rk (Kd.R_mono l7.out (fun _ ⟨⟨⟨⟨⟨⟨⟨⟨⟨⟨⟨⟨a, b⟩, c⟩, d⟩, e⟩, f⟩, g⟩, h⟩, i⟩, j⟩, l⟩, m⟩, n⟩ => ⟨j, l, m, n, a, b, c, d, e, f, g, h, i⟩))), (rk (Kd.R_mono l8.out (fun _ ⟨⟨⟨⟨⟨⟨⟨⟨⟨⟨⟨⟨a, b⟩, c⟩, d⟩, e⟩, f⟩, g⟩, h⟩, i⟩, j⟩, l⟩, m⟩, n⟩ => ⟨j, l, m, n, a, b, c, d, e, f, g, h, i⟩))), (rk (Kd.R_mono b1.out (fun _ ⟨⟨⟨⟨⟨⟨a, b⟩, c⟩, d⟩, e⟩, f⟩, g⟩ => ⟨b, c, d, e, f, g, a⟩))), (rk (Kd.R_mono b2.out (fun _ ⟨⟨⟨⟨⟨⟨a, b⟩, c⟩, d⟩, e⟩, f⟩, g⟩ => ⟨b, c, d, e, f, g, a⟩))), (rk (Kd.R_mono a6.out (fun _ ⟨⟨⟨⟨⟨⟨a, b⟩, c⟩, d⟩, e⟩, f⟩, g⟩ => ⟨b, c, d, e, f, g, a⟩))), (rk (Kd.R_mono a7.out (fun _ ⟨⟨⟨⟨⟨⟨a, b⟩, c⟩, d⟩, e⟩, f⟩, g⟩ => ⟨b, c, d, e, f, g, a⟩))), (rk (Kd.R_mono a8.out (fun _ ⟨⟨⟨⟨⟨⟨a, b⟩, c⟩, d⟩, e⟩, f⟩, g⟩ => ⟨b, c, d, e, f, g, a⟩))), (rk (Kd.R_mono a9.out (fun _ ⟨⟨⟨⟨⟨⟨a, b⟩, c⟩, d⟩, e⟩, f⟩, g⟩ => ⟨b, c, d, e, f, g, a⟩))), (rk (Kd.R_mono a4.out (fun _ ⟨⟨⟨⟨⟨⟨a, b⟩, c⟩, d⟩, e⟩, f⟩, g⟩ => ⟨b, c, d, e, f, g, a⟩))), (rk (Kd.R_mono a5.out (fun _ ⟨⟨⟨⟨⟨⟨a, b⟩, c⟩, d⟩, e⟩, f⟩, g⟩ => ⟨b, c, d, e, f, g, a⟩))), (pk b0.out), (pk b3.out), (pk b4.out), (pk c0.out), (pk c3.out), (pk b9.out), (pk d8.out), u1.out, u2.out, h1.out, k3.out, h2.out, k4.out, i6.out, k5.out, i7.out, k6.out, i8.out, k7.out, i1.out, k0.out, (by repeat (with_reducible first | exact HB.out | refine bz ?_ (by assumption) | apply bA | apply bN | apply bD))⟩)
                ·skip
                 refine box_step ?hg (N := 15) ?hd (cs := #[.slice none 0 0, .slice none 0 0]) (t := 26) ?hr ?_; (case hd => rfl); (case hg => rfl); (case hr => first | (go_simp; done) | (go_simp; rfl))
                 intro j4 hg M7 hbox hb
                 replace b1 := a_ (Kd.R_below (rk b1.out) hb)
                 replace b2 := a_ (Kd.R_below (rk b2.out) hb)
                 replace a6 := a_ (Kd.R_below (rk a6.out) hb)
                 replace a7 := a_ (Kd.R_below (rk a7.out) hb)
                 replace a8 := a_ (Kd.R_below (rk a8.out) hb)
                 replace a9 := a_ (Kd.R_below (rk a9.out) hb)
                 replace a4 := a_ (Kd.R_below (rk a4.out) hb)
                 replace a5 := a_ (Kd.R_below (rk a5.out) hb)
                 replace g0 := a_ (Kd.R_below (rk g0.out) hb)
                 replace g1 := a_ (Kd.R_below (rk g1.out) hb)
                 replace h4 := a_ (Kd.R_below (rk h4.out) hb)
                 replace h5 := a_ (Kd.R_below (rk h5.out) hb)
                 have d8 := a_ (hbox)
                 have u1 := a_ (bsg hg HB.out)
                 have u2 := a_ (bsg hg HB.out)
                 replace HB := a_ (below_step (by repeat (with_reducible first | exact HB.out | refine bz ?_ (by assumption) | apply bA | apply bN | apply bD)) hb)
                 have h1 := a_ (nel hg b0.out)
                 have k3 := a_ (nle hg b0.out)
                 replace b0 := a_ (blk_below (pk b0.out) hb)
                 have h2 := a_ (nel hg b3.out)
                 have k4 := a_ (nle hg b3.out)
                 replace b3 := a_ (blk_below (pk b3.out) hb)
                 have i6 := a_ (nel hg b4.out)
                 have k5 := a_ (nle hg b4.out)
                 replace b4 := a_ (blk_below (pk b4.out) hb)
                 have i7 := a_ (nel hg c0.out)
                 have k6 := a_ (nle hg c0.out)
                 replace c0 := a_ (blk_below (pk c0.out) hb)
                 have i8 := a_ (nel hg c3.out)
                 have k7 := a_ (nle hg c3.out)
                 replace c3 := a_ (blk_below (pk c3.out) hb)
                 have i1 := a_ (nel hg b9.out)
                 have k0 := a_ (nle hg b9.out)
                 replace b9 := a_ (blk_below (pk b9.out) hb)
                 clear hb hbox hg
                 obtain ⟨q6, q7, q8⟩ := Kd.R_slice g0.out
                 (first | subst q8 | (injection q8 with f1_ f2_ f3_; obtain rfl := f1_.symm; obtain rfl := f3_.symm))
                 obtain ⟨q9, r0, r1⟩ := Kd.R_slice g1.out
                 (first | subst r1 | (injection r1 with f1_ f2_ f3_; obtain rfl := f1_.symm; obtain rfl := f3_.symm))
                 obtain ⟨r2, r3, r4⟩ := Kd.R_slice h4.out
                 (first | subst r4 | (injection r4 with f1_ f2_ f3_; obtain rfl := f1_.symm; obtain rfl := f3_.symm))
                 obtain ⟨u3, u4, u5⟩ := Kd.R_slice h5.out
                 (first | subst u5 | (injection u5 with f1_ f2_ f3_; obtain rfl := f1_.symm; obtain rfl := f3_.symm))
                 refine hK.out _ _ ⟨(blk_cell b0.out 0).trans rfl, (blk_cell b0.out 1).trans rfl, (blk_cell b3.out 0).trans rfl, (blk_cell b3.out 1).trans rfl⟩ (fun f3 => ?_)
                 clear hK K
                 refine norm_ (a' := ?_) ?_ ?_
                 rotate_left
                 ·show Act.put _ (some 15) _ = _
                  simp only [Act.put, sB, sC, sD, i64_w, i32_w]
                  rfl
                 refine one_ (i := 4) (N := some 99) #[true, true, true, true, true, false, false, false, true, false, false] rfl rfl (one_of HT_.out (by kernel_rfl)) (by decide) (fun K hK => ?_)
                 refine goes_ Try.func14 (by kernel_rfl) rfl #[.agg #[.slice q6 q0.length q7, .slice q9 q1.length r0], .agg #[.slice r2 q2.length r3, .slice u3 q3.length u4]] (by rfl) rfl rfl (by (try simp only [lA, lB, lC]); first | done | rfl | (simp only [lD, lE]; rfl)) ?_
                 with_reducible refine (impl_BoxMeet.calls h3 _ _ q0 _ _ q1 _ _ q2 _ _ q3 h7 i2 v5 _ ?side1 ?side2 ?side3 ?side4 ?side5 ?side6 ?side7 ?side8 G9.out).mono ?_
                 (case side1 => exact cu (Kd.R_reads' g0.out).2.2)
                 (case side2 => exact (Kd.R_reads' g0.out).2.1)
                 (case side3 => exact cu (Kd.R_reads' g1.out).2.2)
                 (case side4 => exact (Kd.R_reads' g1.out).2.1)
                 (case side5 => exact cu (Kd.R_reads' h4.out).2.2)
                 (case side6 => exact (Kd.R_reads' h4.out).2.1)
                 (case side7 => exact cu (Kd.R_reads' h5.out).2.2)
                 (case side8 => exact (Kd.R_reads' h5.out).2.1)
                 rintro e K1 ⟨o5, o6, rfl, ho0, ho1, hb⟩
                 refine ⟨_, rfl, ?_⟩
                 have l7 := a_ (Kd.R_lower (nw (nw (nw (nw (nw (nw (nw (nw (nw (nw (nw (nw ho0 b1.out) b2.out) a6.out) a7.out) a8.out) a9.out) a4.out) a5.out) g0.out) g1.out) h4.out) h5.out) (bs HB.out))
                 have l8 := a_ (Kd.R_lower (nw (nw (nw (nw (nw (nw (nw (nw (nw (nw (nw (nw ho1 b1.out) b2.out) a6.out) a7.out) a8.out) a9.out) a4.out) a5.out) g0.out) g1.out) h4.out) h5.out) (bs HB.out))
                 replace b1 := a_ (ol2 b1.out hb ho0 ho1)
                 replace b2 := a_ (ol2 b2.out hb ho0 ho1)
                 replace a6 := a_ (ol2 a6.out hb ho0 ho1)
                 replace a7 := a_ (ol2 a7.out hb ho0 ho1)
                 replace a8 := a_ (ol2 a8.out hb ho0 ho1)
                 replace a9 := a_ (ol2 a9.out hb ho0 ho1)
                 replace a4 := a_ (ol2 a4.out hb ho0 ho1)
                 replace a5 := a_ (ol2 a5.out hb ho0 ho1)
                 replace g0 := a_ (ol2 g0.out hb ho0 ho1)
                 replace g1 := a_ (ol2 g1.out hb ho0 ho1)
                 replace h4 := a_ (ol2 h4.out hb ho0 ho1)
                 replace h5 := a_ (ol2 h5.out hb ho0 ho1)
                 replace b0 := a_ (blk_below (pk b0.out) hb)
                 replace b3 := a_ (blk_below (pk b3.out) hb)
                 replace b4 := a_ (blk_below (pk b4.out) hb)
                 replace c0 := a_ (blk_below (pk c0.out) hb)
                 replace c3 := a_ (blk_below (pk c3.out) hb)
                 replace b9 := a_ (blk_below (pk b9.out) hb)
                 replace d8 := a_ (blk_below (pk d8.out) hb)
                 replace HB := a_ (below_step (by repeat (with_reducible first | exact HB.out | refine bz ?_ (by assumption) | apply bA | apply bN | apply bD)) hb)
                 (try clear hb)
                 (try clear hb2)
                 (try clear hk)
                 (try clear hi)
                 (try clear ho0)
                 (try clear ho1)
                 refine hK.out _ _ ⟨(blk_cell b0.out 0).trans rfl, (blk_cell b0.out 1).trans rfl, (blk_cell b3.out 0).trans rfl, (blk_cell b3.out 1).trans rfl⟩ (fun f3 => ?_)
                 clear hK K
                 refine norm_ (a' := ?_) ?_ ?_
                 rotate_left
                 ·show Act.put _ (some 99) _ = _
                  simp only [Act.put, sB, sC, sD, i64_w, i32_w]
                  rfl
                 refine pure_ (i := 5) (N := some 94) (v := ?_) (a' := ?_) #[true, true, true, true, true, true, false, false, true, false, false] rfl rfl (any_of HT_.out (by kernel_rfl)) (fun _ _ _ h => h) (Or.inl ⟨by rfl, ?_⟩) ?_ ?_
                 rotate_left
                 ·intro w'
                  go_simp
                  with_reducible rfl
                 rotate_left
                 ·simp only [Act.put, sB, sC, sD, i64_w, i32_w]
                  rfl
                 refine pure_ (i := 6) (N := some 100) (v := ?_) (a' := ?_) #[true, true, true, true, true, true, true, false, true, false, false] rfl rfl (any_of HT_.out (by kernel_rfl)) (fun _ _ _ h => h) (Or.inl ⟨by rfl, ?_⟩) ?_ ?_
                 rotate_left
                 ·intro w'
                  go_simp
                  with_reducible rfl
                 rotate_left
                 ·simp only [Act.put, sB, sC, sD, i64_w, i32_w]
                  rfl
                 refine pure_ (i := 7) (N := some 101) (v := ?_) (a' := ?_) #[true, true, true, true, true, true, true, true, true, false, false] rfl rfl (any_of HT_.out (by kernel_rfl)) (fun _ _ _ h => h) (Or.inl ⟨by rfl, ?_⟩) ?_ ?_
                 rotate_left
                 ·intro w'
                  go_simp
                  with_reducible rfl
                 rotate_left
                 ·simp only [Act.put, sB, sC, sD, i64_w, i32_w]
                  rfl
                 exact norm_ (by simp only [putAll, Act.put, sB, sC, sD]) (hCont (.slice q6 q0.length q7, .slice q9 q1.length r0, .slice r2 q2.length r3, .slice u3 q3.length u4, o5, o6, j4) _ ⟨f3, (rk (Kd.R_mono g0.out (fun _ ⟨⟨⟨⟨⟨⟨⟨⟨⟨⟨⟨⟨a, b⟩, c⟩, d⟩, e⟩, f⟩, g⟩, h⟩, i⟩, j⟩, l⟩, m⟩, n⟩ => ⟨a, j, l, m, n, b, c, d, e, f, g, h, i⟩))), (rk (Kd.R_mono g1.out (fun _ ⟨⟨⟨⟨⟨⟨⟨⟨⟨⟨⟨⟨a, b⟩, c⟩, d⟩, e⟩, f⟩, g⟩, h⟩, i⟩, j⟩, l⟩, m⟩, n⟩ => ⟨a, j, l, m, n, b, c, d, e, f, g, h, i⟩))), (rk (Kd.R_mono h4.out (fun _ ⟨⟨⟨⟨⟨⟨⟨⟨⟨⟨⟨⟨a, b⟩, c⟩, d⟩, e⟩, f⟩, g⟩, h⟩, i⟩, j⟩, l⟩, m⟩, n⟩ => ⟨j, l, a, m, n, b, c, d, e, f, g, h, i⟩))), (rk (Kd.R_mono h5.out (fun _ ⟨⟨⟨⟨⟨⟨⟨⟨⟨⟨⟨⟨a, b⟩, c⟩, d⟩, e⟩, f⟩, g⟩, h⟩, i⟩, j⟩, l⟩, m⟩, n⟩ => ⟨j, l, a, m, n, b, c, d, e, f, g, h, i⟩))), (rk (Kd.R_mono l7.out (fun _ ⟨⟨⟨⟨⟨⟨⟨⟨⟨⟨⟨⟨a, b⟩, c⟩, d⟩, e⟩, f⟩, g⟩, h⟩, i⟩, j⟩, l⟩, m⟩, n⟩ => ⟨j, l, m, n, a, b, c, d, e, f, g, h, i⟩))), (rk (Kd.R_mono l8.out (fun _ ⟨⟨⟨⟨⟨⟨⟨⟨⟨⟨⟨⟨a, b⟩, c⟩, d⟩, e⟩, f⟩, g⟩, h⟩, i⟩, j⟩, l⟩, m⟩, n⟩ => ⟨j, l, m, n, a, b, c, d, e, f, g, h, i⟩))), (rk (Kd.R_mono b1.out (fun _ ⟨⟨⟨⟨⟨⟨a, b⟩, c⟩, d⟩, e⟩, f⟩, g⟩ => ⟨b, c, d, e, f, g, a⟩))), (rk (Kd.R_mono b2.out (fun _ ⟨⟨⟨⟨⟨⟨a, b⟩, c⟩, d⟩, e⟩, f⟩, g⟩ => ⟨b, c, d, e, f, g, a⟩))), (rk (Kd.R_mono a6.out (fun _ ⟨⟨⟨⟨⟨⟨a, b⟩, c⟩, d⟩, e⟩, f⟩, g⟩ => ⟨b, c, d, e, f, g, a⟩))), (rk (Kd.R_mono a7.out (fun _ ⟨⟨⟨⟨⟨⟨a, b⟩, c⟩, d⟩, e⟩, f⟩, g⟩ => ⟨b, c, d, e, f, g, a⟩))), (rk (Kd.R_mono a8.out (fun _ ⟨⟨⟨⟨⟨⟨a, b⟩, c⟩, d⟩, e⟩, f⟩, g⟩ => ⟨b, c, d, e, f, g, a⟩))), (rk (Kd.R_mono a9.out (fun _ ⟨⟨⟨⟨⟨⟨a, b⟩, c⟩, d⟩, e⟩, f⟩, g⟩ => ⟨b, c, d, e, f, g, a⟩))), (rk (Kd.R_mono a4.out (fun _ ⟨⟨⟨⟨⟨⟨a, b⟩, c⟩, d⟩, e⟩, f⟩, g⟩ => ⟨b, c, d, e, f, g, a⟩))), (rk (Kd.R_mono a5.out (fun _ ⟨⟨⟨⟨⟨⟨a, b⟩, c⟩, d⟩, e⟩, f⟩, g⟩ => ⟨b, c, d, e, f, g, a⟩))), (pk b0.out), (pk b3.out), (pk b4.out), (pk c0.out), (pk c3.out), (pk b9.out), (pk d8.out), u1.out, u2.out, h1.out, k3.out, h2.out, k4.out, i6.out, k5.out, i7.out, k6.out, i8.out, k7.out, i1.out, k0.out, (by repeat (with_reducible first | exact HB.out | refine bz ?_ (by assumption) | apply bA | apply bN | apply bD))⟩)
               ·skip
                refine box_step ?hg (N := 15) ?hd (cs := #[.slice none 0 0, .slice none 0 0]) (t := 26) ?hr ?_; (case hd => rfl); (case hg => rfl); (case hr => first | (go_simp; done) | (go_simp; rfl))
                intro j4 hg M6 hbox hb
                replace b1 := a_ (Kd.R_below (rk b1.out) hb)
                replace b2 := a_ (Kd.R_below (rk b2.out) hb)
                replace a6 := a_ (Kd.R_below (rk a6.out) hb)
                replace a7 := a_ (Kd.R_below (rk a7.out) hb)
                replace a8 := a_ (Kd.R_below (rk a8.out) hb)
                replace a9 := a_ (Kd.R_below (rk a9.out) hb)
                replace a4 := a_ (Kd.R_below (rk a4.out) hb)
                replace a5 := a_ (Kd.R_below (rk a5.out) hb)
                replace g0 := a_ (Kd.R_below (rk g0.out) hb)
                replace g1 := a_ (Kd.R_below (rk g1.out) hb)
                have d8 := a_ (hbox)
                have u1 := a_ (bsg hg HB.out)
                have u2 := a_ (bsg hg HB.out)
                replace HB := a_ (below_step (by repeat (with_reducible first | exact HB.out | refine bz ?_ (by assumption) | apply bA | apply bN | apply bD)) hb)
                have h1 := a_ (nel hg b0.out)
                have k3 := a_ (nle hg b0.out)
                replace b0 := a_ (blk_below (pk b0.out) hb)
                have h2 := a_ (nel hg b3.out)
                have k4 := a_ (nle hg b3.out)
                replace b3 := a_ (blk_below (pk b3.out) hb)
                have i6 := a_ (nel hg b4.out)
                have k5 := a_ (nle hg b4.out)
                replace b4 := a_ (blk_below (pk b4.out) hb)
                have i7 := a_ (nel hg c0.out)
                have k6 := a_ (nle hg c0.out)
                replace c0 := a_ (blk_below (pk c0.out) hb)
                have i8 := a_ (nel hg c3.out)
                have k7 := a_ (nle hg c3.out)
                replace c3 := a_ (blk_below (pk c3.out) hb)
                have i1 := a_ (nel hg b9.out)
                have k0 := a_ (nle hg b9.out)
                replace b9 := a_ (blk_below (pk b9.out) hb)
                clear hb hbox hg
                refine hK.out _ _ ⟨(blk_cell b0.out 0).trans rfl, (blk_cell b0.out 1).trans rfl, (blk_cell b3.out 0).trans rfl, (blk_cell b3.out 1).trans rfl⟩ (fun f3 => ?_)
                clear hK K
                refine norm_ (a' := ?_) ?_ ?_
                rotate_left
                ·show Act.put _ (some 15) _ = _
                 simp only [Act.put, sB, sC, sD, i64_w, i32_w]
                 rfl
                refine one_ (i := 3) (N := some 98) #[true, true, true, true, false, false, false, false, true, false, false] rfl rfl (one_of HT_.out (by kernel_rfl)) (by decide) (fun K hK => ?_)
                refine goes_ Try.func8 (by kernel_rfl) rfl #[.agg #[.slice A1_0 l1_0.length c1_0, .slice A1_1 l1_1.length c1_1]] (by rfl) rfl rfl (by (try simp only [lA, lB, lC]); first | done | rfl | (simp only [lD, lE]; rfl)) ?_
                with_reducible refine (laws_toBox.calls h3 _ _ l1_0 _ _ l1_1 q2 q3 _ ?side1 ?side2 ?side3 ?side4 K0.out).mono ?_
                (case side1 => exact Kd.C_below s8.out (un HB.out))
                (case side2 => exact s9.out)
                (case side3 => exact Kd.C_below t0.out (un HB.out))
                (case side4 => exact t1.out)
                rintro e M7 ⟨q4, q5, rfl, ho0, ho1, hb⟩
                refine ⟨_, rfl, ?_⟩
                have h4 := a_ (Kd.R_lower (nw (nw (nw (nw (nw (nw (nw (nw (nw (nw ho0 b1.out) b2.out) a6.out) a7.out) a8.out) a9.out) a4.out) a5.out) g0.out) g1.out) (bs HB.out))
                have h5 := a_ (Kd.R_lower (nw (nw (nw (nw (nw (nw (nw (nw (nw (nw ho1 b1.out) b2.out) a6.out) a7.out) a8.out) a9.out) a4.out) a5.out) g0.out) g1.out) (bs HB.out))
                replace b1 := a_ (ol2 b1.out hb ho0 ho1)
                replace b2 := a_ (ol2 b2.out hb ho0 ho1)
                replace a6 := a_ (ol2 a6.out hb ho0 ho1)
                replace a7 := a_ (ol2 a7.out hb ho0 ho1)
                replace a8 := a_ (ol2 a8.out hb ho0 ho1)
                replace a9 := a_ (ol2 a9.out hb ho0 ho1)
                replace a4 := a_ (ol2 a4.out hb ho0 ho1)
                replace a5 := a_ (ol2 a5.out hb ho0 ho1)
                replace g0 := a_ (ol2 g0.out hb ho0 ho1)
                replace g1 := a_ (ol2 g1.out hb ho0 ho1)
                replace b0 := a_ (blk_below (pk b0.out) hb)
                replace b3 := a_ (blk_below (pk b3.out) hb)
                replace b4 := a_ (blk_below (pk b4.out) hb)
                replace c0 := a_ (blk_below (pk c0.out) hb)
                replace c3 := a_ (blk_below (pk c3.out) hb)
                replace b9 := a_ (blk_below (pk b9.out) hb)
                replace d8 := a_ (blk_below (pk d8.out) hb)
                replace HB := a_ (below_step (by repeat (with_reducible first | exact HB.out | refine bz ?_ (by assumption) | apply bA | apply bN | apply bD)) hb)
                (try clear hb)
                (try clear hb2)
                (try clear hk)
                (try clear hi)
                (try clear ho0)
                (try clear ho1)
                obtain ⟨q6, q7, q8⟩ := Kd.R_slice g0.out
                (first | subst q8 | (injection q8 with f1_ f2_ f3_; obtain rfl := f1_.symm; obtain rfl := f3_.symm))
                obtain ⟨q9, r0, r1⟩ := Kd.R_slice g1.out
                (first | subst r1 | (injection r1 with f1_ f2_ f3_; obtain rfl := f1_.symm; obtain rfl := f3_.symm))
                obtain ⟨r2, r3, r4⟩ := Kd.R_slice h4.out
                (first | subst r4 | (injection r4 with f1_ f2_ f3_; obtain rfl := f1_.symm; obtain rfl := f3_.symm))
                obtain ⟨u3, u4, u5⟩ := Kd.R_slice h5.out
                (first | subst u5 | (injection u5 with f1_ f2_ f3_; obtain rfl := f1_.symm; obtain rfl := f3_.symm))
                refine hK.out _ _ ⟨(blk_cell b0.out 0).trans rfl, (blk_cell b0.out 1).trans rfl, (blk_cell b3.out 0).trans rfl, (blk_cell b3.out 1).trans rfl⟩ (fun f3 => ?_)
                clear hK K
                refine norm_ (a' := ?_) ?_ ?_
                rotate_left
                ·show Act.put _ (some 98) _ = _
                 simp only [Act.put, sB, sC, sD, i64_w, i32_w]
                 rfl
                refine one_ (i := 4) (N := some 99) #[true, true, true, true, true, false, false, false, true, false, false] rfl rfl (one_of HT_.out (by kernel_rfl)) (by decide) (fun K hK => ?_)
                refine goes_ Try.func14 (by kernel_rfl) rfl #[.agg #[.slice q6 q0.length q7, .slice q9 q1.length r0], .agg #[.slice r2 q2.length r3, .slice u3 q3.length u4]] (by rfl) rfl rfl (by (try simp only [lA, lB, lC]); first | done | rfl | (simp only [lD, lE]; rfl)) ?_
                with_reducible refine (impl_BoxMeet.calls h3 _ _ q0 _ _ q1 _ _ q2 _ _ q3 h7 i2 v5 _ ?side1 ?side2 ?side3 ?side4 ?side5 ?side6 ?side7 ?side8 G9.out).mono ?_
                (case side1 => exact cu (Kd.R_reads' g0.out).2.2)
                (case side2 => exact (Kd.R_reads' g0.out).2.1)
                (case side3 => exact cu (Kd.R_reads' g1.out).2.2)
                (case side4 => exact (Kd.R_reads' g1.out).2.1)
                (case side5 => exact cu (Kd.R_reads' h4.out).2.2)
                (case side6 => exact (Kd.R_reads' h4.out).2.1)
                (case side7 => exact cu (Kd.R_reads' h5.out).2.2)
                (case side8 => exact (Kd.R_reads' h5.out).2.1)
                rintro e K1 ⟨o5, o6, rfl, ho0, ho1, hb⟩
                refine ⟨_, rfl, ?_⟩
                have l7 := a_ (Kd.R_lower (nw (nw (nw (nw (nw (nw (nw (nw (nw (nw (nw (nw ho0 b1.out) b2.out) a6.out) a7.out) a8.out) a9.out) a4.out) a5.out) g0.out) g1.out) h4.out) h5.out) (bs HB.out))
                have l8 := a_ (Kd.R_lower (nw (nw (nw (nw (nw (nw (nw (nw (nw (nw (nw (nw ho1 b1.out) b2.out) a6.out) a7.out) a8.out) a9.out) a4.out) a5.out) g0.out) g1.out) h4.out) h5.out) (bs HB.out))
                replace b1 := a_ (ol2 b1.out hb ho0 ho1)
                replace b2 := a_ (ol2 b2.out hb ho0 ho1)
                replace a6 := a_ (ol2 a6.out hb ho0 ho1)
                replace a7 := a_ (ol2 a7.out hb ho0 ho1)
                replace a8 := a_ (ol2 a8.out hb ho0 ho1)
                replace a9 := a_ (ol2 a9.out hb ho0 ho1)
                replace a4 := a_ (ol2 a4.out hb ho0 ho1)
                replace a5 := a_ (ol2 a5.out hb ho0 ho1)
                replace g0 := a_ (ol2 g0.out hb ho0 ho1)
                replace g1 := a_ (ol2 g1.out hb ho0 ho1)
                replace h4 := a_ (ol2 h4.out hb ho0 ho1)
                replace h5 := a_ (ol2 h5.out hb ho0 ho1)
                replace b0 := a_ (blk_below (pk b0.out) hb)
                replace b3 := a_ (blk_below (pk b3.out) hb)
                replace b4 := a_ (blk_below (pk b4.out) hb)
                replace c0 := a_ (blk_below (pk c0.out) hb)
                replace c3 := a_ (blk_below (pk c3.out) hb)
                replace b9 := a_ (blk_below (pk b9.out) hb)
                replace d8 := a_ (blk_below (pk d8.out) hb)
                replace HB := a_ (below_step (by repeat (with_reducible first | exact HB.out | refine bz ?_ (by assumption) | apply bA | apply bN | apply bD)) hb)
                (try clear hb)
                (try clear hb2)
                (try clear hk)
                (try clear hi)
                (try clear ho0)
                (try clear ho1)
                refine hK.out _ _ ⟨(blk_cell b0.out 0).trans rfl, (blk_cell b0.out 1).trans rfl, (blk_cell b3.out 0).trans rfl, (blk_cell b3.out 1).trans rfl⟩ (fun f3 => ?_)
                clear hK K
                refine norm_ (a' := ?_) ?_ ?_
                rotate_left
                ·show Act.put _ (some 99) _ = _
                 simp only [Act.put, sB, sC, sD, i64_w, i32_w]
                 rfl
                refine pure_ (i := 5) (N := some 94) (v := ?_) (a' := ?_) #[true, true, true, true, true, true, false, false, true, false, false] rfl rfl (any_of HT_.out (by kernel_rfl)) (fun _ _ _ h => h) (Or.inl ⟨by rfl, ?_⟩) ?_ ?_
                rotate_left
                ·intro w'
                 go_simp
                 with_reducible rfl
                rotate_left
                ·simp only [Act.put, sB, sC, sD, i64_w, i32_w]
                 rfl
                refine pure_ (i := 6) (N := some 100) (v := ?_) (a' := ?_) #[true, true, true, true, true, true, true, false, true, false, false] rfl rfl (any_of HT_.out (by kernel_rfl)) (fun _ _ _ h => h) (Or.inl ⟨by rfl, ?_⟩) ?_ ?_
                rotate_left
                ·intro w'
                 go_simp
                 with_reducible rfl
                rotate_left
                ·simp only [Act.put, sB, sC, sD, i64_w, i32_w]
                 rfl
                refine pure_ (i := 7) (N := some 101) (v := ?_) (a' := ?_) #[true, true, true, true, true, true, true, true, true, false, false] rfl rfl (any_of HT_.out (by kernel_rfl)) (fun _ _ _ h => h) (Or.inl ⟨by rfl, ?_⟩) ?_ ?_
                rotate_left
                ·intro w'
                 go_simp
                 with_reducible rfl
                rotate_left
                ·simp only [Act.put, sB, sC, sD, i64_w, i32_w]
                 rfl
                exact norm_ (by simp only [putAll, Act.put, sB, sC, sD]) (hCont (.slice q6 q0.length q7, .slice q9 q1.length r0, .slice r2 q2.length r3, .slice u3 q3.length u4, o5, o6, j4) _ ⟨f3, (rk (Kd.R_mono g0.out (fun _ ⟨⟨⟨⟨⟨⟨⟨⟨⟨⟨⟨⟨a, b⟩, c⟩, d⟩, e⟩, f⟩, g⟩, h⟩, i⟩, j⟩, l⟩, m⟩, n⟩ => ⟨a, j, l, m, n, b, c, d, e, f, g, h, i⟩))), (rk (Kd.R_mono g1.out (fun _ ⟨⟨⟨⟨⟨⟨⟨⟨⟨⟨⟨⟨a, b⟩, c⟩, d⟩, e⟩, f⟩, g⟩, h⟩, i⟩, j⟩, l⟩, m⟩, n⟩ => ⟨a, j, l, m, n, b, c, d, e, f, g, h, i⟩))), (rk (Kd.R_mono h4.out (fun _ ⟨⟨⟨⟨⟨⟨⟨⟨⟨⟨⟨⟨a, b⟩, c⟩, d⟩, e⟩, f⟩, g⟩, h⟩, i⟩, j⟩, l⟩, m⟩, n⟩ => ⟨j, l, a, m, n, b, c, d, e, f, g, h, i⟩))), (rk (Kd.R_mono h5.out (fun _ ⟨⟨⟨⟨⟨⟨⟨⟨⟨⟨⟨⟨a, b⟩, c⟩, d⟩, e⟩, f⟩, g⟩, h⟩, i⟩, j⟩, l⟩, m⟩, n⟩ => ⟨j, l, a, m, n, b, c, d, e, f, g, h, i⟩))), (rk (Kd.R_mono l7.out (fun _ ⟨⟨⟨⟨⟨⟨⟨⟨⟨⟨⟨⟨a, b⟩, c⟩, d⟩, e⟩, f⟩, g⟩, h⟩, i⟩, j⟩, l⟩, m⟩, n⟩ => ⟨j, l, m, n, a, b, c, d, e, f, g, h, i⟩))), (rk (Kd.R_mono l8.out (fun _ ⟨⟨⟨⟨⟨⟨⟨⟨⟨⟨⟨⟨a, b⟩, c⟩, d⟩, e⟩, f⟩, g⟩, h⟩, i⟩, j⟩, l⟩, m⟩, n⟩ => ⟨j, l, m, n, a, b, c, d, e, f, g, h, i⟩))), (rk (Kd.R_mono b1.out (fun _ ⟨⟨⟨⟨⟨⟨a, b⟩, c⟩, d⟩, e⟩, f⟩, g⟩ => ⟨b, c, d, e, f, g, a⟩))), (rk (Kd.R_mono b2.out (fun _ ⟨⟨⟨⟨⟨⟨a, b⟩, c⟩, d⟩, e⟩, f⟩, g⟩ => ⟨b, c, d, e, f, g, a⟩))), (rk (Kd.R_mono a6.out (fun _ ⟨⟨⟨⟨⟨⟨a, b⟩, c⟩, d⟩, e⟩, f⟩, g⟩ => ⟨b, c, d, e, f, g, a⟩))), (rk (Kd.R_mono a7.out (fun _ ⟨⟨⟨⟨⟨⟨a, b⟩, c⟩, d⟩, e⟩, f⟩, g⟩ => ⟨b, c, d, e, f, g, a⟩))), (rk (Kd.R_mono a8.out (fun _ ⟨⟨⟨⟨⟨⟨a, b⟩, c⟩, d⟩, e⟩, f⟩, g⟩ => ⟨b, c, d, e, f, g, a⟩))), (rk (Kd.R_mono a9.out (fun _ ⟨⟨⟨⟨⟨⟨a, b⟩, c⟩, d⟩, e⟩, f⟩, g⟩ => ⟨b, c, d, e, f, g, a⟩))), (rk (Kd.R_mono a4.out (fun _ ⟨⟨⟨⟨⟨⟨a, b⟩, c⟩, d⟩, e⟩, f⟩, g⟩ => ⟨b, c, d, e, f, g, a⟩))), (rk (Kd.R_mono a5.out (fun _ ⟨⟨⟨⟨⟨⟨a, b⟩, c⟩, d⟩, e⟩, f⟩, g⟩ => ⟨b, c, d, e, f, g, a⟩))), (pk b0.out), (pk b3.out), (pk b4.out), (pk c0.out), (pk c3.out), (pk b9.out), (pk d8.out), u1.out, u2.out, h1.out, k3.out, h2.out, k4.out, i6.out, k5.out, i7.out, k6.out, i8.out, k7.out, i1.out, k0.out, (by repeat (with_reducible first | exact HB.out | refine bz ?_ (by assumption) | apply bA | apply bN | apply bD))⟩)
              ·skip
               refine box_step ?hg (N := 15) ?hd (cs := #[.slice none 0 0, .slice none 0 0]) (t := 26) ?hr ?_; (case hd => rfl); (case hg => rfl); (case hr => first | (go_simp; done) | (go_simp; rfl))
               intro j4 hg Y7 hbox hb
               replace b1 := a_ (Kd.R_below (rk b1.out) hb)
               replace b2 := a_ (Kd.R_below (rk b2.out) hb)
               replace a6 := a_ (Kd.R_below (rk a6.out) hb)
               replace a7 := a_ (Kd.R_below (rk a7.out) hb)
               replace a8 := a_ (Kd.R_below (rk a8.out) hb)
               replace a9 := a_ (Kd.R_below (rk a9.out) hb)
               replace a4 := a_ (Kd.R_below (rk a4.out) hb)
               replace a5 := a_ (Kd.R_below (rk a5.out) hb)
               have d8 := a_ (hbox)
               have u1 := a_ (bsg hg HB.out)
               have u2 := a_ (bsg hg HB.out)
               replace HB := a_ (below_step (by repeat (with_reducible first | exact HB.out | refine bz ?_ (by assumption) | apply bA | apply bN | apply bD)) hb)
               have h1 := a_ (nel hg b0.out)
               have k3 := a_ (nle hg b0.out)
               replace b0 := a_ (blk_below (pk b0.out) hb)
               have h2 := a_ (nel hg b3.out)
               have k4 := a_ (nle hg b3.out)
               replace b3 := a_ (blk_below (pk b3.out) hb)
               have i6 := a_ (nel hg b4.out)
               have k5 := a_ (nle hg b4.out)
               replace b4 := a_ (blk_below (pk b4.out) hb)
               have i7 := a_ (nel hg c0.out)
               have k6 := a_ (nle hg c0.out)
               replace c0 := a_ (blk_below (pk c0.out) hb)
               have i8 := a_ (nel hg c3.out)
               have k7 := a_ (nle hg c3.out)
               replace c3 := a_ (blk_below (pk c3.out) hb)
               have i1 := a_ (nel hg b9.out)
               have k0 := a_ (nle hg b9.out)
               replace b9 := a_ (blk_below (pk b9.out) hb)
               clear hb hbox hg
               refine hK.out _ _ ⟨(blk_cell b0.out 0).trans rfl, (blk_cell b0.out 1).trans rfl, (blk_cell b3.out 0).trans rfl, (blk_cell b3.out 1).trans rfl⟩ (fun f3 => ?_)
               clear hK K
               refine norm_ (a' := ?_) ?_ ?_
               rotate_left
               ·show Act.put _ (some 15) _ = _
                simp only [Act.put, sB, sC, sD, i64_w, i32_w]
                rfl
               refine one_ (i := 1) (N := some 96) #[true, true, true, false, false, false, false, false, true, false, false] rfl rfl (one_of HT_.out (by kernel_rfl)) (by decide) (fun K hK => ?_)
               refine goes_ Try.func8 (by kernel_rfl) rfl #[.agg #[.slice A0_0 l0_0.length c0_0, .slice A0_1 l0_1.length c0_1]] (by rfl) rfl rfl (by (try simp only [lA, lB, lC]); first | done | rfl | (simp only [lD, lE]; rfl)) ?_
               with_reducible refine (laws_toBox.calls h3 _ _ l0_0 _ _ l0_1 q0 q1 _ ?side1 ?side2 ?side3 ?side4 L7.out).mono ?_
               (case side1 => exact Kd.C_below t2.out (un HB.out))
               (case side2 => exact t3.out)
               (case side3 => exact Kd.C_below t4.out (un HB.out))
               (case side4 => exact t5.out)
               rintro e M6 ⟨s6, s7, rfl, ho0, ho1, hb⟩
               refine ⟨_, rfl, ?_⟩
               have g0 := a_ (Kd.R_lower (nw (nw (nw (nw (nw (nw (nw (nw ho0 b1.out) b2.out) a6.out) a7.out) a8.out) a9.out) a4.out) a5.out) (bs HB.out))
               have g1 := a_ (Kd.R_lower (nw (nw (nw (nw (nw (nw (nw (nw ho1 b1.out) b2.out) a6.out) a7.out) a8.out) a9.out) a4.out) a5.out) (bs HB.out))
               replace b1 := a_ (ol2 b1.out hb ho0 ho1)
               replace b2 := a_ (ol2 b2.out hb ho0 ho1)
               replace a6 := a_ (ol2 a6.out hb ho0 ho1)
               replace a7 := a_ (ol2 a7.out hb ho0 ho1)
               replace a8 := a_ (ol2 a8.out hb ho0 ho1)
               replace a9 := a_ (ol2 a9.out hb ho0 ho1)
               replace a4 := a_ (ol2 a4.out hb ho0 ho1)
               replace a5 := a_ (ol2 a5.out hb ho0 ho1)
               replace b0 := a_ (blk_below (pk b0.out) hb)
               replace b3 := a_ (blk_below (pk b3.out) hb)
               replace b4 := a_ (blk_below (pk b4.out) hb)
               replace c0 := a_ (blk_below (pk c0.out) hb)
               replace c3 := a_ (blk_below (pk c3.out) hb)
               replace b9 := a_ (blk_below (pk b9.out) hb)
               replace d8 := a_ (blk_below (pk d8.out) hb)
               replace HB := a_ (below_step (by repeat (with_reducible first | exact HB.out | refine bz ?_ (by assumption) | apply bA | apply bN | apply bD)) hb)
               (try clear hb)
               (try clear hb2)
               (try clear hk)
               (try clear hi)
               (try clear ho0)
               (try clear ho1)
               refine hK.out _ _ ⟨(blk_cell b0.out 0).trans rfl, (blk_cell b0.out 1).trans rfl, (blk_cell b3.out 0).trans rfl, (blk_cell b3.out 1).trans rfl⟩ (fun f3 => ?_)
               clear hK K
               refine norm_ (a' := ?_) ?_ ?_
               rotate_left
               ·show Act.put _ (some 96) _ = _
                simp only [Act.put, sB, sC, sD, i64_w, i32_w]
                rfl
               refine one_ (i := 3) (N := some 98) #[true, true, true, true, false, false, false, false, true, false, false] rfl rfl (one_of HT_.out (by kernel_rfl)) (by decide) (fun K hK => ?_)
               refine goes_ Try.func8 (by kernel_rfl) rfl #[.agg #[.slice A1_0 l1_0.length c1_0, .slice A1_1 l1_1.length c1_1]] (by rfl) rfl rfl (by (try simp only [lA, lB, lC]); first | done | rfl | (simp only [lD, lE]; rfl)) ?_
               with_reducible refine (laws_toBox.calls h3 _ _ l1_0 _ _ l1_1 q2 q3 _ ?side1 ?side2 ?side3 ?side4 K0.out).mono ?_
               (case side1 => exact Kd.C_below s8.out (un HB.out))
               (case side2 => exact s9.out)
               (case side3 => exact Kd.C_below t0.out (un HB.out))
               (case side4 => exact t1.out)
               rintro e M7 ⟨q4, q5, rfl, ho0, ho1, hb⟩
               refine ⟨_, rfl, ?_⟩
               have h4 := a_ (Kd.R_lower (nw (nw (nw (nw (nw (nw (nw (nw (nw (nw ho0 b1.out) b2.out) a6.out) a7.out) a8.out) a9.out) a4.out) a5.out) g0.out) g1.out) (bs HB.out))
               have h5 := a_ (Kd.R_lower (nw (nw (nw (nw (nw (nw (nw (nw (nw (nw ho1 b1.out) b2.out) a6.out) a7.out) a8.out) a9.out) a4.out) a5.out) g0.out) g1.out) (bs HB.out))
               replace b1 := a_ (ol2 b1.out hb ho0 ho1)
               replace b2 := a_ (ol2 b2.out hb ho0 ho1)
               replace a6 := a_ (ol2 a6.out hb ho0 ho1)
               replace a7 := a_ (ol2 a7.out hb ho0 ho1)
               replace a8 := a_ (ol2 a8.out hb ho0 ho1)
               replace a9 := a_ (ol2 a9.out hb ho0 ho1)
               replace a4 := a_ (ol2 a4.out hb ho0 ho1)
               replace a5 := a_ (ol2 a5.out hb ho0 ho1)
               replace g0 := a_ (ol2 g0.out hb ho0 ho1)
               replace g1 := a_ (ol2 g1.out hb ho0 ho1)
               replace b0 := a_ (blk_below (pk b0.out) hb)
               replace b3 := a_ (blk_below (pk b3.out) hb)
               replace b4 := a_ (blk_below (pk b4.out) hb)
               replace c0 := a_ (blk_below (pk c0.out) hb)
               replace c3 := a_ (blk_below (pk c3.out) hb)
               replace b9 := a_ (blk_below (pk b9.out) hb)
               replace d8 := a_ (blk_below (pk d8.out) hb)
               replace HB := a_ (below_step (by repeat (with_reducible first | exact HB.out | refine bz ?_ (by assumption) | apply bA | apply bN | apply bD)) hb)
               (try clear hb)
               (try clear hb2)
               (try clear hk)
               (try clear hi)
               (try clear ho0)
               (try clear ho1)
               obtain ⟨q6, q7, q8⟩ := Kd.R_slice g0.out
               (first | subst q8 | (injection q8 with f1_ f2_ f3_; obtain rfl := f1_.symm; obtain rfl := f3_.symm))
               obtain ⟨q9, r0, r1⟩ := Kd.R_slice g1.out
               (first | subst r1 | (injection r1 with f1_ f2_ f3_; obtain rfl := f1_.symm; obtain rfl := f3_.symm))
               obtain ⟨r2, r3, r4⟩ := Kd.R_slice h4.out
               (first | subst r4 | (injection r4 with f1_ f2_ f3_; obtain rfl := f1_.symm; obtain rfl := f3_.symm))
               obtain ⟨u3, u4, u5⟩ := Kd.R_slice h5.out
               (first | subst u5 | (injection u5 with f1_ f2_ f3_; obtain rfl := f1_.symm; obtain rfl := f3_.symm))
               refine hK.out _ _ ⟨(blk_cell b0.out 0).trans rfl, (blk_cell b0.out 1).trans rfl, (blk_cell b3.out 0).trans rfl, (blk_cell b3.out 1).trans rfl⟩ (fun f3 => ?_)
               clear hK K
               refine norm_ (a' := ?_) ?_ ?_
               rotate_left
               ·show Act.put _ (some 98) _ = _
                simp only [Act.put, sB, sC, sD, i64_w, i32_w]
                rfl
               refine one_ (i := 4) (N := some 99) #[true, true, true, true, true, false, false, false, true, false, false] rfl rfl (one_of HT_.out (by kernel_rfl)) (by decide) (fun K hK => ?_)
               refine goes_ Try.func14 (by kernel_rfl) rfl #[.agg #[.slice q6 q0.length q7, .slice q9 q1.length r0], .agg #[.slice r2 q2.length r3, .slice u3 q3.length u4]] (by rfl) rfl rfl (by (try simp only [lA, lB, lC]); first | done | rfl | (simp only [lD, lE]; rfl)) ?_
               with_reducible refine (impl_BoxMeet.calls h3 _ _ q0 _ _ q1 _ _ q2 _ _ q3 h7 i2 v5 _ ?side1 ?side2 ?side3 ?side4 ?side5 ?side6 ?side7 ?side8 G9.out).mono ?_
               (case side1 => exact cu (Kd.R_reads' g0.out).2.2)
               (case side2 => exact (Kd.R_reads' g0.out).2.1)
               (case side3 => exact cu (Kd.R_reads' g1.out).2.2)
               (case side4 => exact (Kd.R_reads' g1.out).2.1)
               (case side5 => exact cu (Kd.R_reads' h4.out).2.2)
               (case side6 => exact (Kd.R_reads' h4.out).2.1)
               (case side7 => exact cu (Kd.R_reads' h5.out).2.2)
               (case side8 => exact (Kd.R_reads' h5.out).2.1)
               rintro e K1 ⟨o5, o6, rfl, ho0, ho1, hb⟩
               refine ⟨_, rfl, ?_⟩
               have l7 := a_ (Kd.R_lower (nw (nw (nw (nw (nw (nw (nw (nw (nw (nw (nw (nw ho0 b1.out) b2.out) a6.out) a7.out) a8.out) a9.out) a4.out) a5.out) g0.out) g1.out) h4.out) h5.out) (bs HB.out))
               have l8 := a_ (Kd.R_lower (nw (nw (nw (nw (nw (nw (nw (nw (nw (nw (nw (nw ho1 b1.out) b2.out) a6.out) a7.out) a8.out) a9.out) a4.out) a5.out) g0.out) g1.out) h4.out) h5.out) (bs HB.out))
               replace b1 := a_ (ol2 b1.out hb ho0 ho1)
               replace b2 := a_ (ol2 b2.out hb ho0 ho1)
               replace a6 := a_ (ol2 a6.out hb ho0 ho1)
               replace a7 := a_ (ol2 a7.out hb ho0 ho1)
               replace a8 := a_ (ol2 a8.out hb ho0 ho1)
               replace a9 := a_ (ol2 a9.out hb ho0 ho1)
               replace a4 := a_ (ol2 a4.out hb ho0 ho1)
               replace a5 := a_ (ol2 a5.out hb ho0 ho1)
               replace g0 := a_ (ol2 g0.out hb ho0 ho1)
               replace g1 := a_ (ol2 g1.out hb ho0 ho1)
               replace h4 := a_ (ol2 h4.out hb ho0 ho1)
               replace h5 := a_ (ol2 h5.out hb ho0 ho1)
               replace b0 := a_ (blk_below (pk b0.out) hb)
               replace b3 := a_ (blk_below (pk b3.out) hb)
               replace b4 := a_ (blk_below (pk b4.out) hb)
               replace c0 := a_ (blk_below (pk c0.out) hb)
               replace c3 := a_ (blk_below (pk c3.out) hb)
               replace b9 := a_ (blk_below (pk b9.out) hb)
               replace d8 := a_ (blk_below (pk d8.out) hb)
               replace HB := a_ (below_step (by repeat (with_reducible first | exact HB.out | refine bz ?_ (by assumption) | apply bA | apply bN | apply bD)) hb)
               (try clear hb)
               (try clear hb2)
               (try clear hk)
               (try clear hi)
               (try clear ho0)
               (try clear ho1)
               refine hK.out _ _ ⟨(blk_cell b0.out 0).trans rfl, (blk_cell b0.out 1).trans rfl, (blk_cell b3.out 0).trans rfl, (blk_cell b3.out 1).trans rfl⟩ (fun f3 => ?_)
               clear hK K
               refine norm_ (a' := ?_) ?_ ?_
               rotate_left
               ·show Act.put _ (some 99) _ = _
                simp only [Act.put, sB, sC, sD, i64_w, i32_w]
                rfl
               refine pure_ (i := 5) (N := some 94) (v := ?_) (a' := ?_) #[true, true, true, true, true, true, false, false, true, false, false] rfl rfl (any_of HT_.out (by kernel_rfl)) (fun _ _ _ h => h) (Or.inl ⟨by rfl, ?_⟩) ?_ ?_
               rotate_left
               ·intro w'
                go_simp
                with_reducible rfl
               rotate_left
               ·simp only [Act.put, sB, sC, sD, i64_w, i32_w]
                rfl
               refine pure_ (i := 6) (N := some 100) (v := ?_) (a' := ?_) #[true, true, true, true, true, true, true, false, true, false, false] rfl rfl (any_of HT_.out (by kernel_rfl)) (fun _ _ _ h => h) (Or.inl ⟨by rfl, ?_⟩) ?_ ?_
               rotate_left
               ·intro w'
                go_simp
                with_reducible rfl
               rotate_left
               ·simp only [Act.put, sB, sC, sD, i64_w, i32_w]
                rfl
               refine pure_ (i := 7) (N := some 101) (v := ?_) (a' := ?_) #[true, true, true, true, true, true, true, true, true, false, false] rfl rfl (any_of HT_.out (by kernel_rfl)) (fun _ _ _ h => h) (Or.inl ⟨by rfl, ?_⟩) ?_ ?_
               rotate_left
               ·intro w'
                go_simp
                with_reducible rfl
               rotate_left
               ·simp only [Act.put, sB, sC, sD, i64_w, i32_w]
                rfl
               exact norm_ (by simp only [putAll, Act.put, sB, sC, sD]) (hCont (.slice q6 q0.length q7, .slice q9 q1.length r0, .slice r2 q2.length r3, .slice u3 q3.length u4, o5, o6, j4) _ ⟨f3, (rk (Kd.R_mono g0.out (fun _ ⟨⟨⟨⟨⟨⟨⟨⟨⟨⟨⟨⟨a, b⟩, c⟩, d⟩, e⟩, f⟩, g⟩, h⟩, i⟩, j⟩, l⟩, m⟩, n⟩ => ⟨a, j, l, m, n, b, c, d, e, f, g, h, i⟩))), (rk (Kd.R_mono g1.out (fun _ ⟨⟨⟨⟨⟨⟨⟨⟨⟨⟨⟨⟨a, b⟩, c⟩, d⟩, e⟩, f⟩, g⟩, h⟩, i⟩, j⟩, l⟩, m⟩, n⟩ => ⟨a, j, l, m, n, b, c, d, e, f, g, h, i⟩))), (rk (Kd.R_mono h4.out (fun _ ⟨⟨⟨⟨⟨⟨⟨⟨⟨⟨⟨⟨a, b⟩, c⟩, d⟩, e⟩, f⟩, g⟩, h⟩, i⟩, j⟩, l⟩, m⟩, n⟩ => ⟨j, l, a, m, n, b, c, d, e, f, g, h, i⟩))), (rk (Kd.R_mono h5.out (fun _ ⟨⟨⟨⟨⟨⟨⟨⟨⟨⟨⟨⟨a, b⟩, c⟩, d⟩, e⟩, f⟩, g⟩, h⟩, i⟩, j⟩, l⟩, m⟩, n⟩ => ⟨j, l, a, m, n, b, c, d, e, f, g, h, i⟩))), (rk (Kd.R_mono l7.out (fun _ ⟨⟨⟨⟨⟨⟨⟨⟨⟨⟨⟨⟨a, b⟩, c⟩, d⟩, e⟩, f⟩, g⟩, h⟩, i⟩, j⟩, l⟩, m⟩, n⟩ => ⟨j, l, m, n, a, b, c, d, e, f, g, h, i⟩))), (rk (Kd.R_mono l8.out (fun _ ⟨⟨⟨⟨⟨⟨⟨⟨⟨⟨⟨⟨a, b⟩, c⟩, d⟩, e⟩, f⟩, g⟩, h⟩, i⟩, j⟩, l⟩, m⟩, n⟩ => ⟨j, l, m, n, a, b, c, d, e, f, g, h, i⟩))), (rk (Kd.R_mono b1.out (fun _ ⟨⟨⟨⟨⟨⟨a, b⟩, c⟩, d⟩, e⟩, f⟩, g⟩ => ⟨b, c, d, e, f, g, a⟩))), (rk (Kd.R_mono b2.out (fun _ ⟨⟨⟨⟨⟨⟨a, b⟩, c⟩, d⟩, e⟩, f⟩, g⟩ => ⟨b, c, d, e, f, g, a⟩))), (rk (Kd.R_mono a6.out (fun _ ⟨⟨⟨⟨⟨⟨a, b⟩, c⟩, d⟩, e⟩, f⟩, g⟩ => ⟨b, c, d, e, f, g, a⟩))), (rk (Kd.R_mono a7.out (fun _ ⟨⟨⟨⟨⟨⟨a, b⟩, c⟩, d⟩, e⟩, f⟩, g⟩ => ⟨b, c, d, e, f, g, a⟩))), (rk (Kd.R_mono a8.out (fun _ ⟨⟨⟨⟨⟨⟨a, b⟩, c⟩, d⟩, e⟩, f⟩, g⟩ => ⟨b, c, d, e, f, g, a⟩))), (rk (Kd.R_mono a9.out (fun _ ⟨⟨⟨⟨⟨⟨a, b⟩, c⟩, d⟩, e⟩, f⟩, g⟩ => ⟨b, c, d, e, f, g, a⟩))), (rk (Kd.R_mono a4.out (fun _ ⟨⟨⟨⟨⟨⟨a, b⟩, c⟩, d⟩, e⟩, f⟩, g⟩ => ⟨b, c, d, e, f, g, a⟩))), (rk (Kd.R_mono a5.out (fun _ ⟨⟨⟨⟨⟨⟨a, b⟩, c⟩, d⟩, e⟩, f⟩, g⟩ => ⟨b, c, d, e, f, g, a⟩))), (pk b0.out), (pk b3.out), (pk b4.out), (pk c0.out), (pk c3.out), (pk b9.out), (pk d8.out), u1.out, u2.out, h1.out, k3.out, h2.out, k4.out, i6.out, k5.out, i7.out, k6.out, i8.out, k7.out, i1.out, k0.out, (by repeat (with_reducible first | exact HB.out | refine bz ?_ (by assumption) | apply bA | apply bN | apply bD))⟩)
             rintro ⟨s6, s7, q4, q5, o5, o6, j4⟩ n1 ⟨hS_, h0_, h1_, h2_, h3_, h4_, h5_, h6_, h7_, h8_, h9_, h10_, h11_, h12_, h13_, h14_, h15_, h16_, h17_, h18_, h19_, h20_, h21_, h22_, h23_, h24_, h25_, h26_, h27_, h28_, h29_, h30_, h31_, h32_, h33_, h34_, h35_⟩
             have n0_ : Aside0 (Kd.R Kd.flt 39 n1 w.heap.size (fun k_ => N_ s7 k_ ∧ N_ q4 k_ ∧ N_ q5 k_ ∧ N_ o5 k_ ∧ N_ o6 k_ ∧ N_ (.slice e5 d2.length e6) k_ ∧ N_ (.slice e9 d3.length f0) k_ ∧ N_ (.slice e7 j5.length e8) k_ ∧ N_ (.slice f1 j6.length f2) k_ ∧ N_ (.slice e1 j7.length e2) k_ ∧ N_ (.slice e3 j8.length e4) k_ ∧ N_ (.slice d4 d0.length d5) k_ ∧ N_ (.slice d6 d1.length d7) k_) s6 q0) := ⟨h0_⟩
             have n1_ : Aside0 (Kd.R Kd.flt 39 n1 w.heap.size (fun k_ => N_ s6 k_ ∧ N_ q4 k_ ∧ N_ q5 k_ ∧ N_ o5 k_ ∧ N_ o6 k_ ∧ N_ (.slice e5 d2.length e6) k_ ∧ N_ (.slice e9 d3.length f0) k_ ∧ N_ (.slice e7 j5.length e8) k_ ∧ N_ (.slice f1 j6.length f2) k_ ∧ N_ (.slice e1 j7.length e2) k_ ∧ N_ (.slice e3 j8.length e4) k_ ∧ N_ (.slice d4 d0.length d5) k_ ∧ N_ (.slice d6 d1.length d7) k_) s7 q1) := ⟨h1_⟩
             have n2_ : Aside0 (Kd.R Kd.flt 39 n1 w.heap.size (fun k_ => N_ s6 k_ ∧ N_ s7 k_ ∧ N_ q5 k_ ∧ N_ o5 k_ ∧ N_ o6 k_ ∧ N_ (.slice e5 d2.length e6) k_ ∧ N_ (.slice e9 d3.length f0) k_ ∧ N_ (.slice e7 j5.length e8) k_ ∧ N_ (.slice f1 j6.length f2) k_ ∧ N_ (.slice e1 j7.length e2) k_ ∧ N_ (.slice e3 j8.length e4) k_ ∧ N_ (.slice d4 d0.length d5) k_ ∧ N_ (.slice d6 d1.length d7) k_) q4 q2) := ⟨h2_⟩
             have n3_ : Aside0 (Kd.R Kd.flt 39 n1 w.heap.size (fun k_ => N_ s6 k_ ∧ N_ s7 k_ ∧ N_ q4 k_ ∧ N_ o5 k_ ∧ N_ o6 k_ ∧ N_ (.slice e5 d2.length e6) k_ ∧ N_ (.slice e9 d3.length f0) k_ ∧ N_ (.slice e7 j5.length e8) k_ ∧ N_ (.slice f1 j6.length f2) k_ ∧ N_ (.slice e1 j7.length e2) k_ ∧ N_ (.slice e3 j8.length e4) k_ ∧ N_ (.slice d4 d0.length d5) k_ ∧ N_ (.slice d6 d1.length d7) k_) q5 q3) := ⟨h3_⟩
             have n4_ : Aside0 (Kd.R Kd.flt 39 n1 w.heap.size (fun k_ => N_ s6 k_ ∧ N_ s7 k_ ∧ N_ q4 k_ ∧ N_ q5 k_ ∧ N_ o6 k_ ∧ N_ (.slice e5 d2.length e6) k_ ∧ N_ (.slice e9 d3.length f0) k_ ∧ N_ (.slice e7 j5.length e8) k_ ∧ N_ (.slice f1 j6.length f2) k_ ∧ N_ (.slice e1 j7.length e2) k_ ∧ N_ (.slice e3 j8.length e4) k_ ∧ N_ (.slice d4 d0.length d5) k_ ∧ N_ (.slice d6 d1.length d7) k_) o5 h7) := ⟨h4_⟩
             have n5_ : Aside0 (Kd.R Kd.flt 39 n1 w.heap.size (fun k_ => N_ s6 k_ ∧ N_ s7 k_ ∧ N_ q4 k_ ∧ N_ q5 k_ ∧ N_ o5 k_ ∧ N_ (.slice e5 d2.length e6) k_ ∧ N_ (.slice e9 d3.length f0) k_ ∧ N_ (.slice e7 j5.length e8) k_ ∧ N_ (.slice f1 j6.length f2) k_ ∧ N_ (.slice e1 j7.length e2) k_ ∧ N_ (.slice e3 j8.length e4) k_ ∧ N_ (.slice d4 d0.length d5) k_ ∧ N_ (.slice d6 d1.length d7) k_) o6 i2) := ⟨h5_⟩
             have n6_ : Aside0 (Kd.R Kd.flt 39 n1 w.heap.size (fun k_ => N_ s6 k_ ∧ N_ s7 k_ ∧ N_ q4 k_ ∧ N_ q5 k_ ∧ N_ o5 k_ ∧ N_ o6 k_ ∧ N_ (.slice e9 d3.length f0) k_ ∧ N_ (.slice e7 j5.length e8) k_ ∧ N_ (.slice f1 j6.length f2) k_ ∧ N_ (.slice e1 j7.length e2) k_ ∧ N_ (.slice e3 j8.length e4) k_ ∧ N_ (.slice d4 d0.length d5) k_ ∧ N_ (.slice d6 d1.length d7) k_) (.slice e5 d2.length e6) d2) := ⟨h6_⟩
             have n7_ : Aside0 (Kd.R Kd.flt 39 n1 w.heap.size (fun k_ => N_ s6 k_ ∧ N_ s7 k_ ∧ N_ q4 k_ ∧ N_ q5 k_ ∧ N_ o5 k_ ∧ N_ o6 k_ ∧ N_ (.slice e5 d2.length e6) k_ ∧ N_ (.slice e7 j5.length e8) k_ ∧ N_ (.slice f1 j6.length f2) k_ ∧ N_ (.slice e1 j7.length e2) k_ ∧ N_ (.slice e3 j8.length e4) k_ ∧ N_ (.slice d4 d0.length d5) k_ ∧ N_ (.slice d6 d1.length d7) k_) (.slice e9 d3.length f0) d3) := ⟨h7_⟩
             have n8_ : Aside0 (Kd.R Kd.flt 39 n1 w.heap.size (fun k_ => N_ s6 k_ ∧ N_ s7 k_ ∧ N_ q4 k_ ∧ N_ q5 k_ ∧ N_ o5 k_ ∧ N_ o6 k_ ∧ N_ (.slice e5 d2.length e6) k_ ∧ N_ (.slice e9 d3.length f0) k_ ∧ N_ (.slice f1 j6.length f2) k_ ∧ N_ (.slice e1 j7.length e2) k_ ∧ N_ (.slice e3 j8.length e4) k_ ∧ N_ (.slice d4 d0.length d5) k_ ∧ N_ (.slice d6 d1.length d7) k_) (.slice e7 j5.length e8) j5) := ⟨h8_⟩
             have n9_ : Aside0 (Kd.R Kd.flt 39 n1 w.heap.size (fun k_ => N_ s6 k_ ∧ N_ s7 k_ ∧ N_ q4 k_ ∧ N_ q5 k_ ∧ N_ o5 k_ ∧ N_ o6 k_ ∧ N_ (.slice e5 d2.length e6) k_ ∧ N_ (.slice e9 d3.length f0) k_ ∧ N_ (.slice e7 j5.length e8) k_ ∧ N_ (.slice e1 j7.length e2) k_ ∧ N_ (.slice e3 j8.length e4) k_ ∧ N_ (.slice d4 d0.length d5) k_ ∧ N_ (.slice d6 d1.length d7) k_) (.slice f1 j6.length f2) j6) := ⟨h9_⟩
             have n10_ : Aside0 (Kd.R Kd.flt 39 n1 w.heap.size (fun k_ => N_ s6 k_ ∧ N_ s7 k_ ∧ N_ q4 k_ ∧ N_ q5 k_ ∧ N_ o5 k_ ∧ N_ o6 k_ ∧ N_ (.slice e5 d2.length e6) k_ ∧ N_ (.slice e9 d3.length f0) k_ ∧ N_ (.slice e7 j5.length e8) k_ ∧ N_ (.slice f1 j6.length f2) k_ ∧ N_ (.slice e3 j8.length e4) k_ ∧ N_ (.slice d4 d0.length d5) k_ ∧ N_ (.slice d6 d1.length d7) k_) (.slice e1 j7.length e2) j7) := ⟨h10_⟩
             have n11_ : Aside0 (Kd.R Kd.flt 39 n1 w.heap.size (fun k_ => N_ s6 k_ ∧ N_ s7 k_ ∧ N_ q4 k_ ∧ N_ q5 k_ ∧ N_ o5 k_ ∧ N_ o6 k_ ∧ N_ (.slice e5 d2.length e6) k_ ∧ N_ (.slice e9 d3.length f0) k_ ∧ N_ (.slice e7 j5.length e8) k_ ∧ N_ (.slice f1 j6.length f2) k_ ∧ N_ (.slice e1 j7.length e2) k_ ∧ N_ (.slice d4 d0.length d5) k_ ∧ N_ (.slice d6 d1.length d7) k_) (.slice e3 j8.length e4) j8) := ⟨h11_⟩
             have n12_ : Aside0 (Kd.R Kd.flt 39 n1 w.heap.size (fun k_ => N_ s6 k_ ∧ N_ s7 k_ ∧ N_ q4 k_ ∧ N_ q5 k_ ∧ N_ o5 k_ ∧ N_ o6 k_ ∧ N_ (.slice e5 d2.length e6) k_ ∧ N_ (.slice e9 d3.length f0) k_ ∧ N_ (.slice e7 j5.length e8) k_ ∧ N_ (.slice f1 j6.length f2) k_ ∧ N_ (.slice e1 j7.length e2) k_ ∧ N_ (.slice e3 j8.length e4) k_ ∧ N_ (.slice d6 d1.length d7) k_) (.slice d4 d0.length d5) n9) := ⟨h12_⟩
             have n13_ : Aside0 (Kd.R Kd.flt 39 n1 w.heap.size (fun k_ => N_ s6 k_ ∧ N_ s7 k_ ∧ N_ q4 k_ ∧ N_ q5 k_ ∧ N_ o5 k_ ∧ N_ o6 k_ ∧ N_ (.slice e5 d2.length e6) k_ ∧ N_ (.slice e9 d3.length f0) k_ ∧ N_ (.slice e7 j5.length e8) k_ ∧ N_ (.slice f1 j6.length f2) k_ ∧ N_ (.slice e1 j7.length e2) k_ ∧ N_ (.slice e3 j8.length e4) k_ ∧ N_ (.slice d4 d0.length d5) k_) (.slice d6 d1.length d7) o0) := ⟨h13_⟩
             have n14_ : Aside0 (n1.heap[i9]? = some (.cells #[.slice A0_0 l0_0.length c0_0, .slice A0_1 l0_1.length c0_1] 24 (0, 0))) := ⟨h14_⟩
             have n15_ : Aside0 (n1.heap[j3]? = some (.cells #[.slice A1_0 l1_0.length c1_0, .slice A1_1 l1_1.length c1_1] 24 (0, 0))) := ⟨h15_⟩
             have n16_ : Aside0 (n1.heap[h8]? = some (.cells #[.slice e5 d2.length e6, .slice e9 d3.length f0] 26 (0, 0))) := ⟨h16_⟩
             have n17_ : Aside0 (n1.heap[n4]? = some (.cells #[.slice e7 j5.length e8, .slice f1 j6.length f2] 26 (0, 0))) := ⟨h17_⟩
             have n18_ : Aside0 (n1.heap[n8]? = some (.cells #[.slice e1 j7.length e2, .slice e3 j8.length e4] 26 (0, 0))) := ⟨h18_⟩
             have n19_ : Aside0 (n1.heap[n7]? = some (.cells #[.slice d4 d0.length d5, .slice d6 d1.length d7] 26 (0, 0))) := ⟨h19_⟩
             have n20_ : Aside0 (n1.heap[j4]? = some (.cells #[.slice none 0 0, .slice none 0 0] 26 (0, 0))) := ⟨h20_⟩
             have n21_ : Aside0 (w.heap.size ≤ j4) := ⟨h21_⟩
             have n22_ : Aside0 (w.heap.size ≤ j4) := ⟨h22_⟩
             have n23_ : Aside0 (i9 ≠ j4) := ⟨h23_⟩
             have n24_ : Aside0 (j4 ≠ i9) := ⟨h24_⟩
             have n25_ : Aside0 (j3 ≠ j4) := ⟨h25_⟩
             have n26_ : Aside0 (j4 ≠ j3) := ⟨h26_⟩
             have n27_ : Aside0 (h8 ≠ j4) := ⟨h27_⟩
             have n28_ : Aside0 (j4 ≠ h8) := ⟨h28_⟩
             have n29_ : Aside0 (n4 ≠ j4) := ⟨h29_⟩
             have n30_ : Aside0 (j4 ≠ n4) := ⟨h30_⟩
             have n31_ : Aside0 (n8 ≠ j4) := ⟨h31_⟩
             have n32_ : Aside0 (j4 ≠ n8) := ⟨h32_⟩
             have n33_ : Aside0 (n7 ≠ j4) := ⟨h33_⟩
             have n34_ : Aside0 (j4 ≠ n7) := ⟨h34_⟩
             have n35_ : Aside0 (Below w.heap.size w n1) := ⟨h35_⟩
             clear b1
             clear b2
             clear a6
             clear a7
             clear a8
             clear a9
             clear a4
             clear a5
             clear b0
             clear b3
             clear b4
             clear c0
             clear c3
             clear b9
             clear HB
             clear h0_ h1_ h2_ h3_ h4_ h5_ h6_ h7_ h8_ h9_ h10_ h11_ h12_ h13_ h14_ h15_ h16_ h17_ h18_ h19_ h20_ h21_ h22_ h23_ h24_ h25_ h26_ h27_ h28_ h29_ h30_ h31_ h32_ h33_ h34_ h35_
             have g0 := n0_
             have g1 := n1_
             have h4 := n2_
             have h5 := n3_
             have l7 := n4_
             have l8 := n5_
             have b1 := n6_
             have b2 := n7_
             have a6 := n8_
             have a7 := n9_
             have a8 := n10_
             have a9 := n11_
             have a4 := n12_
             have a5 := n13_
             have b0 := n14_
             have b3 := n15_
             have b4 := n16_
             have c0 := n17_
             have c3 := n18_
             have b9 := n19_
             have d8 := n20_
             have u1 := n21_
             have u2 := n22_
             have h1 := n23_
             have k3 := n24_
             have h2 := n25_
             have k4 := n26_
             have i6 := n27_
             have k5 := n28_
             have i7 := n29_
             have k6 := n30_
             have i8 := n31_
             have k7 := n32_
             have i1 := n33_
             have k0 := n34_
             have HB := n35_
             clear n0_ n1_ n2_ n3_ n4_ n5_ n6_ n7_ n8_ n9_ n10_ n11_ n12_ n13_ n14_ n15_ n16_ n17_ n18_ n19_ n20_ n21_ n22_ n23_ n24_ n25_ n26_ n27_ n28_ n29_ n30_ n31_ n32_ n33_ n34_ n35_
             have f3 : n1.cell? ⟨i9, 0, none⟩ = some (.slice A0_0 l0_0.length c0_0) ∧ n1.cell? ⟨i9, 1, none⟩ = some (.slice A0_1 l0_1.length c0_1) ∧ n1.cell? ⟨j3, 0, none⟩ = some (.slice A1_0 l1_0.length c1_0) ∧ n1.cell? ⟨j3, 1, none⟩ = some (.slice A1_1 l1_1.length c1_1) := hS_
             obtain ⟨g7, g8, J5⟩ := Kd.R_slice l7.out
             (first | subst J5 | (injection J5 with f1_ f2_ f3_; obtain rfl := f1_.symm; obtain rfl := f3_.symm))
             obtain ⟨g9, h0, J6⟩ := Kd.R_slice l8.out
             (first | subst J6 | (injection J6 with f1_ f2_ f3_; obtain rfl := f1_.symm; obtain rfl := f3_.symm))
             refine norm_ (a' := ?_) ?_ ?_
             rotate_left
             ·simp only [putAll, Act.put, sB, sC, sD]
              rfl
             refine one_ (i := 9) (N := none) #[true, true, true, true, true, true, true, true, true, true, false] rfl rfl (one_of HT_.out (by kernel_rfl)) (by decide) (fun K hK => ?_)
             have hs194 : n1.cell? ⟨j4, 0, none⟩ = some (.slice none 0 0) := (blk_cell d8.out 0).trans rfl
             have hfs194 := blk_frozen d8.out 0
             have hns194_0 := h1.out
             have hns194_1 := h2.out
             have hns194_2 := i6.out
             have hns194_3 := i7.out
             have hns194_4 := i8.out
             have hns194_5 := i1.out
             have hms194_0 := k3.out
             have hms194_1 := k4.out
             have hms194_2 := k5.out
             have hms194_3 := k6.out
             have hms194_4 := k7.out
             have hms194_5 := k0.out
             have hs196 : n1.cell? ⟨j4, 1, none⟩ = some (.slice none 0 0) := (blk_cell d8.out 1).trans rfl
             have hfs196 := blk_frozen d8.out 1
             have hns196_0 := h1.out
             have hns196_1 := h2.out
             have hns196_2 := i6.out
             have hns196_3 := i7.out
             have hns196_4 := i8.out
             have hns196_5 := i1.out
             have hms196_0 := k3.out
             have hms196_1 := k4.out
             have hms196_2 := k5.out
             have hms196_3 := k6.out
             have hms196_4 := k7.out
             have hms196_5 := k0.out
             refine skip_ (w1 := ?_) ?_ ?_ ?_ ?_
             rotate_left
             ·rfl
             ·rfl
             ·go_simp
              rfl
             refine hK.out _ _ ⟨((cell_far (p := ⟨j4, _, none⟩) h1.out _).trans (((cell_far (p := ⟨j4, _, none⟩) h1.out _).trans (f3.1)))), ((cell_far (p := ⟨j4, _, none⟩) h1.out _).trans (((cell_far (p := ⟨j4, _, none⟩) h1.out _).trans (f3.2.1)))), ((cell_far (p := ⟨j4, _, none⟩) h2.out _).trans (((cell_far (p := ⟨j4, _, none⟩) h2.out _).trans (f3.2.2.1)))), ((cell_far (p := ⟨j4, _, none⟩) h2.out _).trans (((cell_far (p := ⟨j4, _, none⟩) h2.out _).trans (f3.2.2.2))))⟩ (fun f3 => ?_)
             clear hK K
             refine pure_ (i := 10) (N := some 16) (v := ?_) (a' := ?_) #[true, true, true, true, true, true, true, true, true, true, true] rfl rfl (any_of HT_.out (by kernel_rfl)) (fun _ _ _ h => h) (Or.inl ⟨by rfl, ?_⟩) ?_ ?_
             rotate_left
             ·intro w'
              go_simp
              with_reducible rfl
             rotate_left
             ·simp only [Act.put, sB, sC, sD, i64_w, i32_w]
              rfl
             refine done_ (done_of HT_.out (by kernel_rfl)) ?_
             go_upto_region 32 with (fail)
             go_cut [110] (fun Y8 wc => ∃ (kq : Nat) (x110_172 : Bool), Y8 = .bool x110_172 ∧ Aside0 (laws_FnExactBoxMeet.j2 kq p4 x110_172 n9 o0 = some r) ∧ Aside0 (kq ≤ h3) ∧ Aside0 (Kd.R Kd.flt 39 wc w.heap.size (fun k_ => some k_ ≠ ((.slice e9 d3.length f0) : Value).ownBlock ∧ some k_ ≠ ((.slice e7 j5.length e8) : Value).ownBlock ∧ some k_ ≠ ((.slice f1 j6.length f2) : Value).ownBlock ∧ some k_ ≠ ((.slice e1 j7.length e2) : Value).ownBlock ∧ some k_ ≠ ((.slice e3 j8.length e4) : Value).ownBlock ∧ some k_ ≠ ((.slice d4 d0.length d5) : Value).ownBlock ∧ some k_ ≠ ((.slice d6 d1.length d7) : Value).ownBlock ∧ some k_ ≠ ((.slice g7 h7.length g8) : Value).ownBlock ∧ some k_ ≠ ((.slice g9 i2.length h0) : Value).ownBlock) (.slice e5 d2.length e6) d2) ∧ Aside0 (Kd.R Kd.flt 39 wc w.heap.size (fun k_ => some k_ ≠ ((.slice e5 d2.length e6) : Value).ownBlock ∧ some k_ ≠ ((.slice e7 j5.length e8) : Value).ownBlock ∧ some k_ ≠ ((.slice f1 j6.length f2) : Value).ownBlock ∧ some k_ ≠ ((.slice e1 j7.length e2) : Value).ownBlock ∧ some k_ ≠ ((.slice e3 j8.length e4) : Value).ownBlock ∧ some k_ ≠ ((.slice d4 d0.length d5) : Value).ownBlock ∧ some k_ ≠ ((.slice d6 d1.length d7) : Value).ownBlock ∧ some k_ ≠ ((.slice g7 h7.length g8) : Value).ownBlock ∧ some k_ ≠ ((.slice g9 i2.length h0) : Value).ownBlock) (.slice e9 d3.length f0) d3) ∧ Aside0 (Kd.R Kd.flt 39 wc w.heap.size (fun k_ => some k_ ≠ ((.slice e5 d2.length e6) : Value).ownBlock ∧ some k_ ≠ ((.slice e9 d3.length f0) : Value).ownBlock ∧ some k_ ≠ ((.slice f1 j6.length f2) : Value).ownBlock ∧ some k_ ≠ ((.slice e1 j7.length e2) : Value).ownBlock ∧ some k_ ≠ ((.slice e3 j8.length e4) : Value).ownBlock ∧ some k_ ≠ ((.slice d4 d0.length d5) : Value).ownBlock ∧ some k_ ≠ ((.slice d6 d1.length d7) : Value).ownBlock ∧ some k_ ≠ ((.slice g7 h7.length g8) : Value).ownBlock ∧ some k_ ≠ ((.slice g9 i2.length h0) : Value).ownBlock) (.slice e7 j5.length e8) j5) ∧ Aside0 (Kd.R Kd.flt 39 wc w.heap.size (fun k_ => some k_ ≠ ((.slice e5 d2.length e6) : Value).ownBlock ∧ some k_ ≠ ((.slice e9 d3.length f0) : Value).ownBlock ∧ some k_ ≠ ((.slice e7 j5.length e8) : Value).ownBlock ∧ some k_ ≠ ((.slice e1 j7.length e2) : Value).ownBlock ∧ some k_ ≠ ((.slice e3 j8.length e4) : Value).ownBlock ∧ some k_ ≠ ((.slice d4 d0.length d5) : Value).ownBlock ∧ some k_ ≠ ((.slice d6 d1.length d7) : Value).ownBlock ∧ some k_ ≠ ((.slice g7 h7.length g8) : Value).ownBlock ∧ some k_ ≠ ((.slice g9 i2.length h0) : Value).ownBlock) (.slice f1 j6.length f2) j6) ∧ Aside0 (Kd.R Kd.flt 39 wc w.heap.size (fun k_ => some k_ ≠ ((.slice e5 d2.length e6) : Value).ownBlock ∧ some k_ ≠ ((.slice e9 d3.length f0) : Value).ownBlock ∧ some k_ ≠ ((.slice e7 j5.length e8) : Value).ownBlock ∧ some k_ ≠ ((.slice f1 j6.length f2) : Value).ownBlock ∧ some k_ ≠ ((.slice e3 j8.length e4) : Value).ownBlock ∧ some k_ ≠ ((.slice d4 d0.length d5) : Value).ownBlock ∧ some k_ ≠ ((.slice d6 d1.length d7) : Value).ownBlock ∧ some k_ ≠ ((.slice g7 h7.length g8) : Value).ownBlock ∧ some k_ ≠ ((.slice g9 i2.length h0) : Value).ownBlock) (.slice e1 j7.length e2) j7) ∧ Aside0 (Kd.R Kd.flt 39 wc w.heap.size (fun k_ => some k_ ≠ ((.slice e5 d2.length e6) : Value).ownBlock ∧ some k_ ≠ ((.slice e9 d3.length f0) : Value).ownBlock ∧ some k_ ≠ ((.slice e7 j5.length e8) : Value).ownBlock ∧ some k_ ≠ ((.slice f1 j6.length f2) : Value).ownBlock ∧ some k_ ≠ ((.slice e1 j7.length e2) : Value).ownBlock ∧ some k_ ≠ ((.slice d4 d0.length d5) : Value).ownBlock ∧ some k_ ≠ ((.slice d6 d1.length d7) : Value).ownBlock ∧ some k_ ≠ ((.slice g7 h7.length g8) : Value).ownBlock ∧ some k_ ≠ ((.slice g9 i2.length h0) : Value).ownBlock) (.slice e3 j8.length e4) j8) ∧ Aside0 (Kd.R Kd.flt 39 wc w.heap.size (fun k_ => some k_ ≠ ((.slice e5 d2.length e6) : Value).ownBlock ∧ some k_ ≠ ((.slice e9 d3.length f0) : Value).ownBlock ∧ some k_ ≠ ((.slice e7 j5.length e8) : Value).ownBlock ∧ some k_ ≠ ((.slice f1 j6.length f2) : Value).ownBlock ∧ some k_ ≠ ((.slice e1 j7.length e2) : Value).ownBlock ∧ some k_ ≠ ((.slice e3 j8.length e4) : Value).ownBlock ∧ some k_ ≠ ((.slice d6 d1.length d7) : Value).ownBlock ∧ some k_ ≠ ((.slice g7 h7.length g8) : Value).ownBlock ∧ some k_ ≠ ((.slice g9 i2.length h0) : Value).ownBlock) (.slice d4 d0.length d5) n9) ∧ Aside0 (Kd.R Kd.flt 39 wc w.heap.size (fun k_ => some k_ ≠ ((.slice e5 d2.length e6) : Value).ownBlock ∧ some k_ ≠ ((.slice e9 d3.length f0) : Value).ownBlock ∧ some k_ ≠ ((.slice e7 j5.length e8) : Value).ownBlock ∧ some k_ ≠ ((.slice f1 j6.length f2) : Value).ownBlock ∧ some k_ ≠ ((.slice e1 j7.length e2) : Value).ownBlock ∧ some k_ ≠ ((.slice e3 j8.length e4) : Value).ownBlock ∧ some k_ ≠ ((.slice d4 d0.length d5) : Value).ownBlock ∧ some k_ ≠ ((.slice g7 h7.length g8) : Value).ownBlock ∧ some k_ ≠ ((.slice g9 i2.length h0) : Value).ownBlock) (.slice d6 d1.length d7) o0) ∧ Aside0 (Kd.R Kd.flt 39 wc w.heap.size (fun k_ => some k_ ≠ ((.slice e5 d2.length e6) : Value).ownBlock ∧ some k_ ≠ ((.slice e9 d3.length f0) : Value).ownBlock ∧ some k_ ≠ ((.slice e7 j5.length e8) : Value).ownBlock ∧ some k_ ≠ ((.slice f1 j6.length f2) : Value).ownBlock ∧ some k_ ≠ ((.slice e1 j7.length e2) : Value).ownBlock ∧ some k_ ≠ ((.slice e3 j8.length e4) : Value).ownBlock ∧ some k_ ≠ ((.slice d4 d0.length d5) : Value).ownBlock ∧ some k_ ≠ ((.slice d6 d1.length d7) : Value).ownBlock ∧ some k_ ≠ ((.slice g9 i2.length h0) : Value).ownBlock) (.slice g7 h7.length g8) h7) ∧ Aside0 (Kd.R Kd.flt 39 wc w.heap.size (fun k_ => some k_ ≠ ((.slice e5 d2.length e6) : Value).ownBlock ∧ some k_ ≠ ((.slice e9 d3.length f0) : Value).ownBlock ∧ some k_ ≠ ((.slice e7 j5.length e8) : Value).ownBlock ∧ some k_ ≠ ((.slice f1 j6.length f2) : Value).ownBlock ∧ some k_ ≠ ((.slice e1 j7.length e2) : Value).ownBlock ∧ some k_ ≠ ((.slice e3 j8.length e4) : Value).ownBlock ∧ some k_ ≠ ((.slice d4 d0.length d5) : Value).ownBlock ∧ some k_ ≠ ((.slice d6 d1.length d7) : Value).ownBlock ∧ some k_ ≠ ((.slice g7 h7.length g8) : Value).ownBlock) (.slice g9 i2.length h0) i2) ∧ Aside0 (wc.heap[i9]? = some (.cells #[(.slice A0_0 l0_0.length c0_0), (.slice A0_1 l0_1.length c0_1)] 24 (0, 0))) ∧ Aside0 (wc.heap[j3]? = some (.cells #[(.slice A1_0 l1_0.length c1_0), (.slice A1_1 l1_1.length c1_1)] 24 (0, 0))) ∧ Aside0 (wc.heap[h8]? = some (.cells #[(.slice e5 d2.length e6), (.slice e9 d3.length f0)] 26 (0, 0))) ∧ Aside0 (wc.heap[n4]? = some (.cells #[(.slice e7 j5.length e8), (.slice f1 j6.length f2)] 26 (0, 0))) ∧ Aside0 (wc.heap[n8]? = some (.cells #[(.slice e1 j7.length e2), (.slice e3 j8.length e4)] 26 (0, 0))) ∧ Aside0 (wc.heap[n7]? = some (.cells #[(.slice d4 d0.length d5), (.slice d6 d1.length d7)] 26 (0, 0))) ∧ Aside0 (wc.heap[j4]? = some (.cells #[(.slice g7 h7.length g8), (.slice g9 i2.length h0)] 26 (0, 0))) ∧ Aside0 (Below w.heap.size w wc))
             case first =>
              have H := HC173.out
              clear HC173
              replace H := Option.bind_eq_some_iff.mp H
              obtain ⟨t296, J7, H⟩ := H
              have M8 := Aside0.mk J7
              clear J7
              by_cases c198 : t296 = true
              ·subst c198
               have H1 : (laws_FnExactBoxMeet.j2 h3 p4 (v5 != h6) n9 o0) = some r := by rw [if_pos rfl] at H; exact H
               clear H
               have H := H1
               clear H1
               have H' := Aside0.mk H
               clear H
               have Y9 := k3.out
               have Z0 := h1.out
               have Z1 := k4.out
               have Z2 := h2.out
               have Z3 := k5.out
               have Z4 := i6.out
               have Z5 := k6.out
               have Z6 := i7.out
               have Z7 := k7.out
               have Z8 := i8.out
               have Z9 := k0.out
               have Xa := i1.out
               have B5 : _ = some (Value.slice none 0 0) := (blk_cell d8.out 0).trans rfl
               have B6 : _ = some (Value.slice none 0 0) := (blk_cell d8.out 1).trans rfl
               have B7 := blk_frozen d8.out 0
               have B9 := blk_frozen d8.out 1
               have Xb := h9.out
               have Xc := g3.out
               have Xd := i0.out
               have Xe := g4.out
               have Xf := l0.out
               have Xg := l9.out
               have Xh := l1.out
               have Xi := m0.out
               have Xj := j9.out
               have Xk := l4.out
               have C0 : _ = some (Value.slice e5 d2.length e6) := (blk_cell b4.out 0).trans rfl
               have C1 : _ = some (Value.slice e9 d3.length f0) := (blk_cell b4.out 1).trans rfl
               have C2 := blk_frozen b4.out 0
               have C3 := blk_frozen b4.out 1
               go_wp2_with (first | ((with_reducible refine gate_callee (f := 10) rfl ?_); refine goesL_ (some 104) rfl rfl Try.func10 (by kernel_rfl) rfl #[.agg #[.slice g7 h7.length g8, .slice g9 i2.length h0], .agg #[.slice e5 d2.length e6, .slice e9 d3.length f0]] rfl (by (try simp only [lA, lB, lC]); first | done | rfl | (simp only [lD, lE]; rfl)) ?_; (with_reducible refine (laws_eqBox.calls h3 _ _ h7 _ _ i2 _ _ d2 _ _ d3 true _ ?side1 ?side2 ?side3 ?side4 ?side5 ?side6 ?side7 ?side8 M8.out).mono ?_); (case side1 => exact cu (Kd.R_reads' (fr2 l7.out d8.out (by decide) 0 (.slice g7 h7.length g8) 1 (.slice g9 i2.length h0))).2.2); (case side2 => exact (Kd.R_reads' l7.out).2.1); (case side3 => exact cu (Kd.R_reads' (fr2 l8.out d8.out (by decide) 0 (.slice g7 h7.length g8) 1 (.slice g9 i2.length h0))).2.2); (case side4 => exact (Kd.R_reads' l8.out).2.1); (case side5 => exact cu (Kd.R_reads' (fr2 b1.out d8.out (by decide) 0 (.slice g7 h7.length g8) 1 (.slice g9 i2.length h0))).2.2); (case side6 => exact (Kd.R_reads' b1.out).2.1); (case side7 => exact cu (Kd.R_reads' (fr2 b2.out d8.out (by decide) 0 (.slice g7 h7.length g8) 1 (.slice g9 i2.length h0))).2.2); (case side8 => exact (Kd.R_reads' b2.out).2.1); rintro e Uy ⟨rfl, hb⟩; refine ⟨_, rfl, ?_⟩; replace b1 := a_ (Kd.R_below (rk (Kd.R_mono (fr2 b1.out d8.out (by decide) 0 (.slice g7 h7.length g8) 1 (.slice g9 i2.length h0)) (fun _ h_ => h_.1))) hb); replace b2 := a_ (Kd.R_below (rk (Kd.R_mono (fr2 b2.out d8.out (by decide) 0 (.slice g7 h7.length g8) 1 (.slice g9 i2.length h0)) (fun _ h_ => h_.1))) hb); replace a6 := a_ (Kd.R_below (rk (Kd.R_mono (fr2 a6.out d8.out (by decide) 0 (.slice g7 h7.length g8) 1 (.slice g9 i2.length h0)) (fun _ h_ => h_.1))) hb); replace a7 := a_ (Kd.R_below (rk (Kd.R_mono (fr2 a7.out d8.out (by decide) 0 (.slice g7 h7.length g8) 1 (.slice g9 i2.length h0)) (fun _ h_ => h_.1))) hb); replace a8 := a_ (Kd.R_below (rk (Kd.R_mono (fr2 a8.out d8.out (by decide) 0 (.slice g7 h7.length g8) 1 (.slice g9 i2.length h0)) (fun _ h_ => h_.1))) hb); replace a9 := a_ (Kd.R_below (rk (Kd.R_mono (fr2 a9.out d8.out (by decide) 0 (.slice g7 h7.length g8) 1 (.slice g9 i2.length h0)) (fun _ h_ => h_.1))) hb); replace a4 := a_ (Kd.R_below (rk (Kd.R_mono (fr2 a4.out d8.out (by decide) 0 (.slice g7 h7.length g8) 1 (.slice g9 i2.length h0)) (fun _ h_ => h_.1))) hb); replace a5 := a_ (Kd.R_below (rk (Kd.R_mono (fr2 a5.out d8.out (by decide) 0 (.slice g7 h7.length g8) 1 (.slice g9 i2.length h0)) (fun _ h_ => h_.1))) hb); replace g0 := a_ (Kd.R_below (rk (Kd.R_mono (fr2 g0.out d8.out (by decide) 0 (.slice g7 h7.length g8) 1 (.slice g9 i2.length h0)) (fun _ h_ => h_.1))) hb); replace g1 := a_ (Kd.R_below (rk (Kd.R_mono (fr2 g1.out d8.out (by decide) 0 (.slice g7 h7.length g8) 1 (.slice g9 i2.length h0)) (fun _ h_ => h_.1))) hb); replace h4 := a_ (Kd.R_below (rk (Kd.R_mono (fr2 h4.out d8.out (by decide) 0 (.slice g7 h7.length g8) 1 (.slice g9 i2.length h0)) (fun _ h_ => h_.1))) hb); replace h5 := a_ (Kd.R_below (rk (Kd.R_mono (fr2 h5.out d8.out (by decide) 0 (.slice g7 h7.length g8) 1 (.slice g9 i2.length h0)) (fun _ h_ => h_.1))) hb); replace l7 := a_ (Kd.R_below (rk (Kd.R_mono (fr2 l7.out d8.out (by decide) 0 (.slice g7 h7.length g8) 1 (.slice g9 i2.length h0)) (fun _ h_ => h_.1))) hb); replace l8 := a_ (Kd.R_below (rk (Kd.R_mono (fr2 l8.out d8.out (by decide) 0 (.slice g7 h7.length g8) 1 (.slice g9 i2.length h0)) (fun _ h_ => h_.1))) hb); replace b0 := a_ (blk_below (g := i9) (o := .cells #[.slice A0_0 l0_0.length c0_0, .slice A0_1 l0_1.length c0_1] 24 (0, 0)) (by refine pk ?_; refine blk_far ?_ h1.out _; refine pk ?_; refine blk_far ?_ h1.out _; refine pk ?_; exact b0.out) hb); replace b3 := a_ (blk_below (g := j3) (o := .cells #[.slice A1_0 l1_0.length c1_0, .slice A1_1 l1_1.length c1_1] 24 (0, 0)) (by refine pk ?_; refine blk_far ?_ h2.out _; refine pk ?_; refine blk_far ?_ h2.out _; refine pk ?_; exact b3.out) hb); replace b4 := a_ (blk_below (g := h8) (o := .cells #[.slice e5 d2.length e6, .slice e9 d3.length f0] 26 (0, 0)) (by refine pk ?_; refine blk_far ?_ i6.out _; refine pk ?_; refine blk_far ?_ i6.out _; refine pk ?_; exact b4.out) hb); replace c0 := a_ (blk_below (g := n4) (o := .cells #[.slice e7 j5.length e8, .slice f1 j6.length f2] 26 (0, 0)) (by refine pk ?_; refine blk_far ?_ i7.out _; refine pk ?_; refine blk_far ?_ i7.out _; refine pk ?_; exact c0.out) hb); replace c3 := a_ (blk_below (g := n8) (o := .cells #[.slice e1 j7.length e2, .slice e3 j8.length e4] 26 (0, 0)) (by refine pk ?_; refine blk_far ?_ i8.out _; refine pk ?_; refine blk_far ?_ i8.out _; refine pk ?_; exact c3.out) hb); replace b9 := a_ (blk_below (g := n7) (o := .cells #[.slice d4 d0.length d5, .slice d6 d1.length d7] 26 (0, 0)) (by refine pk ?_; refine blk_far ?_ i1.out _; refine pk ?_; refine blk_far ?_ i1.out _; refine pk ?_; exact b9.out) hb); replace d8 := a_ (blk_below (g := j4) (o := .cells #[.slice g7 h7.length g8, .slice g9 i2.length h0] 26 (0, 0)) (by refine pk ?_; refine blk_put (cs := #[.slice g7 h7.length g8, .slice none 0 0]) ?_ 1 _ rfl; refine pk ?_; refine blk_put (cs := #[.slice none 0 0, .slice none 0 0]) ?_ 0 _ rfl; refine pk ?_; exact d8.out) hb); replace HB := a_ (below_step (by repeat (with_reducible first | exact HB.out | refine bz ?_ (by assumption) | apply bA | apply bN | apply bD)) hb); clear hb))
               go_meet
               case rel => exact ⟨_, ((v5 != h6)), (by first | rfl | (simp; done) | (simp [*]; done)), H', ⟨by have := x8.out; have := I6.out; first | omega | exact Nat.le_refl _⟩, ⟨by (try simp only [b5, b6, b7, b8]); refine rk ?_; exact Kd.R_mono b1.out (fun _ ⟨_, _, _, _, a, b, c, d, e, f, g, h, i⟩ => ⟨c, d, e, f, g, h, i, a, b⟩)⟩, ⟨by (try simp only [b5, b6, b7, b8]); refine rk ?_; exact Kd.R_mono b2.out (fun _ ⟨_, _, _, _, a, b, c, d, e, f, g, h, i⟩ => ⟨c, d, e, f, g, h, i, a, b⟩)⟩, ⟨by (try simp only [b5, b6, b7, b8]); refine rk ?_; exact Kd.R_mono a6.out (fun _ ⟨_, _, _, _, a, b, c, d, e, f, g, h, i⟩ => ⟨c, d, e, f, g, h, i, a, b⟩)⟩, ⟨by (try simp only [b5, b6, b7, b8]); refine rk ?_; exact Kd.R_mono a7.out (fun _ ⟨_, _, _, _, a, b, c, d, e, f, g, h, i⟩ => ⟨c, d, e, f, g, h, i, a, b⟩)⟩, ⟨by (try simp only [b5, b6, b7, b8]); refine rk ?_; exact Kd.R_mono a8.out (fun _ ⟨_, _, _, _, a, b, c, d, e, f, g, h, i⟩ => ⟨c, d, e, f, g, h, i, a, b⟩)⟩, ⟨by (try simp only [b5, b6, b7, b8]); refine rk ?_; exact Kd.R_mono a9.out (fun _ ⟨_, _, _, _, a, b, c, d, e, f, g, h, i⟩ => ⟨c, d, e, f, g, h, i, a, b⟩)⟩, ⟨by (try simp only [b5, b6, b7, b8]); refine rk ?_; exact Kd.R_mono a4.out (fun _ ⟨_, _, _, _, a, b, c, d, e, f, g, h, i⟩ => ⟨c, d, e, f, g, h, i, a, b⟩)⟩, ⟨by (try simp only [b5, b6, b7, b8]); refine rk ?_; exact Kd.R_mono a5.out (fun _ ⟨_, _, _, _, a, b, c, d, e, f, g, h, i⟩ => ⟨c, d, e, f, g, h, i, a, b⟩)⟩, ⟨by (try simp only [b5, b6, b7, b8]); refine rk ?_; exact Kd.R_mono l7.out (fun _ ⟨_, _, _, _, a, b, c, d, e, f, g, h, i⟩ => ⟨b, c, d, e, f, g, h, i, a⟩)⟩, ⟨by (try simp only [b5, b6, b7, b8]); refine rk ?_; exact Kd.R_mono l8.out (fun _ ⟨_, _, _, _, a, b, c, d, e, f, g, h, i⟩ => ⟨b, c, d, e, f, g, h, i, a⟩)⟩, ⟨by (try simp only [b5, b6, b7, b8]); refine pk ?_; exact b0.out⟩, ⟨by (try simp only [b5, b6, b7, b8]); refine pk ?_; exact b3.out⟩, ⟨by (try simp only [b5, b6, b7, b8]); refine pk ?_; exact b4.out⟩, ⟨by (try simp only [b5, b6, b7, b8]); refine pk ?_; exact c0.out⟩, ⟨by (try simp only [b5, b6, b7, b8]); refine pk ?_; exact c3.out⟩, ⟨by (try simp only [b5, b6, b7, b8]); refine pk ?_; exact b9.out⟩, ⟨by (try simp only [b5, b6, b7, b8]); refine pk ?_; exact d8.out⟩, ⟨by repeat (with_reducible first | exact HB.out | refine bz ?_ (by assumption) | apply bA | apply bN | apply bD)⟩⟩
              ·replace c198 := Bool.eq_false_iff.mpr c198
               subst c198
               have H1 : (laws_FnExactBoxMeet.j2 h3 p4 true n9 o0) = some r := by rw [if_neg (show ¬ (false = true) by decide)] at H; exact H
               clear H
               have H := H1
               clear H1
               have H' := Aside0.mk H
               clear H
               have Xl := k3.out
               have Xm := h1.out
               have Xn := k4.out
               have Xo := h2.out
               have Xp := k5.out
               have Xq := i6.out
               have Xr := k6.out
               have Xs := i7.out
               have Xt := k7.out
               have Xu := i8.out
               have Xv := k0.out
               have Xw := i1.out
               have C4 : _ = some (Value.slice none 0 0) := (blk_cell d8.out 0).trans rfl
               have C5 : _ = some (Value.slice none 0 0) := (blk_cell d8.out 1).trans rfl
               have C6 := blk_frozen d8.out 0
               have C7 := blk_frozen d8.out 1
               have Xx := h9.out
               have Xy := g3.out
               have Xz := i0.out
               have Ya := g4.out
               have Yb := l0.out
               have Yc := l9.out
               have Yd := l1.out
               have Ye := m0.out
               have Yf := j9.out
               have Yg := l4.out
               have C8 : _ = some (Value.slice e5 d2.length e6) := (blk_cell b4.out 0).trans rfl
               have C9 : _ = some (Value.slice e9 d3.length f0) := (blk_cell b4.out 1).trans rfl
               have D0 := blk_frozen b4.out 0
               have D1 := blk_frozen b4.out 1
               go_wp2_with (first | ((with_reducible refine gate_callee (f := 10) rfl ?_); refine goesL_ (some 104) rfl rfl Try.func10 (by kernel_rfl) rfl #[.agg #[.slice g7 h7.length g8, .slice g9 i2.length h0], .agg #[.slice e5 d2.length e6, .slice e9 d3.length f0]] rfl (by (try simp only [lA, lB, lC]); first | done | rfl | (simp only [lD, lE]; rfl)) ?_; (with_reducible refine (laws_eqBox.calls h3 _ _ h7 _ _ i2 _ _ d2 _ _ d3 false _ ?side1 ?side2 ?side3 ?side4 ?side5 ?side6 ?side7 ?side8 M8.out).mono ?_); (case side1 => exact cu (Kd.R_reads' (fr2 l7.out d8.out (by decide) 0 (.slice g7 h7.length g8) 1 (.slice g9 i2.length h0))).2.2); (case side2 => exact (Kd.R_reads' l7.out).2.1); (case side3 => exact cu (Kd.R_reads' (fr2 l8.out d8.out (by decide) 0 (.slice g7 h7.length g8) 1 (.slice g9 i2.length h0))).2.2); (case side4 => exact (Kd.R_reads' l8.out).2.1); (case side5 => exact cu (Kd.R_reads' (fr2 b1.out d8.out (by decide) 0 (.slice g7 h7.length g8) 1 (.slice g9 i2.length h0))).2.2); (case side6 => exact (Kd.R_reads' b1.out).2.1); (case side7 => exact cu (Kd.R_reads' (fr2 b2.out d8.out (by decide) 0 (.slice g7 h7.length g8) 1 (.slice g9 i2.length h0))).2.2); (case side8 => exact (Kd.R_reads' b2.out).2.1); rintro e Uz ⟨rfl, hb⟩; refine ⟨_, rfl, ?_⟩; replace b1 := a_ (Kd.R_below (rk (Kd.R_mono (fr2 b1.out d8.out (by decide) 0 (.slice g7 h7.length g8) 1 (.slice g9 i2.length h0)) (fun _ h_ => h_.1))) hb); replace b2 := a_ (Kd.R_below (rk (Kd.R_mono (fr2 b2.out d8.out (by decide) 0 (.slice g7 h7.length g8) 1 (.slice g9 i2.length h0)) (fun _ h_ => h_.1))) hb); replace a6 := a_ (Kd.R_below (rk (Kd.R_mono (fr2 a6.out d8.out (by decide) 0 (.slice g7 h7.length g8) 1 (.slice g9 i2.length h0)) (fun _ h_ => h_.1))) hb); replace a7 := a_ (Kd.R_below (rk (Kd.R_mono (fr2 a7.out d8.out (by decide) 0 (.slice g7 h7.length g8) 1 (.slice g9 i2.length h0)) (fun _ h_ => h_.1))) hb); replace a8 := a_ (Kd.R_below (rk (Kd.R_mono (fr2 a8.out d8.out (by decide) 0 (.slice g7 h7.length g8) 1 (.slice g9 i2.length h0)) (fun _ h_ => h_.1))) hb); replace a9 := a_ (Kd.R_below (rk (Kd.R_mono (fr2 a9.out d8.out (by decide) 0 (.slice g7 h7.length g8) 1 (.slice g9 i2.length h0)) (fun _ h_ => h_.1))) hb); replace a4 := a_ (Kd.R_below (rk (Kd.R_mono (fr2 a4.out d8.out (by decide) 0 (.slice g7 h7.length g8) 1 (.slice g9 i2.length h0)) (fun _ h_ => h_.1))) hb); replace a5 := a_ (Kd.R_below (rk (Kd.R_mono (fr2 a5.out d8.out (by decide) 0 (.slice g7 h7.length g8) 1 (.slice g9 i2.length h0)) (fun _ h_ => h_.1))) hb); replace g0 := a_ (Kd.R_below (rk (Kd.R_mono (fr2 g0.out d8.out (by decide) 0 (.slice g7 h7.length g8) 1 (.slice g9 i2.length h0)) (fun _ h_ => h_.1))) hb); replace g1 := a_ (Kd.R_below (rk (Kd.R_mono (fr2 g1.out d8.out (by decide) 0 (.slice g7 h7.length g8) 1 (.slice g9 i2.length h0)) (fun _ h_ => h_.1))) hb); replace h4 := a_ (Kd.R_below (rk (Kd.R_mono (fr2 h4.out d8.out (by decide) 0 (.slice g7 h7.length g8) 1 (.slice g9 i2.length h0)) (fun _ h_ => h_.1))) hb); replace h5 := a_ (Kd.R_below (rk (Kd.R_mono (fr2 h5.out d8.out (by decide) 0 (.slice g7 h7.length g8) 1 (.slice g9 i2.length h0)) (fun _ h_ => h_.1))) hb); replace l7 := a_ (Kd.R_below (rk (Kd.R_mono (fr2 l7.out d8.out (by decide) 0 (.slice g7 h7.length g8) 1 (.slice g9 i2.length h0)) (fun _ h_ => h_.1))) hb); replace l8 := a_ (Kd.R_below (rk (Kd.R_mono (fr2 l8.out d8.out (by decide) 0 (.slice g7 h7.length g8) 1 (.slice g9 i2.length h0)) (fun _ h_ => h_.1))) hb); replace b0 := a_ (blk_below (g := i9) (o := .cells #[.slice A0_0 l0_0.length c0_0, .slice A0_1 l0_1.length c0_1] 24 (0, 0)) (by refine pk ?_; refine blk_far ?_ h1.out _; refine pk ?_; refine blk_far ?_ h1.out _; refine pk ?_; exact b0.out) hb); replace b3 := a_ (blk_below (g := j3) (o := .cells #[.slice A1_0 l1_0.length c1_0, .slice A1_1 l1_1.length c1_1] 24 (0, 0)) (by refine pk ?_; refine blk_far ?_ h2.out _; refine pk ?_; refine blk_far ?_ h2.out _; refine pk ?_; exact b3.out) hb); replace b4 := a_ (blk_below (g := h8) (o := .cells #[.slice e5 d2.length e6, .slice e9 d3.length f0] 26 (0, 0)) (by refine pk ?_; refine blk_far ?_ i6.out _; refine pk ?_; refine blk_far ?_ i6.out _; refine pk ?_; exact b4.out) hb); replace c0 := a_ (blk_below (g := n4) (o := .cells #[.slice e7 j5.length e8, .slice f1 j6.length f2] 26 (0, 0)) (by refine pk ?_; refine blk_far ?_ i7.out _; refine pk ?_; refine blk_far ?_ i7.out _; refine pk ?_; exact c0.out) hb); replace c3 := a_ (blk_below (g := n8) (o := .cells #[.slice e1 j7.length e2, .slice e3 j8.length e4] 26 (0, 0)) (by refine pk ?_; refine blk_far ?_ i8.out _; refine pk ?_; refine blk_far ?_ i8.out _; refine pk ?_; exact c3.out) hb); replace b9 := a_ (blk_below (g := n7) (o := .cells #[.slice d4 d0.length d5, .slice d6 d1.length d7] 26 (0, 0)) (by refine pk ?_; refine blk_far ?_ i1.out _; refine pk ?_; refine blk_far ?_ i1.out _; refine pk ?_; exact b9.out) hb); replace d8 := a_ (blk_below (g := j4) (o := .cells #[.slice g7 h7.length g8, .slice g9 i2.length h0] 26 (0, 0)) (by refine pk ?_; refine blk_put (cs := #[.slice g7 h7.length g8, .slice none 0 0]) ?_ 1 _ rfl; refine pk ?_; refine blk_put (cs := #[.slice none 0 0, .slice none 0 0]) ?_ 0 _ rfl; refine pk ?_; exact d8.out) hb); replace HB := a_ (below_step (by repeat (with_reducible first | exact HB.out | refine bz ?_ (by assumption) | apply bA | apply bN | apply bD)) hb); clear hb))
               go_meet
               case rel => exact ⟨_, (true), (by first | rfl | (simp; done) | (simp [*]; done)), H', ⟨by have := x8.out; have := I6.out; first | omega | exact Nat.le_refl _⟩, ⟨by (try simp only [b5, b6, b7, b8]); refine rk ?_; exact Kd.R_mono b1.out (fun _ ⟨_, _, _, _, a, b, c, d, e, f, g, h, i⟩ => ⟨c, d, e, f, g, h, i, a, b⟩)⟩, ⟨by (try simp only [b5, b6, b7, b8]); refine rk ?_; exact Kd.R_mono b2.out (fun _ ⟨_, _, _, _, a, b, c, d, e, f, g, h, i⟩ => ⟨c, d, e, f, g, h, i, a, b⟩)⟩, ⟨by (try simp only [b5, b6, b7, b8]); refine rk ?_; exact Kd.R_mono a6.out (fun _ ⟨_, _, _, _, a, b, c, d, e, f, g, h, i⟩ => ⟨c, d, e, f, g, h, i, a, b⟩)⟩, ⟨by (try simp only [b5, b6, b7, b8]); refine rk ?_; exact Kd.R_mono a7.out (fun _ ⟨_, _, _, _, a, b, c, d, e, f, g, h, i⟩ => ⟨c, d, e, f, g, h, i, a, b⟩)⟩, ⟨by (try simp only [b5, b6, b7, b8]); refine rk ?_; exact Kd.R_mono a8.out (fun _ ⟨_, _, _, _, a, b, c, d, e, f, g, h, i⟩ => ⟨c, d, e, f, g, h, i, a, b⟩)⟩, ⟨by (try simp only [b5, b6, b7, b8]); refine rk ?_; exact Kd.R_mono a9.out (fun _ ⟨_, _, _, _, a, b, c, d, e, f, g, h, i⟩ => ⟨c, d, e, f, g, h, i, a, b⟩)⟩, ⟨by (try simp only [b5, b6, b7, b8]); refine rk ?_; exact Kd.R_mono a4.out (fun _ ⟨_, _, _, _, a, b, c, d, e, f, g, h, i⟩ => ⟨c, d, e, f, g, h, i, a, b⟩)⟩, ⟨by (try simp only [b5, b6, b7, b8]); refine rk ?_; exact Kd.R_mono a5.out (fun _ ⟨_, _, _, _, a, b, c, d, e, f, g, h, i⟩ => ⟨c, d, e, f, g, h, i, a, b⟩)⟩, ⟨by (try simp only [b5, b6, b7, b8]); refine rk ?_; exact Kd.R_mono l7.out (fun _ ⟨_, _, _, _, a, b, c, d, e, f, g, h, i⟩ => ⟨b, c, d, e, f, g, h, i, a⟩)⟩, ⟨by (try simp only [b5, b6, b7, b8]); refine rk ?_; exact Kd.R_mono l8.out (fun _ ⟨_, _, _, _, a, b, c, d, e, f, g, h, i⟩ => ⟨b, c, d, e, f, g, h, i, a⟩)⟩, ⟨by (try simp only [b5, b6, b7, b8]); refine pk ?_; exact b0.out⟩, ⟨by (try simp only [b5, b6, b7, b8]); refine pk ?_; exact b3.out⟩, ⟨by (try simp only [b5, b6, b7, b8]); refine pk ?_; exact b4.out⟩, ⟨by (try simp only [b5, b6, b7, b8]); refine pk ?_; exact c0.out⟩, ⟨by (try simp only [b5, b6, b7, b8]); refine pk ?_; exact c3.out⟩, ⟨by (try simp only [b5, b6, b7, b8]); refine pk ?_; exact b9.out⟩, ⟨by (try simp only [b5, b6, b7, b8]); refine pk ?_; exact d8.out⟩, ⟨by repeat (with_reducible first | exact HB.out | refine bz ?_ (by assumption) | apply bA | apply bN | apply bD)⟩⟩
             case rest =>
              clear HC173
              try clear c1; try clear c2; try clear p2; try clear c8; try clear c10; try clear c14; try clear c19; try clear c20; try clear c21; try clear c22; try clear c198; try clear c199; try clear c200; try clear c201; try clear c202; try clear c203; try clear c204; try clear c206; try clear c207; try clear c208; try clear c209; try clear c210; try clear c213; try clear c214; try clear c215; try clear c216; try clear c217; try clear c218; try clear c220; try clear c221; try clear c222; try clear c223; try clear c224; try clear B5; try clear B6; try clear C0; try clear C1; try clear C4; try clear C5; try clear C8; try clear C9; try clear B7; try clear B9; try clear C2; try clear C3; try clear C6; try clear C7; try clear D0; try clear D1
              obtain ⟨kq, x110_172, rfl, HA, Vt, b1, b2, a6, a7, a8, a9, a4, a5, s4, s5, b0, b3, b4, c0, c3, b9, d8, HB⟩ := hcut
              have f5 := (Kd.R_reads' a4.out).1
              rw [f5] at a4
              (try simp only [f5])
              (try simp only [f5] at b0)
              (try simp only [f5] at b3)
              (try simp only [f5] at b4)
              (try simp only [f5] at c0)
              (try simp only [f5] at c3)
              (try simp only [f5] at b9)
              (try simp only [f5] at d8)
              (try simp only [f5] at b1)
              (try simp only [f5] at b2)
              (try simp only [f5] at a6)
              (try simp only [f5] at a7)
              (try simp only [f5] at a8)
              (try simp only [f5] at a9)
              (try simp only [f5] at a5)
              (try simp only [f5] at s4)
              (try simp only [f5] at s5)
              have f6 := (Kd.R_reads' a5.out).1
              rw [f6] at a5
              (try simp only [f6])
              (try simp only [f6] at b0)
              (try simp only [f6] at b3)
              (try simp only [f6] at b4)
              (try simp only [f6] at c0)
              (try simp only [f6] at c3)
              (try simp only [f6] at b9)
              (try simp only [f6] at d8)
              (try simp only [f6] at b1)
              (try simp only [f6] at b2)
              (try simp only [f6] at a6)
              (try simp only [f6] at a7)
              (try simp only [f6] at a8)
              (try simp only [f6] at a9)
              (try simp only [f6] at a4)
              (try simp only [f6] at s4)
              (try simp only [f6] at s5)
              cases kq with
              | zero => exact absurd HA.out (by simp [laws_FnExactBoxMeet.j2])
              | succ J8 =>
               have H := HA.out
               clear HA
               simp only [laws_FnExactBoxMeet.j2] at H
               by_cases c227 : x110_172 = true
               ·subst c227
                have H1 : (none) = some r := by rw [if_pos rfl] at H; exact H
                clear H
                have H := H1
                clear H1
                exact absurd H (by simp)
               ·replace c227 := Bool.eq_false_iff.mpr c227
                subst c227
                have H1 : ((laws_heldBox.f J8 n9 o0 1).bind fun t297 => (if t297 < 0 then (none) else (if t297 = p4 then (some true) else (none)))) = some r := by rw [if_neg (show ¬ (false = true) by decide)] at H; exact H
                clear H
                have H := H1
                clear H1
                replace H := Option.bind_eq_some_iff.mp H
                obtain ⟨t297, J9, H⟩ := H
                have Yh := Aside0.mk J9
                clear J9
                by_cases c229 : t297 < 0
                ·rw [if_pos c229] at H
                 exact absurd H (by simp)
                ·rw [if_neg c229] at H
                 have Yi : decide (t297 < 0) = false := decide_eq_false c229
                 clear c229
                 by_cases c230 : t297 = p4
                 ·rw [if_pos c230] at H
                  have Yj : (t297 == p4) = true := beq_iff_eq.mpr c230
                  have Yk : (t297 != p4) = false := bne_eq_false_iff_eq.mpr c230
                  clear c230
                  obtain rfl := Option.some.inj H
                  have Yl := n2.out
                  have Ym := k8.out
                  have Yn := n3.out
                  have Yo := k9.out
                  have Yp := l4.out
                  have Yq := j9.out
                  have Yr := m1.out
                  have Ys := k1.out
                  have Yt := m2.out
                  have Yu := k2.out
                  have Yv := i1.out
                  have Yw := k0.out
                  have M9 : wc.cell? ⟨n7, 0, none⟩ = some (.slice d4 n9.length d5) := (blk_cell b9.out 0).trans rfl
                  have N0 : wc.cell? ⟨n7, 1, none⟩ = some (.slice d6 o0.length d7) := (blk_cell b9.out 1).trans rfl
                  have N1 := blk_frozen b9.out 0
                  have N2 := blk_frozen b9.out 1
                  go_wp2_with (first | ((with_reducible refine gate_callee (f := 12) rfl ?_); refine goesL_ (some 113) rfl rfl Try.func12 (by kernel_rfl) rfl #[.agg #[.slice d4 n9.length d5, .slice d6 o0.length d7], .int .i64 1] rfl (by (try simp only [lA, lB, lC]); first | done | rfl | (simp only [lD, lE]; rfl)) ?_; (with_reducible refine (laws_heldBox.calls J8 _ _ n9 _ _ o0 1 t297 _ ?side1 ?side2 ?side3 ?side4 Yh.out).mono ?_); (case side1 => exact cu (Kd.R_reads' a4.out).2.2); (case side2 => exact (Kd.R_reads' a4.out).2.1); (case side3 => exact cu (Kd.R_reads' a5.out).2.2); (case side4 => exact (Kd.R_reads' a5.out).2.1); rintro e Ma ⟨rfl, hb⟩; refine ⟨_, rfl, ?_⟩; replace b1 := a_ (Kd.R_below (rk b1.out) hb); replace b2 := a_ (Kd.R_below (rk b2.out) hb); replace a6 := a_ (Kd.R_below (rk a6.out) hb); replace a7 := a_ (Kd.R_below (rk a7.out) hb); replace a8 := a_ (Kd.R_below (rk a8.out) hb); replace a9 := a_ (Kd.R_below (rk a9.out) hb); replace a4 := a_ (Kd.R_below (rk a4.out) hb); replace a5 := a_ (Kd.R_below (rk a5.out) hb); replace s4 := a_ (Kd.R_below (rk s4.out) hb); replace s5 := a_ (Kd.R_below (rk s5.out) hb); replace b0 := a_ (blk_below (pk b0.out) hb); replace b3 := a_ (blk_below (pk b3.out) hb); replace b4 := a_ (blk_below (pk b4.out) hb); replace c0 := a_ (blk_below (pk c0.out) hb); replace c3 := a_ (blk_below (pk c3.out) hb); replace b9 := a_ (blk_below (pk b9.out) hb); replace d8 := a_ (blk_below (pk d8.out) hb); replace HB := a_ (below_step (by repeat (with_reducible first | exact HB.out | refine bz ?_ (by assumption) | apply bA | apply bN | apply bD)) hb); clear hb))
                  go_ret
                  exact ⟨by first | rfl | (simp [errW_none, errW_some] <;> rfl) | (simp [*, errW_none, errW_some] <;> rfl), by repeat (with_reducible first | exact HB.out | refine bz ?_ (by assumption) | apply bA | apply bN | apply bD)⟩
                 ·rw [if_neg c230] at H
                  exact absurd H (by simp)
            ·rw [if_neg c169] at H
             exact absurd H (by simp)
       ·replace c111 := Bool.eq_false_iff.mpr c111
        subst c111
        have H1 : (none) = some r := by rw [if_neg (show ¬ (false = true) by decide)] at H; exact H
        clear H
        have H := H1
        clear H1
        exact absurd H (by simp)
      ·replace c108 := Bool.eq_false_iff.mpr c108
       subst c108
       have H1 : (none) = some r := by rw [if_neg (show ¬ (false = true) by decide)] at H; exact H
       clear H
       have H := H1
       clear H1
       exact absurd H (by simp)

end Go.Proofs.Ytacdmlnhpjnonaa.PFnExactBoxMeet
