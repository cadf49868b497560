-- Written by a program of this session out of the loaded functions' print; helper lemmas as print.sh lays them.
import Derived.Test.YtineniimpdjpnaaUp2
import Derived.Test.YtineniimpdjpnaaUp
import Derived.Test.YtineniimpdjpnaaRFnHoldx0
import Derived.Test.YtineniimpdjpnaaRFnHoldx1
import Derived.Test.YtineniimpdjpnaaRFnHoldx2
import Derived.Test.YtineniimpdjpnaaRFnHoldx4
import Derived.Test.YtineniimpdjpnaaRFnHoldx6
import Derived.Test.YtineniimpdjpnaaRFnHoldx7
import Derived.Test.YtineniimpdjpnaaRFnHoldx10
import Derived.Test.YtineniimpdjpnaaRFnHoldx11
namespace Go.Proofs.Ytineniimpdjpnaa.PFnHold
open Go.RowKit Go.Proofs.YtineniimpdjpnaaW.PrintWords Go.Proofs.YtineniimpdjpnaaW.PrintLast Go.Proofs.YtineniimpdjpnaaW.PrintMore
attribute [local go_sem] max2_int min2_int max_two min_two max_three min_three max_four min_four  -- for this text's walks alone
set_option linter.unusedVariables false
set_option linter.unusedSimpArgs false

attribute [local go_sem high] eqA27
/-! ### laws_FnHold: function 5 -/
mutual
def laws_FnHold.l0 : Nat → List Int → List Int → List Int → Int → Int → Int → Int → Int → Int → Int → Int → Int → Bool → Int → Int → Int → Bool → Int → Int → Int → Option (Bool)
 | 0, _, _, _, _, _, _, _, _, _, _, _, _, _, _, _, _, _, _, _, _ => none
 | k + 1, x5, x6, x7, x50, x51, x365000, x365001, x365002, x365003, x365004, x365005, x365006, x366000, x366001, x366002, x366003, x375000, x375001, x375002, x375003 => if x51 < x50 then (if 0 ≤ x51 then (if x51 < (x5.length : Int) then (if x51 < (x6.length : Int) then ((impl_HoldStep.f k x365000 x365001 x365002 x365003 x365004 x365005 x365006 x366000 x366001 x366002 x366003 (rd x5 x51) (rd x6 x51)).bind fun bt386 => (if bt386.2.2.2.2 = true then ((spec_GoodHold.f x365000 x365001 x365002 x365003 x365004 x365005 x365006 bt386.1 bt386.2.1 bt386.2.2.1 bt386.2.2.2.1).bind fun t392 => (if t392 = true then (if x51 < (x7.length : Int) then (laws_FnHold.j1 k x5 x6 x7 x51 x50 x51 (bt386.2.2.2.1 != (rd x7 x51)) x365000 x365001 x365002 x365003 x365004 x365005 x365006 x366000 x366001 x366002 x366003 x375000 x375001 x375002 x375003 bt386.1 bt386.2.1 bt386.2.2.1 bt386.2.2.2.1) else (none)) else (laws_FnHold.j1 k x5 x6 x7 x51 x50 x51 true x365000 x365001 x365002 x365003 x365004 x365005 x365006 x366000 x366001 x366002 x366003 x375000 x375001 x375002 x375003 bt386.1 bt386.2.1 bt386.2.2.1 bt386.2.2.2.1))) else (laws_FnHold.j1 k x5 x6 x7 x51 x50 x51 true x365000 x365001 x365002 x365003 x365004 x365005 x365006 x366000 x366001 x366002 x366003 x375000 x375001 x375002 x375003 bt386.1 bt386.2.1 bt386.2.2.1 bt386.2.2.2.1))) else (none)) else (none)) else (none)) else (some (x375000 == x366000 && (x375001 == x366001 && (x375002 == x366002 && (x375003 == x366003)))))
def laws_FnHold.j1 : Nat → List Int → List Int → List Int → Int → Int → Int → Bool → Int → Int → Int → Int → Int → Int → Int → Bool → Int → Int → Int → Bool → Int → Int → Int → Bool → Int → Int → Int → Option (Bool)
 | 0, _, _, _, _, _, _, _, _, _, _, _, _, _, _, _, _, _, _, _, _, _, _, _, _, _, _ => none
 | k + 1, x5, x6, x7, x13, x50, x51, x84, x365000, x365001, x365002, x365003, x365004, x365005, x365006, x366000, x366001, x366002, x366003, x375000, x375001, x375002, x375003, x392000, x392001, x392002, x392003 => if x84 = true then (none) else (if 0 ≤ x13 then (if x13 < (x5.length : Int) then (if x13 < (x6.length : Int) then ((spec_HoldFine.f k x365000 x365001 x365002 x365003 x365004 x365005 x365006 x366000 x366001 x366002 x366003 x392000 x392001 x392002 x392003 (wrap64 ((rd x5 x13) - (rd x6 x13)))).bind fun t396 => (if t396 = true then (laws_FnHold.l0 k x5 x6 x7 x50 (wrap64 (x51 + 1)) x365000 x365001 x365002 x365003 x365004 x365005 x365006 x392000 x392001 x392002 x392003 x375000 x375001 x375002 x375003) else (none))) else (none)) else (none)) else (none))
end
def laws_FnHold.f (k : Nat) (l0 : List Int) : Option (Bool) := if (l0.length : Int) > 1048576 then (some true) else ((spec_DrawRunHold.f k l0).bind fun bt347 => ((impl_RunHold.f k bt347.1 bt347.2.1 bt347.2.2.1 bt347.2.2.2.1 bt347.2.2.2.2.1 bt347.2.2.2.2.2.1 bt347.2.2.2.2.2.2.1 bt347.2.2.2.2.2.2.2.1 bt347.2.2.2.2.2.2.2.2.1 bt347.2.2.2.2.2.2.2.2.2.1 bt347.2.2.2.2.2.2.2.2.2.2.1 bt347.2.2.2.2.2.2.2.2.2.2.2.1 bt347.2.2.2.2.2.2.2.2.2.2.2.2).bind fun bt366 => ((spec_RunHold.f k bt347.1 bt347.2.1 bt347.2.2.1 bt347.2.2.2.1 bt347.2.2.2.2.1 bt347.2.2.2.2.2.1 bt347.2.2.2.2.2.2.1 bt347.2.2.2.2.2.2.2.1 bt347.2.2.2.2.2.2.2.2.1 bt347.2.2.2.2.2.2.2.2.2.1 bt347.2.2.2.2.2.2.2.2.2.2.1 bt347.2.2.2.2.2.2.2.2.2.2.2.1 bt347.2.2.2.2.2.2.2.2.2.2.2.2).bind fun bt375 => (if (bt366.2.2.2.2.2 != bt375.2.2.2.2.2) = true then (none) else (if bt366.2.2.2.2.2 = true then (laws_FnHold.l0 k bt347.2.2.2.2.2.2.2.2.2.2.2.1 bt347.2.2.2.2.2.2.2.2.2.2.2.2 bt366.1 (bt347.2.2.2.2.2.2.2.2.2.2.2.1.length : Int) 0 bt347.1 bt347.2.1 bt347.2.2.1 bt347.2.2.2.1 bt347.2.2.2.2.1 bt347.2.2.2.2.2.1 bt347.2.2.2.2.2.2.1 bt347.2.2.2.2.2.2.2.1 bt347.2.2.2.2.2.2.2.2.1 bt347.2.2.2.2.2.2.2.2.2.1 bt347.2.2.2.2.2.2.2.2.2.2.1 bt366.2.1 bt366.2.2.1 bt366.2.2.2.1 bt366.2.2.2.2.1) else (some true))))))
theorem laws_FnHold.mono_l : ∀ k, (∀ y0 y1 y2 y3 y4 y5 y6 y7 y8 y9 y10 y11 y12 y13 y14 y15 y16 y17 y18 y19, LeO (laws_FnHold.l0 k y0 y1 y2 y3 y4 y5 y6 y7 y8 y9 y10 y11 y12 y13 y14 y15 y16 y17 y18 y19) (laws_FnHold.l0 (k + 1) y0 y1 y2 y3 y4 y5 y6 y7 y8 y9 y10 y11 y12 y13 y14 y15 y16 y17 y18 y19)) ∧ (∀ y0 y1 y2 y3 y4 y5 y6 y7 y8 y9 y10 y11 y12 y13 y14 y15 y16 y17 y18 y19 y20 y21 y22 y23 y24 y25, LeO (laws_FnHold.j1 k y0 y1 y2 y3 y4 y5 y6 y7 y8 y9 y10 y11 y12 y13 y14 y15 y16 y17 y18 y19 y20 y21 y22 y23 y24 y25) (laws_FnHold.j1 (k + 1) y0 y1 y2 y3 y4 y5 y6 y7 y8 y9 y10 y11 y12 y13 y14 y15 y16 y17 y18 y19 y20 y21 y22 y23 y24 y25))
 | 0 => ⟨fun _ _ _ _ _ _ _ _ _ _ _ _ _ _ _ _ _ _ _ _ r h => by simp [laws_FnHold.l0] at h, fun _ _ _ _ _ _ _ _ _ _ _ _ _ _ _ _ _ _ _ _ _ _ _ _ _ _ r h => by simp [laws_FnHold.j1] at h⟩
 | k + 1 => by
  obtain ⟨ih0, ih1⟩ := laws_FnHold.mono_l k
  refine ⟨?_, ?_⟩
  ·intro y0 y1 y2 y3 y4 y5 y6 y7 y8 y9 y10 y11 y12 y13 y14 y15 y16 y17 y18 y19
   unfold laws_FnHold.l0
   repeat' first
   | (with_reducible exact ih0 _ _ _ _ _ _ _ _ _ _ _ _ _ _ _ _ _ _ _ _)
   | (with_reducible exact ih1 _ _ _ _ _ _ _ _ _ _ _ _ _ _ _ _ _ _ _ _ _ _ _ _ _ _)
   | (with_reducible exact impl_HoldStep.mono _ _ _ _ _ _ _ _ _ _ _ _ _ _)
   | (with_reducible exact impl_RunHold.mono _ _ _ _ _ _ _ _ _ _ _ _ _ _)
   | (with_reducible exact spec_DrawRunHold.mono _ _)
   | (with_reducible exact spec_HoldFine.mono _ _ _ _ _ _ _ _ _ _ _ _ _ _ _ _ _)
   | (with_reducible exact spec_RunHold.mono _ _ _ _ _ _ _ _ _ _ _ _ _ _)
   | (with_reducible exact LeO.refl _)
   | (with_reducible exact LeO.none _)
   | (with_reducible refine LeO.ite ?_ ?_)
   | (with_reducible refine LeO.bind ?_ (fun _ => ?_))
   | exact ih0 _ _ _ _ _ _ _ _ _ _ _ _ _ _ _ _ _ _ _ _
   | exact ih1 _ _ _ _ _ _ _ _ _ _ _ _ _ _ _ _ _ _ _ _ _ _ _ _ _ _
   | exact impl_HoldStep.mono _ _ _ _ _ _ _ _ _ _ _ _ _ _
   | exact impl_RunHold.mono _ _ _ _ _ _ _ _ _ _ _ _ _ _
   | exact spec_DrawRunHold.mono _ _
   | exact spec_HoldFine.mono _ _ _ _ _ _ _ _ _ _ _ _ _ _ _ _ _
   | exact spec_RunHold.mono _ _ _ _ _ _ _ _ _ _ _ _ _ _
   | exact LeO.none _
   | refine LeO.ite ?_ ?_
   | refine LeO.bind ?_ (fun _ => ?_)
  ·intro y0 y1 y2 y3 y4 y5 y6 y7 y8 y9 y10 y11 y12 y13 y14 y15 y16 y17 y18 y19 y20 y21 y22 y23 y24 y25
   unfold laws_FnHold.j1
   repeat' first
   | (with_reducible exact ih0 _ _ _ _ _ _ _ _ _ _ _ _ _ _ _ _ _ _ _ _)
   | (with_reducible exact ih1 _ _ _ _ _ _ _ _ _ _ _ _ _ _ _ _ _ _ _ _ _ _ _ _ _ _)
   | (with_reducible exact impl_HoldStep.mono _ _ _ _ _ _ _ _ _ _ _ _ _ _)
   | (with_reducible exact impl_RunHold.mono _ _ _ _ _ _ _ _ _ _ _ _ _ _)
   | (with_reducible exact spec_DrawRunHold.mono _ _)
   | (with_reducible exact spec_HoldFine.mono _ _ _ _ _ _ _ _ _ _ _ _ _ _ _ _ _)
   | (with_reducible exact spec_RunHold.mono _ _ _ _ _ _ _ _ _ _ _ _ _ _)
   | (with_reducible exact LeO.refl _)
   | (with_reducible exact LeO.none _)
   | (with_reducible refine LeO.ite ?_ ?_)
   | (with_reducible refine LeO.bind ?_ (fun _ => ?_))
   | exact ih0 _ _ _ _ _ _ _ _ _ _ _ _ _ _ _ _ _ _ _ _
   | exact ih1 _ _ _ _ _ _ _ _ _ _ _ _ _ _ _ _ _ _ _ _ _ _ _ _ _ _
   | exact impl_HoldStep.mono _ _ _ _ _ _ _ _ _ _ _ _ _ _
   | exact impl_RunHold.mono _ _ _ _ _ _ _ _ _ _ _ _ _ _
   | exact spec_DrawRunHold.mono _ _
   | exact spec_HoldFine.mono _ _ _ _ _ _ _ _ _ _ _ _ _ _ _ _ _
   | exact spec_RunHold.mono _ _ _ _ _ _ _ _ _ _ _ _ _ _
   | exact LeO.none _
   | refine LeO.ite ?_ ?_
   | refine LeO.bind ?_ (fun _ => ?_)
theorem laws_FnHold.mono : ∀ a0 k, LeO (laws_FnHold.f k a0) (laws_FnHold.f (k + 1) a0) := by
 intro a0 k
 obtain ⟨ih0, ih1⟩ := laws_FnHold.mono_l k
 unfold laws_FnHold.f
 repeat' first
   | (with_reducible exact ih0 _ _ _ _ _ _ _ _ _ _ _ _ _ _ _ _ _ _ _ _)
   | (with_reducible exact ih1 _ _ _ _ _ _ _ _ _ _ _ _ _ _ _ _ _ _ _ _ _ _ _ _ _ _)
   | (with_reducible exact impl_HoldStep.mono _ _ _ _ _ _ _ _ _ _ _ _ _ _)
   | (with_reducible exact impl_RunHold.mono _ _ _ _ _ _ _ _ _ _ _ _ _ _)
   | (with_reducible exact spec_DrawRunHold.mono _ _)
   | (with_reducible exact spec_HoldFine.mono _ _ _ _ _ _ _ _ _ _ _ _ _ _ _ _ _)
   | (with_reducible exact spec_RunHold.mono _ _ _ _ _ _ _ _ _ _ _ _ _ _)
   | (with_reducible exact LeO.refl _)
   | (with_reducible exact LeO.none _)
   | (with_reducible refine LeO.ite ?_ ?_)
   | (with_reducible refine LeO.bind ?_ (fun _ => ?_))
   | exact ih0 _ _ _ _ _ _ _ _ _ _ _ _ _ _ _ _ _ _ _ _
   | exact ih1 _ _ _ _ _ _ _ _ _ _ _ _ _ _ _ _ _ _ _ _ _ _ _ _ _ _
   | exact impl_HoldStep.mono _ _ _ _ _ _ _ _ _ _ _ _ _ _
   | exact impl_RunHold.mono _ _ _ _ _ _ _ _ _ _ _ _ _ _
   | exact spec_DrawRunHold.mono _ _
   | exact spec_HoldFine.mono _ _ _ _ _ _ _ _ _ _ _ _ _ _ _ _ _
   | exact spec_RunHold.mono _ _ _ _ _ _ _ _ _ _ _ _ _ _
   | exact LeO.none _
   | refine LeO.ite ?_ ?_
   | refine LeO.bind ?_ (fun _ => ?_)
def laws_FnHold.T13 : Bool × List (List Nat × List Nat) := (true, [([], []), ([], []), ([], []), ([], []), ([2, 3], [2, 3]), ([4], [4]), ([], []), ([], []), ([6, 7], [6, 7]), ([8], [8]), ([0, 1, 5, 9], [0, 1, 5, 9]), ([10], [10]), ([11], [11]), ([11], [11]), ([], []), ([14, 12, 10, 0, 1, 2, 3, 4, 5, 6, 7, 8, 9, 10, 11, 12, 14], [12, 14]), ([13, 15, 0, 1, 2, 3, 4, 5, 6, 7, 8, 9, 10, 11, 12, 13, 14, 15], [13])])
def laws_FnHold.B13 : List Nat := [0, 0, 0, 0, 12, 28, 0, 0, 192, 448, 1023, 2047, 4095, 4095, 0, 24575, 65535]
theorem laws_FnHold.tab13 : rtab .any (opsOf Try.f5 13) = laws_FnHold.T13 := by kernel_rfl
theorem laws_FnHold.bits13 : waitsOk laws_FnHold.T13.2 laws_FnHold.B13 = true := by kernel_rfl
def laws_FnHold.T14 : Bool × List (List Nat × List Nat) := (true, [([], []), ([0], [0]), ([1], [1]), ([2], [2]), ([2], [2]), ([3, 4, 2, 2], [2, 3, 4]), ([5, 2], [2, 5]), ([2, 6], [2, 6]), ([7, 5], [7]), ([8], [8]), ([9, 8], [8, 9]), ([8], [8]), ([8], [8]), ([11, 12, 8], [8, 11, 12]), ([13, 8], [8, 13]), ([10, 14, 8], [8, 10, 14]), ([8, 15], [8, 15])])
def laws_FnHold.B14 : List Nat := [0, 1, 3, 7, 7, 31, 63, 127, 255, 511, 1023, 511, 511, 6655, 14847, 32767, 65535]
theorem laws_FnHold.tab14 : rtab .any (opsOf Try.f5 14) = laws_FnHold.T14 := by kernel_rfl
theorem laws_FnHold.bits14 : waitsOk laws_FnHold.T14.2 laws_FnHold.B14 = true := by kernel_rfl
def laws_FnHold.T16 : Bool × List (List Nat × List Nat) := (true, [([], []), ([], []), ([], []), ([], []), ([], []), ([3, 4], [3, 4]), ([5], [5]), ([], []), ([], []), ([7, 8], [7, 8]), ([9], [9]), ([6, 10], [6, 10]), ([0, 1, 2, 11], [0, 1, 2, 11]), ([12], [12])])
def laws_FnHold.B16 : List Nat := [0, 0, 0, 0, 0, 24, 56, 0, 0, 384, 896, 2040, 4095, 8191]
theorem laws_FnHold.tab16 : rtab .any (opsOf Try.f5 16) = laws_FnHold.T16 := by kernel_rfl
theorem laws_FnHold.bits16 : waitsOk laws_FnHold.T16.2 laws_FnHold.B16 = true := by kernel_rfl
set_option maxHeartbeats 8000000 in
set_option maxRecDepth 100000 in
theorem laws_FnHold.calls (k : Nat) (A0 : Option Addr) (c0 : Nat) (l0 : List Int) (r : Bool) (w : World) (hr0 : Kd.C (Kd.int .u8) w A0 l0.length l0) (hc0 : l0.length ≤ c0) (h : laws_FnHold.f k l0 = some r) :
  Calls Try.prog 5 #[.slice A0 l0.length c0] w fun e w' => e = .returned (.bool r) ∧ Below w.heap.size w w' := by
 have hu30 := Try.underlying30
 have hu27 := Try.underlying27
 have HR0 := Aside0.mk hr0
 have HC0 := Aside0.mk hc0
 clear hr0 hc0
 have HB := a_ (Below.refl w.heap.size w)
 have H : (if (l0.length : Int) > 1048576 then (some true) else ((spec_DrawRunHold.f k l0).bind fun bt347 => ((impl_RunHold.f k bt347.1 bt347.2.1 bt347.2.2.1 bt347.2.2.2.1 bt347.2.2.2.2.1 bt347.2.2.2.2.2.1 bt347.2.2.2.2.2.2.1 bt347.2.2.2.2.2.2.2.1 bt347.2.2.2.2.2.2.2.2.1 bt347.2.2.2.2.2.2.2.2.2.1 bt347.2.2.2.2.2.2.2.2.2.2.1 bt347.2.2.2.2.2.2.2.2.2.2.2.1 bt347.2.2.2.2.2.2.2.2.2.2.2.2).bind fun bt366 => ((spec_RunHold.f k bt347.1 bt347.2.1 bt347.2.2.1 bt347.2.2.2.1 bt347.2.2.2.2.1 bt347.2.2.2.2.2.1 bt347.2.2.2.2.2.2.1 bt347.2.2.2.2.2.2.2.1 bt347.2.2.2.2.2.2.2.2.1 bt347.2.2.2.2.2.2.2.2.2.1 bt347.2.2.2.2.2.2.2.2.2.2.1 bt347.2.2.2.2.2.2.2.2.2.2.2.1 bt347.2.2.2.2.2.2.2.2.2.2.2.2).bind fun bt375 => (if (bt366.2.2.2.2.2 != bt375.2.2.2.2.2) = true then (none) else (if bt366.2.2.2.2.2 = true then (laws_FnHold.l0 k bt347.2.2.2.2.2.2.2.2.2.2.2.1 bt347.2.2.2.2.2.2.2.2.2.2.2.2 bt366.1 (bt347.2.2.2.2.2.2.2.2.2.2.2.1.length : Int) 0 bt347.1 bt347.2.1 bt347.2.2.1 bt347.2.2.2.1 bt347.2.2.2.2.1 bt347.2.2.2.2.2.1 bt347.2.2.2.2.2.2.1 bt347.2.2.2.2.2.2.2.1 bt347.2.2.2.2.2.2.2.2.1 bt347.2.2.2.2.2.2.2.2.2.1 bt347.2.2.2.2.2.2.2.2.2.2.1 bt366.2.1 bt366.2.2.1 bt366.2.2.2.1 bt366.2.2.2.2.1) else (some true))))))) = some r := h
 clear h
 by_cases c2 : (l0.length : Int) > 1048576
 ·rw [if_pos c2] at H
  have c2b0 : decide (1048576 < (l0.length : Int)) = true := decide_eq_true c2
  have c2b1 : decide (1048576 < l0.length) = true := decide_eq_true (by omega)
  clear c2
  obtain rfl := Option.some.inj H
  go_enter Try.func5, Try.ntmps5
  go_wp2
  go_ret
  exact ⟨by first | rfl | (simp [errW_none, errW_some] <;> rfl) | (simp [*, errW_none, errW_some] <;> rfl), un HB.out⟩
 ·rw [if_neg c2] at H
  have c2b0 : decide (1048576 < (l0.length : Int)) = false := decide_eq_false c2
  have c2b1 : decide (1048576 < l0.length) = false := decide_eq_false (by omega)
  clear c2
  replace H := Option.bind_eq_some_iff.mp H
  obtain ⟨⟨t347, t348, t349, t350, t351, t352, t353, t354, t355, t356, t357, t358, t361⟩, A30, H⟩ := H
  replace H : ((impl_RunHold.f k t347 t348 t349 t350 t351 t352 t353 t354 t355 t356 t357 t358 t361).bind fun bt366 => ((spec_RunHold.f k t347 t348 t349 t350 t351 t352 t353 t354 t355 t356 t357 t358 t361).bind fun bt375 => (if (bt366.2.2.2.2.2 != bt375.2.2.2.2.2) = true then (none) else (if bt366.2.2.2.2.2 = true then (laws_FnHold.l0 k t358 t361 bt366.1 (t358.length : Int) 0 t347 t348 t349 t350 t351 t352 t353 t354 t355 t356 t357 bt366.2.1 bt366.2.2.1 bt366.2.2.2.1 bt366.2.2.2.2.1) else (some true))))) = some r := H
  have A3 := Aside0.mk A30
  clear A30
  replace H := Option.bind_eq_some_iff.mp H
  obtain ⟨⟨t366, t369, t370, t371, t372, t373⟩, A40, H⟩ := H
  replace H : ((spec_RunHold.f k t347 t348 t349 t350 t351 t352 t353 t354 t355 t356 t357 t358 t361).bind fun bt375 => (if (t373 != bt375.2.2.2.2.2) = true then (none) else (if t373 = true then (laws_FnHold.l0 k t358 t361 t366 (t358.length : Int) 0 t347 t348 t349 t350 t351 t352 t353 t354 t355 t356 t357 t369 t370 t371 t372) else (some true)))) = some r := H
  have A4 := Aside0.mk A40
  clear A40
  replace H := Option.bind_eq_some_iff.mp H
  obtain ⟨⟨t375, t378, t379, t380, t381, t382⟩, A50, H⟩ := H
  replace H : (if (t373 != t382) = true then (none) else (if t373 = true then (laws_FnHold.l0 k t358 t361 t366 (t358.length : Int) 0 t347 t348 t349 t350 t351 t352 t353 t354 t355 t356 t357 t369 t370 t371 t372) else (some true))) = some r := H
  have A5 := Aside0.mk A50
  clear A50
  by_cases c6 : (t373 != t382) = true
  ·rw [if_pos c6] at H
   exact absurd H (by simp)
  ·rw [if_neg c6] at H
   have c6b0 : (t373 != t382) = false := by simpa using c6
   (try (have c6b1 : decide (t373 = t382) = true := by simpa using c6))
   (try (have c6b2 : (t373 == t382) = true := by simpa using c6))
   clear c6
   by_cases c7 : t373 = true
   ·subst c7
    have H1 : (laws_FnHold.l0 k t358 t361 t366 (t358.length : Int) 0 t347 t348 t349 t350 t351 t352 t353 t354 t355 t356 t357 t369 t370 t371 t372) = some r := by rw [if_pos rfl] at H; exact H
    clear H
    have H := H1
    clear H1
    have H' := Aside0.mk H
    clear H
    go_enter Try.func5, Try.ntmps5
    go_wp2_with (first | ((with_reducible refine gate_callee (f := 21) rfl ?_); refine goesL_ (some 21) rfl rfl Try.func21 (by kernel_rfl) rfl #[.slice A0 l0.length c0] rfl (by (try simp only [lA, lB, lC]); first | done | rfl | (simp only [lD, lE]; rfl)) ?_; (with_reducible refine (spec_DrawRunHold.calls k _ _ l0 t347 t348 t349 t350 t351 t352 t353 t354 t355 t356 t357 t358 t361 _ ?side1 ?side2 A3.out).mono ?_); (case side1 => repeat (first | exact HR0.out | (with_reducible refine Kd.C_alloc ?_ _) | (with_reducible refine Kd.C_drewN ?_ _) | (with_reducible refine Kd.C_drew ?_))); (case side2 => exact HC0.out); rintro e w8 ⟨v359, v362, rfl, ho0, ho1, hb⟩; refine ⟨_, rfl, ?_⟩; have HO360 := a_ (Kd.R_lower ho0 (bs HB.out)); have HO363 := a_ (Kd.R_lower ho1 (bs HB.out)); replace HB := a_ (below_step (un HB.out) hb); clear hb ho0 ho1) | ((with_reducible refine gate_dst (N := 3) rfl ?_); refine box_event ?hg (N := 3) ?hd (cs := #[.int .i64 0, .int .i64 0, .int .i64 0, .int .i64 0, .int .i64 0, .int .i64 0, .int .i64 0]) (t := 30) ?hr ?_; (case hd => rfl); (case hg => rfl); (case hr => first | (go_simp; done) | (go_simp; rfl)); intro gb364 hg w9 hbox hb; replace HO360 := a_ (Kd.R_below (rk HO360.out) hb); replace HO363 := a_ (Kd.R_below (rk HO363.out) hb); have BK364 := a_ (hbox); have GW364 := a_ (bsg hg HB.out); have GE364 := a_ (bsg hg HB.out); replace HB := a_ (below_step (un HB.out) hb); clear hb hbox hg) | ((with_reducible refine gate_dst (N := 4) rfl ?_); refine box_event ?hg (N := 4) ?hd (cs := #[.bool false, .int .i64 0, .int .i64 0, .int .i64 0]) (t := 27) ?hr ?_; (case hd => rfl); (case hg => rfl); (case hr => first | (go_simp; done) | (go_simp; rfl)); intro gb365 hg w10 hbox hb; replace HO360 := a_ (Kd.R_below (rk HO360.out) hb); replace HO363 := a_ (Kd.R_below (rk HO363.out) hb); have BK365 := a_ (hbox); have GW365 := a_ (bsg hg HB.out); have GE365 := a_ (bsg hg HB.out); replace HB := a_ (below_step (by repeat first | (with_reducible first | exact HB.out | refine bz ?_ (by assumption) | apply bA | apply bN | apply bD) | exact HB.out) hb); have NB364_365 := a_ (nel hg BK364.out); have NB365_364 := a_ (nle hg BK364.out); replace BK364 := a_ (blk_below (pk BK364.out) hb); clear hb hbox hg; have hnb11 := NB364_365.out; have hnc11 := NB365_364.out; have hcz12_0 : _ = some (Value.int .i64 0) := (blk_cell BK364.out 0).trans rfl; have hcz12_1 : _ = some (Value.int .i64 0) := (blk_cell BK364.out 1).trans rfl; have hcz12_2 : _ = some (Value.int .i64 0) := (blk_cell BK364.out 2).trans rfl; have hcz12_3 : _ = some (Value.int .i64 0) := (blk_cell BK364.out 3).trans rfl; have hcz12_4 : _ = some (Value.int .i64 0) := (blk_cell BK364.out 4).trans rfl; have hcz12_5 : _ = some (Value.int .i64 0) := (blk_cell BK364.out 5).trans rfl; have hcz12_6 : _ = some (Value.int .i64 0) := (blk_cell BK364.out 6).trans rfl; have hfz12_0 := blk_frozen BK364.out 0; have hfz12_1 := blk_frozen BK364.out 1; have hfz12_2 := blk_frozen BK364.out 2; have hfz12_3 := blk_frozen BK364.out 3; have hfz12_4 := blk_frozen BK364.out 4; have hfz12_5 := blk_frozen BK364.out 5; have hfz12_6 := blk_frozen BK364.out 6; have hcz13_0 : _ = some (Value.bool false) := (blk_cell BK365.out 0).trans rfl; have hcz13_1 : _ = some (Value.int .i64 0) := (blk_cell BK365.out 1).trans rfl; have hcz13_2 : _ = some (Value.int .i64 0) := (blk_cell BK365.out 2).trans rfl; have hcz13_3 : _ = some (Value.int .i64 0) := (blk_cell BK365.out 3).trans rfl; have hfz13_0 := blk_frozen BK365.out 0; have hfz13_1 := blk_frozen BK365.out 1; have hfz13_2 := blk_frozen BK365.out 2; have hfz13_3 := blk_frozen BK365.out 3; obtain ⟨Ao14, co14, eo14⟩ := Kd.R_slice HO360.out; subst eo14; obtain ⟨Ao15, co15, eo15⟩ := Kd.R_slice HO363.out; subst eo15) | ((with_reducible refine gate_callee (f := 10) rfl ?_); refine goesL_ (some 31) rfl rfl Try.func10 (by kernel_rfl) rfl #[.agg #[.int .i64 t347, .int .i64 t348, .int .i64 t349, .int .i64 t350, .int .i64 t351, .int .i64 t352, .int .i64 t353], .agg #[.bool t354, .int .i64 t355, .int .i64 t356, .int .i64 t357], .slice Ao14 t358.length co14, .slice Ao15 t361.length co15] rfl (by (try simp only [lA, lB, lC]); first | done | rfl | (simp only [lD, lE]; rfl)) ?_; (with_reducible refine (impl_RunHold.calls k t347 t348 t349 t350 t351 t352 t353 t354 t355 t356 t357 _ _ t358 _ _ t361 t366 t369 t370 t371 t372 true _ ?side1 ?side2 ?side3 ?side4 A4.out).mono ?_); (case side1 => exact cu (Kd.R_reads' (Kd.R_far (p := ⟨gb365, 3, none⟩) (Kd.R_far (p := ⟨gb365, 2, none⟩) (Kd.R_far (p := ⟨gb365, 1, none⟩) (Kd.R_far (p := ⟨gb365, 0, none⟩) (Kd.R_far (p := ⟨gb364, 6, none⟩) (Kd.R_far (p := ⟨gb364, 5, none⟩) (Kd.R_far (p := ⟨gb364, 4, none⟩) (Kd.R_far (p := ⟨gb364, 3, none⟩) (Kd.R_far (p := ⟨gb364, 2, none⟩) (Kd.R_far (p := ⟨gb364, 1, none⟩) (Kd.R_far (p := ⟨gb364, 0, none⟩) (Kd.R_types (Kd.R_types HO360.out BK364.out (by decide)) BK365.out (by decide)) (fun _ hk => hk.1.2) (.int .i64 t347)) (fun _ hk => hk.1.2) (.int .i64 t348)) (fun _ hk => hk.1.2) (.int .i64 t349)) (fun _ hk => hk.1.2) (.int .i64 t350)) (fun _ hk => hk.1.2) (.int .i64 t351)) (fun _ hk => hk.1.2) (.int .i64 t352)) (fun _ hk => hk.1.2) (.int .i64 t353)) (fun _ hk => hk.2) (.bool t354)) (fun _ hk => hk.2) (.int .i64 t355)) (fun _ hk => hk.2) (.int .i64 t356)) (fun _ hk => hk.2) (.int .i64 t357))).2.2); (case side2 => exact (Kd.R_reads' HO360.out).2.1); (case side3 => exact cu (Kd.R_reads' (Kd.R_far (p := ⟨gb365, 3, none⟩) (Kd.R_far (p := ⟨gb365, 2, none⟩) (Kd.R_far (p := ⟨gb365, 1, none⟩) (Kd.R_far (p := ⟨gb365, 0, none⟩) (Kd.R_far (p := ⟨gb364, 6, none⟩) (Kd.R_far (p := ⟨gb364, 5, none⟩) (Kd.R_far (p := ⟨gb364, 4, none⟩) (Kd.R_far (p := ⟨gb364, 3, none⟩) (Kd.R_far (p := ⟨gb364, 2, none⟩) (Kd.R_far (p := ⟨gb364, 1, none⟩) (Kd.R_far (p := ⟨gb364, 0, none⟩) (Kd.R_types (Kd.R_types HO363.out BK364.out (by decide)) BK365.out (by decide)) (fun _ hk => hk.1.2) (.int .i64 t347)) (fun _ hk => hk.1.2) (.int .i64 t348)) (fun _ hk => hk.1.2) (.int .i64 t349)) (fun _ hk => hk.1.2) (.int .i64 t350)) (fun _ hk => hk.1.2) (.int .i64 t351)) (fun _ hk => hk.1.2) (.int .i64 t352)) (fun _ hk => hk.1.2) (.int .i64 t353)) (fun _ hk => hk.2) (.bool t354)) (fun _ hk => hk.2) (.int .i64 t355)) (fun _ hk => hk.2) (.int .i64 t356)) (fun _ hk => hk.2) (.int .i64 t357))).2.2); (case side4 => exact (Kd.R_reads' HO363.out).2.1); rintro e w16 ⟨v367, rfl, ho0, hb⟩; refine ⟨_, rfl, ?_⟩; have HO368 := a_ (Kd.R_lower (nw (nw ho0 HO360.out) HO363.out) (bs HB.out)); replace HO360 := a_ (Kd.R_elder' (rk (Kd.R_mono (Kd.R_mono (Kd.R_far (p := ⟨gb365, 3, none⟩) (Kd.R_far (p := ⟨gb365, 2, none⟩) (Kd.R_far (p := ⟨gb365, 1, none⟩) (Kd.R_far (p := ⟨gb365, 0, none⟩) (Kd.R_far (p := ⟨gb364, 6, none⟩) (Kd.R_far (p := ⟨gb364, 5, none⟩) (Kd.R_far (p := ⟨gb364, 4, none⟩) (Kd.R_far (p := ⟨gb364, 3, none⟩) (Kd.R_far (p := ⟨gb364, 2, none⟩) (Kd.R_far (p := ⟨gb364, 1, none⟩) (Kd.R_far (p := ⟨gb364, 0, none⟩) (Kd.R_types (Kd.R_types HO360.out BK364.out (by decide)) BK365.out (by decide)) (fun _ hk => hk.1.2) (.int .i64 t347)) (fun _ hk => hk.1.2) (.int .i64 t348)) (fun _ hk => hk.1.2) (.int .i64 t349)) (fun _ hk => hk.1.2) (.int .i64 t350)) (fun _ hk => hk.1.2) (.int .i64 t351)) (fun _ hk => hk.1.2) (.int .i64 t352)) (fun _ hk => hk.1.2) (.int .i64 t353)) (fun _ hk => hk.2) (.bool t354)) (fun _ hk => hk.2) (.int .i64 t355)) (fun _ hk => hk.2) (.int .i64 t356)) (fun _ hk => hk.2) (.int .i64 t357)) (fun _ h_ => h_.1)) (fun _ h_ => h_.1))) (Kd.R_base ho0) hb); replace HO363 := a_ (Kd.R_elder' (rk (Kd.R_mono (Kd.R_mono (Kd.R_far (p := ⟨gb365, 3, none⟩) (Kd.R_far (p := ⟨gb365, 2, none⟩) (Kd.R_far (p := ⟨gb365, 1, none⟩) (Kd.R_far (p := ⟨gb365, 0, none⟩) (Kd.R_far (p := ⟨gb364, 6, none⟩) (Kd.R_far (p := ⟨gb364, 5, none⟩) (Kd.R_far (p := ⟨gb364, 4, none⟩) (Kd.R_far (p := ⟨gb364, 3, none⟩) (Kd.R_far (p := ⟨gb364, 2, none⟩) (Kd.R_far (p := ⟨gb364, 1, none⟩) (Kd.R_far (p := ⟨gb364, 0, none⟩) (Kd.R_types (Kd.R_types HO363.out BK364.out (by decide)) BK365.out (by decide)) (fun _ hk => hk.1.2) (.int .i64 t347)) (fun _ hk => hk.1.2) (.int .i64 t348)) (fun _ hk => hk.1.2) (.int .i64 t349)) (fun _ hk => hk.1.2) (.int .i64 t350)) (fun _ hk => hk.1.2) (.int .i64 t351)) (fun _ hk => hk.1.2) (.int .i64 t352)) (fun _ hk => hk.1.2) (.int .i64 t353)) (fun _ hk => hk.2) (.bool t354)) (fun _ hk => hk.2) (.int .i64 t355)) (fun _ hk => hk.2) (.int .i64 t356)) (fun _ hk => hk.2) (.int .i64 t357)) (fun _ h_ => h_.1)) (fun _ h_ => h_.1))) (Kd.R_base ho0) hb); replace BK364 := a_ (blk_below (g := gb364) (o := .cells #[.int .i64 t347, .int .i64 t348, .int .i64 t349, .int .i64 t350, .int .i64 t351, .int .i64 t352, .int .i64 t353] 30 (0, 0)) (by refine pk ?_; refine blk_far ?_ NB364_365.out _; refine pk ?_; refine blk_far ?_ NB364_365.out _; refine pk ?_; refine blk_far ?_ NB364_365.out _; refine pk ?_; refine blk_far ?_ NB364_365.out _; refine pk ?_; refine blk_put (cs := #[.int .i64 t347, .int .i64 t348, .int .i64 t349, .int .i64 t350, .int .i64 t351, .int .i64 t352, .int .i64 0]) ?_ 6 _ rfl; refine pk ?_; refine blk_put (cs := #[.int .i64 t347, .int .i64 t348, .int .i64 t349, .int .i64 t350, .int .i64 t351, .int .i64 0, .int .i64 0]) ?_ 5 _ rfl; refine pk ?_; refine blk_put (cs := #[.int .i64 t347, .int .i64 t348, .int .i64 t349, .int .i64 t350, .int .i64 0, .int .i64 0, .int .i64 0]) ?_ 4 _ rfl; refine pk ?_; refine blk_put (cs := #[.int .i64 t347, .int .i64 t348, .int .i64 t349, .int .i64 0, .int .i64 0, .int .i64 0, .int .i64 0]) ?_ 3 _ rfl; refine pk ?_; refine blk_put (cs := #[.int .i64 t347, .int .i64 t348, .int .i64 0, .int .i64 0, .int .i64 0, .int .i64 0, .int .i64 0]) ?_ 2 _ rfl; refine pk ?_; refine blk_put (cs := #[.int .i64 t347, .int .i64 0, .int .i64 0, .int .i64 0, .int .i64 0, .int .i64 0, .int .i64 0]) ?_ 1 _ rfl; refine pk ?_; refine blk_put (cs := #[.int .i64 0, .int .i64 0, .int .i64 0, .int .i64 0, .int .i64 0, .int .i64 0, .int .i64 0]) ?_ 0 _ rfl; refine pk ?_; exact BK364.out) hb); replace BK365 := a_ (blk_below (g := gb365) (o := .cells #[.bool t354, .int .i64 t355, .int .i64 t356, .int .i64 t357] 27 (0, 0)) (by refine pk ?_; refine blk_put (cs := #[.bool t354, .int .i64 t355, .int .i64 t356, .int .i64 0]) ?_ 3 _ rfl; refine pk ?_; refine blk_put (cs := #[.bool t354, .int .i64 t355, .int .i64 0, .int .i64 0]) ?_ 2 _ rfl; refine pk ?_; refine blk_put (cs := #[.bool t354, .int .i64 0, .int .i64 0, .int .i64 0]) ?_ 1 _ rfl; refine pk ?_; refine blk_put (cs := #[.bool false, .int .i64 0, .int .i64 0, .int .i64 0]) ?_ 0 _ rfl; refine pk ?_; refine blk_far ?_ NB365_364.out _; refine pk ?_; refine blk_far ?_ NB365_364.out _; refine pk ?_; refine blk_far ?_ NB365_364.out _; refine pk ?_; refine blk_far ?_ NB365_364.out _; refine pk ?_; refine blk_far ?_ NB365_364.out _; refine pk ?_; refine blk_far ?_ NB365_364.out _; refine pk ?_; refine blk_far ?_ NB365_364.out _; refine pk ?_; exact BK365.out) hb); replace HB := a_ (below_step (by repeat first | (with_reducible first | exact HB.out | refine bz ?_ (by assumption) | apply bA | apply bN | apply bD) | exact HB.out) hb); clear hb ho0) | ((with_reducible refine gate_dst (N := 8) rfl ?_); refine box_event ?hg (N := 8) ?hd (cs := #[.bool false, .int .i64 0, .int .i64 0, .int .i64 0]) (t := 27) ?hr ?_; (case hd => rfl); (case hg => rfl); (case hr => first | (go_simp; done) | (go_simp; rfl)); intro gb374 hg w17 hbox hb; replace HO360 := a_ (Kd.R_below (rk HO360.out) hb); replace HO363 := a_ (Kd.R_below (rk HO363.out) hb); replace HO368 := a_ (Kd.R_below (rk HO368.out) hb); have BK374 := a_ (hbox); have GW374 := a_ (bsg hg HB.out); have GE374 := a_ (bsg hg HB.out); replace HB := a_ (below_step (by repeat first | (with_reducible first | exact HB.out | refine bz ?_ (by assumption) | apply bA | apply bN | apply bD) | exact HB.out) hb); have NB364_374 := a_ (nel hg BK364.out); have NB374_364 := a_ (nle hg BK364.out); replace BK364 := a_ (blk_below (pk BK364.out) hb); have NB365_374 := a_ (nel hg BK365.out); have NB374_365 := a_ (nle hg BK365.out); replace BK365 := a_ (blk_below (pk BK365.out) hb); clear hb hbox hg; have hnb18 := NB374_364.out; have hnc18 := NB364_374.out; have hnb19 := NB374_365.out; have hnc19 := NB365_374.out; have hcz20_0 : _ = some (Value.bool false) := (blk_cell BK374.out 0).trans rfl; have hcz20_1 : _ = some (Value.int .i64 0) := (blk_cell BK374.out 1).trans rfl; have hcz20_2 : _ = some (Value.int .i64 0) := (blk_cell BK374.out 2).trans rfl; have hcz20_3 : _ = some (Value.int .i64 0) := (blk_cell BK374.out 3).trans rfl; have hfz20_0 := blk_frozen BK374.out 0; have hfz20_1 := blk_frozen BK374.out 1; have hfz20_2 := blk_frozen BK374.out 2; have hfz20_3 := blk_frozen BK374.out 3; have hcz21_0 : _ = some (Value.int .i64 t347) := (blk_cell BK364.out 0).trans rfl; have hcz21_1 : _ = some (Value.int .i64 t348) := (blk_cell BK364.out 1).trans rfl; have hcz21_2 : _ = some (Value.int .i64 t349) := (blk_cell BK364.out 2).trans rfl; have hcz21_3 : _ = some (Value.int .i64 t350) := (blk_cell BK364.out 3).trans rfl; have hcz21_4 : _ = some (Value.int .i64 t351) := (blk_cell BK364.out 4).trans rfl; have hcz21_5 : _ = some (Value.int .i64 t352) := (blk_cell BK364.out 5).trans rfl; have hcz21_6 : _ = some (Value.int .i64 t353) := (blk_cell BK364.out 6).trans rfl; have hfz21_0 := blk_frozen BK364.out 0; have hfz21_1 := blk_frozen BK364.out 1; have hfz21_2 := blk_frozen BK364.out 2; have hfz21_3 := blk_frozen BK364.out 3; have hfz21_4 := blk_frozen BK364.out 4; have hfz21_5 := blk_frozen BK364.out 5; have hfz21_6 := blk_frozen BK364.out 6; have hcz22_0 : _ = some (Value.bool t354) := (blk_cell BK365.out 0).trans rfl; have hcz22_1 : _ = some (Value.int .i64 t355) := (blk_cell BK365.out 1).trans rfl; have hcz22_2 : _ = some (Value.int .i64 t356) := (blk_cell BK365.out 2).trans rfl; have hcz22_3 : _ = some (Value.int .i64 t357) := (blk_cell BK365.out 3).trans rfl; have hfz22_0 := blk_frozen BK365.out 0; have hfz22_1 := blk_frozen BK365.out 1; have hfz22_2 := blk_frozen BK365.out 2; have hfz22_3 := blk_frozen BK365.out 3) | ((with_reducible refine gate_callee (f := 6) rfl ?_); refine goesL_ (some 40) rfl rfl Try.func6 (by kernel_rfl) rfl #[.agg #[.int .i64 t347, .int .i64 t348, .int .i64 t349, .int .i64 t350, .int .i64 t351, .int .i64 t352, .int .i64 t353], .agg #[.bool t354, .int .i64 t355, .int .i64 t356, .int .i64 t357], .slice Ao14 t358.length co14, .slice Ao15 t361.length co15] rfl (by (try simp only [lA, lB, lC]); first | done | rfl | (simp only [lD, lE]; rfl)) ?_; (with_reducible refine (spec_RunHold.calls k t347 t348 t349 t350 t351 t352 t353 t354 t355 t356 t357 _ _ t358 _ _ t361 t375 t378 t379 t380 t381 t382 _ ?side1 ?side2 ?side3 ?side4 A5.out).mono ?_); (case side1 => exact cu (Kd.R_reads' (fr4 HO360.out BK374.out (by decide) 0 (.bool t369) 1 (.int .i64 t370) 2 (.int .i64 t371) 3 (.int .i64 t372))).2.2); (case side2 => exact (Kd.R_reads' HO360.out).2.1); (case side3 => exact cu (Kd.R_reads' (fr4 HO363.out BK374.out (by decide) 0 (.bool t369) 1 (.int .i64 t370) 2 (.int .i64 t371) 3 (.int .i64 t372))).2.2); (case side4 => exact (Kd.R_reads' HO363.out).2.1); rintro e w23 ⟨v376, rfl, ho0, hb⟩; refine ⟨_, rfl, ?_⟩; have HO377 := a_ (Kd.R_lower (nw (nw (nw ho0 HO360.out) HO363.out) HO368.out) (bs HB.out)); replace HO360 := a_ (Kd.R_elder' (rk (Kd.R_mono (fr4 HO360.out BK374.out (by decide) 0 (.bool t369) 1 (.int .i64 t370) 2 (.int .i64 t371) 3 (.int .i64 t372)) (fun _ h_ => h_.1))) (Kd.R_base ho0) hb); replace HO363 := a_ (Kd.R_elder' (rk (Kd.R_mono (fr4 HO363.out BK374.out (by decide) 0 (.bool t369) 1 (.int .i64 t370) 2 (.int .i64 t371) 3 (.int .i64 t372)) (fun _ h_ => h_.1))) (Kd.R_base ho0) hb); replace HO368 := a_ (Kd.R_elder' (rk (Kd.R_mono (fr4 HO368.out BK374.out (by decide) 0 (.bool t369) 1 (.int .i64 t370) 2 (.int .i64 t371) 3 (.int .i64 t372)) (fun _ h_ => h_.1))) (Kd.R_base ho0) hb); replace BK364 := a_ (blk_below (g := gb364) (o := .cells #[.int .i64 t347, .int .i64 t348, .int .i64 t349, .int .i64 t350, .int .i64 t351, .int .i64 t352, .int .i64 t353] 30 (0, 0)) (by refine pk ?_; refine blk_far ?_ NB364_374.out _; refine pk ?_; refine blk_far ?_ NB364_374.out _; refine pk ?_; refine blk_far ?_ NB364_374.out _; refine pk ?_; refine blk_far ?_ NB364_374.out _; refine pk ?_; exact BK364.out) hb); replace BK365 := a_ (blk_below (g := gb365) (o := .cells #[.bool t354, .int .i64 t355, .int .i64 t356, .int .i64 t357] 27 (0, 0)) (by refine pk ?_; refine blk_far ?_ NB365_374.out _; refine pk ?_; refine blk_far ?_ NB365_374.out _; refine pk ?_; refine blk_far ?_ NB365_374.out _; refine pk ?_; refine blk_far ?_ NB365_374.out _; refine pk ?_; exact BK365.out) hb); replace BK374 := a_ (blk_below (g := gb374) (o := .cells #[.bool t369, .int .i64 t370, .int .i64 t371, .int .i64 t372] 27 (0, 0)) (by refine pk ?_; refine blk_put (cs := #[.bool t369, .int .i64 t370, .int .i64 t371, .int .i64 0]) ?_ 3 _ rfl; refine pk ?_; refine blk_put (cs := #[.bool t369, .int .i64 t370, .int .i64 0, .int .i64 0]) ?_ 2 _ rfl; refine pk ?_; refine blk_put (cs := #[.bool t369, .int .i64 0, .int .i64 0, .int .i64 0]) ?_ 1 _ rfl; refine pk ?_; refine blk_put (cs := #[.bool false, .int .i64 0, .int .i64 0, .int .i64 0]) ?_ 0 _ rfl; refine pk ?_; exact BK374.out) hb); replace HB := a_ (below_step (by repeat first | (with_reducible first | exact HB.out | refine bz ?_ (by assumption) | apply bA | apply bN | apply bD) | exact HB.out) hb); clear hb ho0) | ((with_reducible refine gate_dst (N := 11) rfl ?_); refine box_event ?hg (N := 11) ?hd (cs := #[.bool false, .int .i64 0, .int .i64 0, .int .i64 0]) (t := 27) ?hr ?_; (case hd => rfl); (case hg => rfl); (case hr => first | (go_simp; done) | (go_simp; rfl)); intro gb383 hg w24 hbox hb; replace HO360 := a_ (Kd.R_below (rk HO360.out) hb); replace HO363 := a_ (Kd.R_below (rk HO363.out) hb); replace HO368 := a_ (Kd.R_below (rk HO368.out) hb); replace HO377 := a_ (Kd.R_below (rk HO377.out) hb); have BK383 := a_ (hbox); have GW383 := a_ (bsg hg HB.out); have GE383 := a_ (bsg hg HB.out); replace HB := a_ (below_step (by repeat first | (with_reducible first | exact HB.out | refine bz ?_ (by assumption) | apply bA | apply bN | apply bD) | exact HB.out) hb); have NB364_383 := a_ (nel hg BK364.out); have NB383_364 := a_ (nle hg BK364.out); replace BK364 := a_ (blk_below (pk BK364.out) hb); have NB365_383 := a_ (nel hg BK365.out); have NB383_365 := a_ (nle hg BK365.out); replace BK365 := a_ (blk_below (pk BK365.out) hb); have NB374_383 := a_ (nel hg BK374.out); have NB383_374 := a_ (nle hg BK374.out); replace BK374 := a_ (blk_below (pk BK374.out) hb); clear hb hbox hg; have hnb25 := NB383_364.out; have hnc25 := NB364_383.out; have hnb26 := NB383_365.out; have hnc26 := NB365_383.out; have hnb27 := NB383_374.out; have hnc27 := NB374_383.out; have hcz28_0 : _ = some (Value.bool false) := (blk_cell BK383.out 0).trans rfl; have hcz28_1 : _ = some (Value.int .i64 0) := (blk_cell BK383.out 1).trans rfl; have hcz28_2 : _ = some (Value.int .i64 0) := (blk_cell BK383.out 2).trans rfl; have hcz28_3 : _ = some (Value.int .i64 0) := (blk_cell BK383.out 3).trans rfl; have hfz28_0 := blk_frozen BK383.out 0; have hfz28_1 := blk_frozen BK383.out 1; have hfz28_2 := blk_frozen BK383.out 2; have hfz28_3 := blk_frozen BK383.out 3))
    go_loopg [51] k (fun kq v51 w' => ∃ (x51_1 : Int) (x366000_1 : Bool) (x366001_1 : Int) (x366002_1 : Int) (x366003_1 : Int), v51 = .int .i64 x51_1 ∧ Aside0 (laws_FnHold.l0 kq t358 t361 t366 (t358.length : Int) x51_1 t347 t348 t349 t350 t351 t352 t353 x366000_1 x366001_1 x366002_1 x366003_1 t369 t370 t371 t372 = some r) ∧ Aside0 (kq ≤ k) ∧ Aside0 (Kd.R (Kd.int .i64) 3 w' w.heap.size (fun k_ => some k_ ≠ ((.slice Ao15 t361.length co15) : Value).ownBlock ∧ N_ v367 k_) (.slice Ao14 t358.length co14) t358) ∧ Aside0 (Kd.R (Kd.int .i64) 3 w' w.heap.size (fun k_ => some k_ ≠ ((.slice Ao14 t358.length co14) : Value).ownBlock ∧ N_ v367 k_) (.slice Ao15 t361.length co15) t361) ∧ Aside0 (Kd.R (Kd.int .i64) 3 w' w.heap.size (fun k_ => some k_ ≠ ((.slice Ao14 t358.length co14) : Value).ownBlock ∧ some k_ ≠ ((.slice Ao15 t361.length co15) : Value).ownBlock) v367 t366) ∧ Aside0 (w'.heap[gb364]? = some (.cells #[.int .i64 t347, .int .i64 t348, .int .i64 t349, .int .i64 t350, .int .i64 t351, .int .i64 t352, .int .i64 t353] 30 (0, 0))) ∧ Aside0 (w'.heap[gb365]? = some (.cells #[.bool x366000_1, .int .i64 x366001_1, .int .i64 x366002_1, .int .i64 x366003_1] 27 (0, 0))) ∧ Aside0 (w'.heap[gb374]? = some (.cells #[.bool t369, .int .i64 t370, .int .i64 t371, .int .i64 t372] 27 (0, 0))) ∧ Aside0 (w'.heap[gb383]? = some (.cells #[.bool t378, .int .i64 t379, .int .i64 t380, .int .i64 t381] 27 (0, 0))) ∧ Aside0 (Below w.heap.size w w'))
    case atStart => exact ⟨(0), (t354), (t355), (t356), (t357), (by first | rfl | (simp; done) | (simp [*]; done)), H', ⟨Nat.le_refl _⟩, ⟨rk (Kd.R_mono (fr4 HO360.out BK383.out (by decide) 0 (.bool t378) 1 (.int .i64 t379) 2 (.int .i64 t380) 3 (.int .i64 t381)) (fun _ hk => hk.1.1))⟩, ⟨rk (Kd.R_mono (fr4 HO363.out BK383.out (by decide) 0 (.bool t378) 1 (.int .i64 t379) 2 (.int .i64 t380) 3 (.int .i64 t381)) (fun _ hk => hk.1.1))⟩, ⟨rk (Kd.R_mono (fr4 HO368.out BK383.out (by decide) 0 (.bool t378) 1 (.int .i64 t379) 2 (.int .i64 t380) 3 (.int .i64 t381)) (fun _ hk => ⟨hk.1.1.1.2, hk.1.1.2⟩))⟩, ⟨by refine pk ?_; refine blk_far ?_ NB364_383.out _; refine pk ?_; refine blk_far ?_ NB364_383.out _; refine pk ?_; refine blk_far ?_ NB364_383.out _; refine pk ?_; refine blk_far ?_ NB364_383.out _; refine pk ?_; exact BK364.out⟩, ⟨by refine pk ?_; refine blk_far ?_ NB365_383.out _; refine pk ?_; refine blk_far ?_ NB365_383.out _; refine pk ?_; refine blk_far ?_ NB365_383.out _; refine pk ?_; refine blk_far ?_ NB365_383.out _; refine pk ?_; exact BK365.out⟩, ⟨by refine pk ?_; refine blk_far ?_ NB374_383.out _; refine pk ?_; refine blk_far ?_ NB374_383.out _; refine pk ?_; refine blk_far ?_ NB374_383.out _; refine pk ?_; refine blk_far ?_ NB374_383.out _; refine pk ?_; exact BK374.out⟩, ⟨by refine pk ?_; refine blk_put (cs := #[.bool t378, .int .i64 t379, .int .i64 t380, .int .i64 0]) ?_ 3 _ rfl; refine pk ?_; refine blk_put (cs := #[.bool t378, .int .i64 t379, .int .i64 0, .int .i64 0]) ?_ 2 _ rfl; refine pk ?_; refine blk_put (cs := #[.bool t378, .int .i64 0, .int .i64 0, .int .i64 0]) ?_ 1 _ rfl; refine pk ?_; refine blk_put (cs := #[.bool false, .int .i64 0, .int .i64 0, .int .i64 0]) ?_ 0 _ rfl; refine pk ?_; exact BK383.out⟩, ⟨by repeat first | (with_reducible first | exact HB.out | refine bz ?_ (by assumption) | apply bA | apply bN | apply bD) | exact HB.out⟩⟩
    case round =>
     clear H'
     try clear c1
     try clear c2
     try clear c2b0
     try clear c2b1
     try clear p2
     try clear c5
     try clear c6
     try clear c6b0
     try clear c6b1
     try clear c6b2
     try clear c7
     try clear c10
     try clear c11
     try clear c18
     try clear c19
     try clear c21
     try clear c25
     try clear c26
     try clear c27
     try clear hcz12_0
     try clear hcz12_1
     try clear hcz12_2
     try clear hcz12_3
     try clear hcz12_4
     try clear hcz12_5
     try clear hcz12_6
     try clear hcz13_0
     try clear hcz13_1
     try clear hcz13_2
     try clear hcz13_3
     try clear hcz20_0
     try clear hcz20_1
     try clear hcz20_2
     try clear hcz20_3
     try clear hcz21_0
     try clear hcz21_1
     try clear hcz21_2
     try clear hcz21_3
     try clear hcz21_4
     try clear hcz21_5
     try clear hcz21_6
     try clear hcz22_0
     try clear hcz22_1
     try clear hcz22_2
     try clear hcz22_3
     try clear hcz28_0
     try clear hcz28_1
     try clear hcz28_2
     try clear hcz28_3
     try clear hfz12_0
     try clear hfz12_1
     try clear hfz12_2
     try clear hfz12_3
     try clear hfz12_4
     try clear hfz12_5
     try clear hfz12_6
     try clear hfz13_0
     try clear hfz13_1
     try clear hfz13_2
     try clear hfz13_3
     try clear hfz20_0
     try clear hfz20_1
     try clear hfz20_2
     try clear hfz20_3
     try clear hfz21_0
     try clear hfz21_1
     try clear hfz21_2
     try clear hfz21_3
     try clear hfz21_4
     try clear hfz21_5
     try clear hfz21_6
     try clear hfz22_0
     try clear hfz22_1
     try clear hfz22_2
     try clear hfz22_3
     try clear hfz28_0
     try clear hfz28_1
     try clear hfz28_2
     try clear hfz28_3
     obtain ⟨x51_1, x366000_1, x366001_1, x366002_1, x366003_1, rfl, HA, HK1, HO_5, HO_6, HO_7, BK364, BK365, BK374, BK383, HB⟩ := hrel
     cases gk with
     | zero => exact absurd HA.out (by simp [laws_FnHold.l0])
     | succ k1 =>
      have H := HA.out
      clear HA
      simp only [laws_FnHold.l0] at H
      by_cases c29 : x51_1 < (t358.length : Int)
      ·rw [if_pos c29] at H
       have c29b0 : decide (x51_1 < (t358.length : Int)) = true := decide_eq_true c29
       clear c29
       by_cases c30 : 0 ≤ x51_1
       ·rw [if_pos c30] at H
        have c30b0 : decide (0 ≤ x51_1) = true := decide_eq_true c30
        clear c30
        by_cases c31 : x51_1 < (t358.length : Int)
        ·rw [if_pos c31] at H
         have c31b0 : decide (x51_1 < (t358.length : Int)) = true := decide_eq_true c31
         clear c31
         by_cases c32 : x51_1 < (t361.length : Int)
         ·rw [if_pos c32] at H
          have c32b0 : decide (x51_1 < (t361.length : Int)) = true := decide_eq_true c32
          clear c32
          replace H := Option.bind_eq_some_iff.mp H
          obtain ⟨⟨t386, t387, t388, t389, t390⟩, A330, H⟩ := H
          replace H : (if t390 = true then ((spec_GoodHold.f t347 t348 t349 t350 t351 t352 t353 t386 t387 t388 t389).bind fun t392 => (if t392 = true then (if x51_1 < (t366.length : Int) then (laws_FnHold.j1 k1 t358 t361 t366 x51_1 (t358.length : Int) x51_1 (t389 != (rd t366 x51_1)) t347 t348 t349 t350 t351 t352 t353 x366000_1 x366001_1 x366002_1 x366003_1 t369 t370 t371 t372 t386 t387 t388 t389) else (none)) else (laws_FnHold.j1 k1 t358 t361 t366 x51_1 (t358.length : Int) x51_1 true t347 t348 t349 t350 t351 t352 t353 x366000_1 x366001_1 x366002_1 x366003_1 t369 t370 t371 t372 t386 t387 t388 t389))) else (laws_FnHold.j1 k1 t358 t361 t366 x51_1 (t358.length : Int) x51_1 true t347 t348 t349 t350 t351 t352 t353 x366000_1 x366001_1 x366002_1 x366003_1 t369 t370 t371 t372 t386 t387 t388 t389)) = some r := H
          have A33 := Aside0.mk A330
          clear A330
          have HC34 := Aside0.mk H
          clear H
          try go_wp2
          replace HO_5 := a_ (Kd.R_drew HO_5.out)
          replace HO_6 := a_ (Kd.R_drew HO_6.out)
          replace HO_7 := a_ (Kd.R_drew HO_7.out)
          replace BK364 := a_ (blk_drew BK364.out)
          replace BK365 := a_ (blk_drew BK365.out)
          replace BK374 := a_ (blk_drew BK374.out)
          replace BK383 := a_ (blk_drew BK383.out)
          replace HB := a_ (below_drew1 HB.out)
          (first | (obtain ⟨Ao384, co384, eo384⟩ := Kd.R_slice HO_5.out; subst eo384) | skip)
          have p384 : 0 ≤ (x51_1 : Int) := of_decide_eq_true (by first | (with_reducible assumption) | assumption)
          have q384 : x51_1 < (t358.length : Int) := of_decide_eq_true (by first | (with_reducible assumption) | assumption)
          obtain ⟨ad384, e384, hx384_0⟩ := Kd.at_int (Kd.R_reads' HO_5.out).2.2 x51_1 p384 q384
          cases e384
          replace p384 := eq_true p384
          replace q384 := eq_true q384
          (first | (obtain ⟨Ao385, co385, eo385⟩ := Kd.R_slice HO_6.out; subst eo385) | skip)
          have p385 : 0 ≤ (x51_1 : Int) := of_decide_eq_true (by first | (with_reducible assumption) | assumption)
          have q385 : x51_1 < (t361.length : Int) := of_decide_eq_true (by first | (with_reducible assumption) | assumption)
          obtain ⟨ad385, e385, hx385_0⟩ := Kd.at_int (Kd.R_reads' HO_6.out).2.2 x51_1 p385 q385
          cases e385
          replace p385 := eq_true p385
          replace q385 := eq_true q385
          refine start_ (n := 17) (S := fun w' => True) (ds := []) #[false, false, false, false, false, false, false, false, false, false, false, false, false, false, false, false, false] (by kernel_rfl) rfl rfl trivial (fun hHeld => ?_); refine with_tabW laws_FnHold.tab13 laws_FnHold.bits13 (fun HT_ HW_ => ?_)
          generalize wr.drew = w35 at HO_5 HO_6 HO_7 BK364 BK365 BK374 BK383 HB hx384_0 hx385_0 hHeld ⊢
          refine pure_ (i := 2) (N := some 57) (v := ?_) (a' := ?_) #[false, false, true, false, false, false, false, false, false, false, false, false, false, false, false, false, false] rfl rfl (any_of HT_.out (by kernel_rfl)) (fun _ _ _ h => h) (Or.inl ⟨by rfl, ?_⟩) ?_ ?_
          rotate_left
          ·intro w'
           go_simp
           with_reducible rfl
          rotate_left
          ·simp only [Act.put, List.setIfInBounds_toArray, List.set_cons_zero, List.set_cons_succ, i64_w, i32_w]
           rfl
          refine pure_ (i := 3) (N := some 58) (v := ?_) (a' := ?_) #[false, false, true, true, false, false, false, false, false, false, false, false, false, false, false, false, false] rfl rfl (any_of HT_.out (by kernel_rfl)) (fun _ _ _ h => h) (Or.inl ⟨by rfl, ?_⟩) ?_ ?_
          rotate_left
          ·intro w'
           go_simp
           with_reducible rfl
          rotate_left
          ·simp only [Act.put, List.setIfInBounds_toArray, List.set_cons_zero, List.set_cons_succ, i64_w, i32_w]
           rfl
          refine pure_ (i := 6) (N := some 61) (v := ?_) (a' := ?_) #[false, false, true, true, false, false, true, false, false, false, false, false, false, false, false, false, false] rfl rfl (any_of HT_.out (by kernel_rfl)) (fun _ _ _ h => h) (Or.inl ⟨by rfl, ?_⟩) ?_ ?_
          rotate_left
          ·intro w'
           go_simp
           with_reducible rfl
          rotate_left
          ·simp only [Act.put, List.setIfInBounds_toArray, List.set_cons_zero, List.set_cons_succ, i64_w, i32_w]
           rfl
          refine pure_ (i := 7) (N := some 62) (v := ?_) (a' := ?_) #[false, false, true, true, false, false, true, true, false, false, false, false, false, false, false, false, false] rfl rfl (any_of HT_.out (by kernel_rfl)) (fun _ _ _ h => h) (Or.inl ⟨by rfl, ?_⟩) ?_ ?_
          rotate_left
          ·intro w'
           go_simp
           with_reducible rfl
          rotate_left
          ·simp only [Act.put, List.setIfInBounds_toArray, List.set_cons_zero, List.set_cons_succ, i64_w, i32_w]
           rfl
          refine inv_at [0, 1, 4, 5, 8, 9, 10, 11, 12, 13, 14, 15, 16] (fun a0_ b a w' => ∃ (gb391 : Nat) (m14_ : Value), a = putSel a0_ b [(0, 55, .agg #[.int .i64 t347, .int .i64 t348, .int .i64 t349, .int .i64 t350, .int .i64 t351, .int .i64 t352, .int .i64 t353]), (1, 56, .agg #[.bool x366000_1, .int .i64 x366001_1, .int .i64 x366002_1, .int .i64 x366003_1]), (4, 59, .pointer (some (ad384.add (x51_1).toNat))), (5, 60, .int .i64 (rd t358 x51_1)), (8, 63, .pointer (some (ad385.add (x51_1).toNat))), (9, 64, .int .i64 (rd t361 x51_1)), (10, 65, .tuple #[.agg #[.bool t386, .int .i64 t387, .int .i64 t388, .int .i64 t389], .bool t390]), (11, 54, .tuple #[.agg #[.bool t386, .int .i64 t387, .int .i64 t388, .int .i64 t389], .bool t390]), (12, 66, .agg #[.bool t386, .int .i64 t387, .int .i64 t388, .int .i64 t389]), (13, 67, .bool t390), (14, 14, m14_), (16, 15, .bool t390)] ∧ (Kd.R (Kd.int .i64) 3 w' w.heap.size (fun k_ => some k_ ≠ (.slice (some ad385) t361.length co15 : Value).ownBlock ∧ N_ v367 k_) (.slice (some ad384) t358.length co14) t358) ∧ (Kd.R (Kd.int .i64) 3 w' w.heap.size (fun k_ => some k_ ≠ (.slice (some ad384) t358.length co14 : Value).ownBlock ∧ N_ v367 k_) (.slice (some ad385) t361.length co15) t361) ∧ (Kd.R (Kd.int .i64) 3 w' w.heap.size (fun k_ => some k_ ≠ (.slice (some ad384) t358.length co14 : Value).ownBlock ∧ some k_ ≠ (.slice (some ad385) t361.length co15 : Value).ownBlock) v367 t366) ∧ (w'.heap[gb364]? = some (.cells #[.int .i64 t347, .int .i64 t348, .int .i64 t349, .int .i64 t350, .int .i64 t351, .int .i64 t352, .int .i64 t353] 30 (0, 0))) ∧ (w'.heap[gb365]? = some (.cells #[.bool x366000_1, .int .i64 x366001_1, .int .i64 x366002_1, .int .i64 x366003_1] 27 (0, 0))) ∧ (w'.heap[gb374]? = some (.cells #[.bool t369, .int .i64 t370, .int .i64 t371, .int .i64 t372] 27 (0, 0))) ∧ (w'.heap[gb383]? = some (.cells #[.bool t378, .int .i64 t379, .int .i64 t380, .int .i64 t381] 27 (0, 0))) ∧ (Below w.heap.size w w') ∧ (b 14 = true → b 15 = false → w'.heap[gb391]? = some (.cells #[.bool false, .int .i64 0, .int .i64 0, .int .i64 0] 27 (0, 0))) ∧ (b 14 = true → w.heap.size ≤ gb391) ∧ (b 14 = true → w.heap.size ≤ gb391) ∧ (b 14 = true → gb364 ≠ gb391) ∧ (b 14 = true → gb391 ≠ gb364) ∧ (b 14 = true → gb365 ≠ gb391) ∧ (b 14 = true → gb391 ≠ gb365) ∧ (b 14 = true → gb374 ≠ gb391) ∧ (b 14 = true → gb391 ≠ gb374) ∧ (b 14 = true → gb383 ≠ gb391) ∧ (b 14 = true → gb391 ≠ gb383) ∧ (b 15 = true → w'.heap[gb391]? = some (.cells #[.bool t386, .int .i64 t387, .int .i64 t388, .int .i64 t389] 27 (0, 0))) ∧ (b 14 = true → (m14_ : Value) = .pointer (some ⟨gb391, 0, none⟩))) HT_.out HW_.out (by kernel_rfl) (by kernel_rfl) ?_ ?_ ?_
          ·exact ⟨0, .bool false, by simp only [putSel, Bool.false_eq_true, if_false], HO_5.out, HO_6.out, HO_7.out, BK364.out, BK365.out, BK374.out, BK383.out, HB.out, fun h_ => absurd h_ (by decide), fun h_ => absurd h_ (by decide), fun h_ => absurd h_ (by decide), fun h_ => absurd h_ (by decide), fun h_ => absurd h_ (by decide), fun h_ => absurd h_ (by decide), fun h_ => absurd h_ (by decide), fun h_ => absurd h_ (by decide), fun h_ => absurd h_ (by decide), fun h_ => absurd h_ (by decide), fun h_ => absurd h_ (by decide), fun h_ => absurd h_ (by decide), fun h_ => absurd h_ (by decide)⟩
          ·skip
           clear BK364 BK365 BK374 BK383 HB HO_5 HO_6 HO_7
           refine steps_cons ?_ ?_
           ·rintro b a w' ⟨gb391, m14_, ha, Q_HO_5, Q_HO_6, Q_HO_7, Q_BK364, Q_BK365, Q_BK374, Q_BK383, Q_HB, Q_BK391, Q_GW391, Q_GE391, Q_NB364_391, Q_NB391_364, Q_NB365_391, Q_NB391_365, Q_NB374_391, Q_NB391_374, Q_NB383_391, Q_NB391_383, Q_BK391_e15, Q_X14_⟩ hb_ hon hoff
            refine ⟨_, rfl, fun K hK => ?_⟩
            have e3 : a.tmps[3]? = some (.pointer (some ⟨gb364, 0, none⟩)) := by rw [ha]; exact (putSel_off rfl).trans rfl
            replace ha := Aside0.mk ha
            have HO_5 := Aside0.mk Q_HO_5
            have HO_6 := Aside0.mk Q_HO_6
            have HO_7 := Aside0.mk Q_HO_7
            have BK364 := Aside0.mk Q_BK364
            have BK365 := Aside0.mk Q_BK365
            have BK374 := Aside0.mk Q_BK374
            have BK383 := Aside0.mk Q_BK383
            have HB := Aside0.mk Q_HB
            have hc0_ : w'.cell? ⟨gb364, 0, none⟩ = some (.int .i64 t347) := (blk_cell BK364.out 0).trans rfl
            have hc1_ : w'.cell? ⟨gb364, 1, none⟩ = some (.int .i64 t348) := (blk_cell BK364.out 1).trans rfl
            have hc2_ : w'.cell? ⟨gb364, 2, none⟩ = some (.int .i64 t349) := (blk_cell BK364.out 2).trans rfl
            have hc3_ : w'.cell? ⟨gb364, 3, none⟩ = some (.int .i64 t350) := (blk_cell BK364.out 3).trans rfl
            have hc4_ : w'.cell? ⟨gb364, 4, none⟩ = some (.int .i64 t351) := (blk_cell BK364.out 4).trans rfl
            have hc5_ : w'.cell? ⟨gb364, 5, none⟩ = some (.int .i64 t352) := (blk_cell BK364.out 5).trans rfl
            have hc6_ : w'.cell? ⟨gb364, 6, none⟩ = some (.int .i64 t353) := (blk_cell BK364.out 6).trans rfl
            refine value_ (w1 := w') (v := .agg #[.int .i64 t347, .int .i64 t348, .int .i64 t349, .int .i64 t350, .int .i64 t351, .int .i64 t352, .int .i64 t353]) (by rfl) rfl ?_ ?_
            ·go_simp
             (try simp only [i64_w])
             try rfl
            refine hK.out _ _ ⟨gb391, m14_, (by rw [ha.out]; exact putSel_upk 0 hb_ rfl rfl rfl), Q_HO_5, Q_HO_6, Q_HO_7, Q_BK364, Q_BK365, Q_BK374, Q_BK383, Q_HB, Q_BK391, Q_GW391, Q_GE391, Q_NB364_391, Q_NB391_364, Q_NB365_391, Q_NB391_365, Q_NB374_391, Q_NB391_374, Q_NB383_391, Q_NB391_383, ab (hoff 15 (by kernel_rfl)) (by decide), Q_X14_⟩
           refine steps_cons ?_ ?_
           ·rintro b a w' ⟨gb391, m14_, ha, Q_HO_5, Q_HO_6, Q_HO_7, Q_BK364, Q_BK365, Q_BK374, Q_BK383, Q_HB, Q_BK391, Q_GW391, Q_GE391, Q_NB364_391, Q_NB391_364, Q_NB365_391, Q_NB391_365, Q_NB374_391, Q_NB391_374, Q_NB383_391, Q_NB391_383, Q_BK391_e15, Q_X14_⟩ hb_ hon hoff
            refine ⟨_, rfl, fun K hK => ?_⟩
            have e4 : a.tmps[4]? = some (.pointer (some ⟨gb365, 0, none⟩)) := by rw [ha]; exact (putSel_off rfl).trans rfl
            replace ha := Aside0.mk ha
            have HO_5 := Aside0.mk Q_HO_5
            have HO_6 := Aside0.mk Q_HO_6
            have HO_7 := Aside0.mk Q_HO_7
            have BK364 := Aside0.mk Q_BK364
            have BK365 := Aside0.mk Q_BK365
            have BK374 := Aside0.mk Q_BK374
            have BK383 := Aside0.mk Q_BK383
            have HB := Aside0.mk Q_HB
            have hc0_ : w'.cell? ⟨gb365, 0, none⟩ = some (.bool x366000_1) := (blk_cell BK365.out 0).trans rfl
            have hc1_ : w'.cell? ⟨gb365, 1, none⟩ = some (.int .i64 x366001_1) := (blk_cell BK365.out 1).trans rfl
            have hc2_ : w'.cell? ⟨gb365, 2, none⟩ = some (.int .i64 x366002_1) := (blk_cell BK365.out 2).trans rfl
            have hc3_ : w'.cell? ⟨gb365, 3, none⟩ = some (.int .i64 x366003_1) := (blk_cell BK365.out 3).trans rfl
            refine value_ (w1 := w') (v := .agg #[.bool x366000_1, .int .i64 x366001_1, .int .i64 x366002_1, .int .i64 x366003_1]) (by rfl) rfl ?_ ?_
            ·go_simp
             (try simp only [i64_w])
             try rfl
            refine hK.out _ _ ⟨gb391, m14_, (by rw [ha.out]; exact putSel_upk 1 hb_ rfl rfl rfl), Q_HO_5, Q_HO_6, Q_HO_7, Q_BK364, Q_BK365, Q_BK374, Q_BK383, Q_HB, Q_BK391, Q_GW391, Q_GE391, Q_NB364_391, Q_NB391_364, Q_NB365_391, Q_NB391_365, Q_NB374_391, Q_NB391_374, Q_NB383_391, Q_NB391_383, ab (hoff 15 (by kernel_rfl)) (by decide), Q_X14_⟩
           refine steps_cons ?_ ?_
           ·rintro b a w' ⟨gb391, m14_, ha, Q_HO_5, Q_HO_6, Q_HO_7, Q_BK364, Q_BK365, Q_BK374, Q_BK383, Q_HB, Q_BK391, Q_GW391, Q_GE391, Q_NB364_391, Q_NB391_364, Q_NB365_391, Q_NB391_365, Q_NB374_391, Q_NB391_374, Q_NB383_391, Q_NB391_383, Q_BK391_e15, Q_X14_⟩ hb_ hon hoff
            refine ⟨_, rfl, fun K hK => ?_⟩
            have e57 : a.tmps[57]? = some (.slice (some ad384) t358.length co14) := by rw [ha]; exact (putSel_off rfl).trans rfl
            have e58 : a.tmps[58]? = some (.int .i64 x51_1) := by rw [ha]; exact (putSel_off rfl).trans rfl
            replace ha := Aside0.mk ha
            have HO_5 := Aside0.mk Q_HO_5
            have HO_6 := Aside0.mk Q_HO_6
            have HO_7 := Aside0.mk Q_HO_7
            have BK364 := Aside0.mk Q_BK364
            have BK365 := Aside0.mk Q_BK365
            have BK374 := Aside0.mk Q_BK374
            have BK383 := Aside0.mk Q_BK383
            have HB := Aside0.mk Q_HB
            refine value_ (w1 := w') (v := .pointer (some (ad384.add (x51_1).toNat))) (by rfl) rfl ?_ ?_
            ·go_simp
             (try simp only [i64_w])
             try rfl
            refine hK.out _ _ ⟨gb391, m14_, (by rw [ha.out]; exact putSel_upk 2 hb_ rfl rfl rfl), Q_HO_5, Q_HO_6, Q_HO_7, Q_BK364, Q_BK365, Q_BK374, Q_BK383, Q_HB, Q_BK391, Q_GW391, Q_GE391, Q_NB364_391, Q_NB391_364, Q_NB365_391, Q_NB391_365, Q_NB374_391, Q_NB391_374, Q_NB383_391, Q_NB391_383, ab (hoff 15 (by kernel_rfl)) (by decide), Q_X14_⟩
           refine steps_cons ?_ ?_
           ·rintro b a w' ⟨gb391, m14_, ha, Q_HO_5, Q_HO_6, Q_HO_7, Q_BK364, Q_BK365, Q_BK374, Q_BK383, Q_HB, Q_BK391, Q_GW391, Q_GE391, Q_NB364_391, Q_NB391_364, Q_NB365_391, Q_NB391_365, Q_NB374_391, Q_NB391_374, Q_NB383_391, Q_NB391_383, Q_BK391_e15, Q_X14_⟩ hb_ hon hoff
            refine ⟨_, rfl, fun K hK => ?_⟩
            have e59 : a.tmps[59]? = some (.pointer (some (ad384.add (x51_1).toNat))) := by rw [ha]; exact putSel_on (e := (4, 59, .pointer (some (ad384.add (x51_1).toNat)))) 2 rfl rfl (hon 4 (by kernel_rfl)) rfl
            replace ha := Aside0.mk ha
            have HO_5 := Aside0.mk Q_HO_5
            have HO_6 := Aside0.mk Q_HO_6
            have HO_7 := Aside0.mk Q_HO_7
            have BK364 := Aside0.mk Q_BK364
            have BK365 := Aside0.mk Q_BK365
            have BK374 := Aside0.mk Q_BK374
            have BK383 := Aside0.mk Q_BK383
            have HB := Aside0.mk Q_HB
            obtain ⟨ad384_z, e384_z, hx384_0_z⟩ := Kd.at_int (Kd.R_reads' HO_5.out).2.2 x51_1 (of_eq_true p384) (of_eq_true q384)
            cases e384_z
            have hs0_ : w'.cell? (ad384.add (x51_1).toNat) = some (.int .i64 (rd t358 x51_1)) := (by first | exact hx384_0_z | (have h_ := hx384_0_z; (try simp only [Int.reduceToNat, Nat.zero_mul, Nat.reduceMul, Nat.reduceEqDiff, Go.Addr.add, ↓reduceIte, Addr.add_zero'] at h_); exact h_))
            refine value_ (w1 := w') (v := .int .i64 (rd t358 x51_1)) (by rfl) rfl ?_ ?_
            ·go_simp
             (try simp only [i64_w])
             try rfl
            refine hK.out _ _ ⟨gb391, m14_, (by rw [ha.out]; exact putSel_upk 3 hb_ rfl rfl rfl), Q_HO_5, Q_HO_6, Q_HO_7, Q_BK364, Q_BK365, Q_BK374, Q_BK383, Q_HB, Q_BK391, Q_GW391, Q_GE391, Q_NB364_391, Q_NB391_364, Q_NB365_391, Q_NB391_365, Q_NB374_391, Q_NB391_374, Q_NB383_391, Q_NB391_383, ab (hoff 15 (by kernel_rfl)) (by decide), Q_X14_⟩
           refine steps_cons ?_ ?_
           ·rintro b a w' ⟨gb391, m14_, ha, Q_HO_5, Q_HO_6, Q_HO_7, Q_BK364, Q_BK365, Q_BK374, Q_BK383, Q_HB, Q_BK391, Q_GW391, Q_GE391, Q_NB364_391, Q_NB391_364, Q_NB365_391, Q_NB391_365, Q_NB374_391, Q_NB391_374, Q_NB383_391, Q_NB391_383, Q_BK391_e15, Q_X14_⟩ hb_ hon hoff
            refine ⟨_, rfl, fun K hK => ?_⟩
            have e61 : a.tmps[61]? = some (.slice (some ad385) t361.length co15) := by rw [ha]; exact (putSel_off rfl).trans rfl
            have e62 : a.tmps[62]? = some (.int .i64 x51_1) := by rw [ha]; exact (putSel_off rfl).trans rfl
            replace ha := Aside0.mk ha
            have HO_5 := Aside0.mk Q_HO_5
            have HO_6 := Aside0.mk Q_HO_6
            have HO_7 := Aside0.mk Q_HO_7
            have BK364 := Aside0.mk Q_BK364
            have BK365 := Aside0.mk Q_BK365
            have BK374 := Aside0.mk Q_BK374
            have BK383 := Aside0.mk Q_BK383
            have HB := Aside0.mk Q_HB
            refine value_ (w1 := w') (v := .pointer (some (ad385.add (x51_1).toNat))) (by rfl) rfl ?_ ?_
            ·go_simp
             (try simp only [i64_w])
             try rfl
            refine hK.out _ _ ⟨gb391, m14_, (by rw [ha.out]; exact putSel_upk 4 hb_ rfl rfl rfl), Q_HO_5, Q_HO_6, Q_HO_7, Q_BK364, Q_BK365, Q_BK374, Q_BK383, Q_HB, Q_BK391, Q_GW391, Q_GE391, Q_NB364_391, Q_NB391_364, Q_NB365_391, Q_NB391_365, Q_NB374_391, Q_NB391_374, Q_NB383_391, Q_NB391_383, ab (hoff 15 (by kernel_rfl)) (by decide), Q_X14_⟩
           refine steps_cons ?_ ?_
           ·rintro b a w' ⟨gb391, m14_, ha, Q_HO_5, Q_HO_6, Q_HO_7, Q_BK364, Q_BK365, Q_BK374, Q_BK383, Q_HB, Q_BK391, Q_GW391, Q_GE391, Q_NB364_391, Q_NB391_364, Q_NB365_391, Q_NB391_365, Q_NB374_391, Q_NB391_374, Q_NB383_391, Q_NB391_383, Q_BK391_e15, Q_X14_⟩ hb_ hon hoff
            refine ⟨_, rfl, fun K hK => ?_⟩
            have e63 : a.tmps[63]? = some (.pointer (some (ad385.add (x51_1).toNat))) := by rw [ha]; exact putSel_on (e := (8, 63, .pointer (some (ad385.add (x51_1).toNat)))) 4 rfl rfl (hon 8 (by kernel_rfl)) rfl
            replace ha := Aside0.mk ha
            have HO_5 := Aside0.mk Q_HO_5
            have HO_6 := Aside0.mk Q_HO_6
            have HO_7 := Aside0.mk Q_HO_7
            have BK364 := Aside0.mk Q_BK364
            have BK365 := Aside0.mk Q_BK365
            have BK374 := Aside0.mk Q_BK374
            have BK383 := Aside0.mk Q_BK383
            have HB := Aside0.mk Q_HB
            obtain ⟨ad385_z, e385_z, hx385_0_z⟩ := Kd.at_int (Kd.R_reads' HO_6.out).2.2 x51_1 (of_eq_true p385) (of_eq_true q385)
            cases e385_z
            have hs1_ : w'.cell? (ad385.add (x51_1).toNat) = some (.int .i64 (rd t361 x51_1)) := (by first | exact hx385_0_z | (have h_ := hx385_0_z; (try simp only [Int.reduceToNat, Nat.zero_mul, Nat.reduceMul, Nat.reduceEqDiff, Go.Addr.add, ↓reduceIte, Addr.add_zero'] at h_); exact h_))
            refine value_ (w1 := w') (v := .int .i64 (rd t361 x51_1)) (by rfl) rfl ?_ ?_
            ·go_simp
             (try simp only [i64_w])
             try rfl
            refine hK.out _ _ ⟨gb391, m14_, (by rw [ha.out]; exact putSel_upk 5 hb_ rfl rfl rfl), Q_HO_5, Q_HO_6, Q_HO_7, Q_BK364, Q_BK365, Q_BK374, Q_BK383, Q_HB, Q_BK391, Q_GW391, Q_GE391, Q_NB364_391, Q_NB391_364, Q_NB365_391, Q_NB391_365, Q_NB374_391, Q_NB391_374, Q_NB383_391, Q_NB391_383, ab (hoff 15 (by kernel_rfl)) (by decide), Q_X14_⟩
           refine steps_cons ?_ ?_
           ·rintro b a w' ⟨gb391, m14_, ha, Q_HO_5, Q_HO_6, Q_HO_7, Q_BK364, Q_BK365, Q_BK374, Q_BK383, Q_HB, Q_BK391, Q_GW391, Q_GE391, Q_NB364_391, Q_NB391_364, Q_NB365_391, Q_NB391_365, Q_NB374_391, Q_NB391_374, Q_NB383_391, Q_NB391_383, Q_BK391_e15, Q_X14_⟩ hb_ hon hoff
            refine ⟨_, rfl, fun K hK => ?_⟩
            have e55 : a.tmps[55]? = some (.agg #[.int .i64 t347, .int .i64 t348, .int .i64 t349, .int .i64 t350, .int .i64 t351, .int .i64 t352, .int .i64 t353]) := by rw [ha]; exact putSel_on (e := (0, 55, .agg #[.int .i64 t347, .int .i64 t348, .int .i64 t349, .int .i64 t350, .int .i64 t351, .int .i64 t352, .int .i64 t353])) 0 rfl rfl (hon 0 (by kernel_rfl)) rfl
            have e56 : a.tmps[56]? = some (.agg #[.bool x366000_1, .int .i64 x366001_1, .int .i64 x366002_1, .int .i64 x366003_1]) := by rw [ha]; exact putSel_on (e := (1, 56, .agg #[.bool x366000_1, .int .i64 x366001_1, .int .i64 x366002_1, .int .i64 x366003_1])) 1 rfl rfl (hon 1 (by kernel_rfl)) rfl
            have e60 : a.tmps[60]? = some (.int .i64 (rd t358 x51_1)) := by rw [ha]; exact putSel_on (e := (5, 60, .int .i64 (rd t358 x51_1))) 3 rfl rfl (hon 5 (by kernel_rfl)) rfl
            have e64 : a.tmps[64]? = some (.int .i64 (rd t361 x51_1)) := by rw [ha]; exact putSel_on (e := (9, 64, .int .i64 (rd t361 x51_1))) 5 rfl rfl (hon 9 (by kernel_rfl)) rfl
            replace ha := Aside0.mk ha
            have HO_5 := Aside0.mk Q_HO_5
            have HO_6 := Aside0.mk Q_HO_6
            have HO_7 := Aside0.mk Q_HO_7
            have BK364 := Aside0.mk Q_BK364
            have BK365 := Aside0.mk Q_BK365
            have BK374 := Aside0.mk Q_BK374
            have BK383 := Aside0.mk Q_BK383
            have HB := Aside0.mk Q_HB
            refine goes_ Try.func20 (by kernel_rfl) rfl #[.agg #[.int .i64 t347, .int .i64 t348, .int .i64 t349, .int .i64 t350, .int .i64 t351, .int .i64 t352, .int .i64 t353], .agg #[.bool x366000_1, .int .i64 x366001_1, .int .i64 x366002_1, .int .i64 x366003_1], .int .i64 (rd t358 x51_1), .int .i64 (rd t361 x51_1)] (by rfl) rfl rfl (by first | (simp only [List.map_toArray, List.map_cons, List.map_nil, Act.eval, Array.getD_eq_getD_getElem?, Option.getD_some, e55, e56, e60, e64]; done) | (simp only [List.map_toArray, List.map_cons, List.map_nil, Act.eval, Array.getD_eq_getD_getElem?, Option.getD_some, e55, e56, e60, e64]; rfl)) ?_
            with_reducible refine (impl_HoldStep.calls k1 t347 t348 t349 t350 t351 t352 t353 x366000_1 x366001_1 x366002_1 x366003_1 (rd t358 x51_1) (rd t361 x51_1) t386 t387 t388 t389 t390 _ A33.out).mono ?_
            rintro e w36 ⟨rfl, hb⟩
            refine ⟨_, rfl, ?_⟩
            have n0_ := a_ (Kd.R_below (rk HO_5.out) hb)
            have n1_ := a_ (Kd.R_below (rk HO_6.out) hb)
            have n2_ := a_ (Kd.R_below (rk HO_7.out) hb)
            have n3_ := a_ (blk_below (pk BK364.out) hb)
            have n4_ := a_ (blk_below (pk BK365.out) hb)
            have n5_ := a_ (blk_below (pk BK374.out) hb)
            have n6_ := a_ (blk_below (pk BK383.out) hb)
            have n7_ := a_ (below_step (by repeat first | (with_reducible first | exact HB.out | refine bz ?_ (by assumption) | apply bA | apply bN | apply bD) | exact HB.out) hb)
            have z_BK391 := fun (h0_ : b 14 = true) (h1_ : b 15 = false) => (show w36.heap[gb391]? = some (.cells #[.bool false, .int .i64 0, .int .i64 0, .int .i64 0] 27 (0, 0)) from by first | exact (blk_below (g := gb391) (o := .cells #[.bool false, .int .i64 0, .int .i64 0, .int .i64 0] 27 (0, 0)) (by refine pk ?_; exact (Q_BK391 h0_ h1_)) hb))
            clear HO_5
            clear HO_6
            clear HO_7
            clear BK364
            clear BK365
            clear BK374
            clear BK383
            clear HB
            have HO_5 := n0_
            have HO_6 := n1_
            have HO_7 := n2_
            have BK364 := n3_
            have BK365 := n4_
            have BK374 := n5_
            have BK383 := n6_
            have HB := n7_
            clear n0_ n1_ n2_ n3_ n4_ n5_ n6_ n7_
            (try clear hb)
            (try clear hb2)
            (try clear hk)
            (try clear hi)
            refine hK.out _ _ ⟨gb391, m14_, (by rw [ha.out]; exact putSel_upk 6 hb_ rfl rfl rfl), (rk HO_5.out), (rk HO_6.out), (rk HO_7.out), (pk BK364.out), (pk BK365.out), (pk BK374.out), (pk BK383.out), (by repeat first | (with_reducible first | exact HB.out | refine bz ?_ (by assumption) | apply bA | apply bN | apply bD) | exact HB.out), z_BK391, Q_GW391, Q_GE391, Q_NB364_391, Q_NB391_364, Q_NB365_391, Q_NB391_365, Q_NB374_391, Q_NB391_374, Q_NB383_391, Q_NB391_383, ab (hoff 15 (by kernel_rfl)) (by decide), Q_X14_⟩
           refine steps_cons ?_ ?_
           ·rintro b a w' ⟨gb391, m14_, ha, Q_HO_5, Q_HO_6, Q_HO_7, Q_BK364, Q_BK365, Q_BK374, Q_BK383, Q_HB, Q_BK391, Q_GW391, Q_GE391, Q_NB364_391, Q_NB391_364, Q_NB365_391, Q_NB391_365, Q_NB374_391, Q_NB391_374, Q_NB383_391, Q_NB391_383, Q_BK391_e15, Q_X14_⟩ hb_ hon hoff
            refine ⟨_, rfl, fun K hK => ?_⟩
            have e65 : a.tmps[65]? = some (.tuple #[.agg #[.bool t386, .int .i64 t387, .int .i64 t388, .int .i64 t389], .bool t390]) := by rw [ha]; exact putSel_on (e := (10, 65, .tuple #[.agg #[.bool t386, .int .i64 t387, .int .i64 t388, .int .i64 t389], .bool t390])) 6 rfl rfl (hon 10 (by kernel_rfl)) rfl
            replace ha := Aside0.mk ha
            have HO_5 := Aside0.mk Q_HO_5
            have HO_6 := Aside0.mk Q_HO_6
            have HO_7 := Aside0.mk Q_HO_7
            have BK364 := Aside0.mk Q_BK364
            have BK365 := Aside0.mk Q_BK365
            have BK374 := Aside0.mk Q_BK374
            have BK383 := Aside0.mk Q_BK383
            have HB := Aside0.mk Q_HB
            refine value_ (w1 := w') (v := .tuple #[.agg #[.bool t386, .int .i64 t387, .int .i64 t388, .int .i64 t389], .bool t390]) (by rfl) rfl ?_ ?_
            ·go_simp
             (try simp only [i64_w])
             try rfl
            refine hK.out _ _ ⟨gb391, m14_, (by rw [ha.out]; exact putSel_upk 7 hb_ rfl rfl rfl), Q_HO_5, Q_HO_6, Q_HO_7, Q_BK364, Q_BK365, Q_BK374, Q_BK383, Q_HB, Q_BK391, Q_GW391, Q_GE391, Q_NB364_391, Q_NB391_364, Q_NB365_391, Q_NB391_365, Q_NB374_391, Q_NB391_374, Q_NB383_391, Q_NB391_383, ab (hoff 15 (by kernel_rfl)) (by decide), Q_X14_⟩
           refine steps_cons ?_ ?_
           ·rintro b a w' ⟨gb391, m14_, ha, Q_HO_5, Q_HO_6, Q_HO_7, Q_BK364, Q_BK365, Q_BK374, Q_BK383, Q_HB, Q_BK391, Q_GW391, Q_GE391, Q_NB364_391, Q_NB391_364, Q_NB365_391, Q_NB391_365, Q_NB374_391, Q_NB391_374, Q_NB383_391, Q_NB391_383, Q_BK391_e15, Q_X14_⟩ hb_ hon hoff
            refine ⟨_, rfl, fun K hK => ?_⟩
            have e54 : a.tmps[54]? = some (.tuple #[.agg #[.bool t386, .int .i64 t387, .int .i64 t388, .int .i64 t389], .bool t390]) := by rw [ha]; exact putSel_on (e := (11, 54, .tuple #[.agg #[.bool t386, .int .i64 t387, .int .i64 t388, .int .i64 t389], .bool t390])) 7 rfl rfl (hon 11 (by kernel_rfl)) rfl
            replace ha := Aside0.mk ha
            have HO_5 := Aside0.mk Q_HO_5
            have HO_6 := Aside0.mk Q_HO_6
            have HO_7 := Aside0.mk Q_HO_7
            have BK364 := Aside0.mk Q_BK364
            have BK365 := Aside0.mk Q_BK365
            have BK374 := Aside0.mk Q_BK374
            have BK383 := Aside0.mk Q_BK383
            have HB := Aside0.mk Q_HB
            refine value_ (w1 := w') (v := .agg #[.bool t386, .int .i64 t387, .int .i64 t388, .int .i64 t389]) (by rfl) rfl ?_ ?_
            ·go_simp
             (try simp only [i64_w])
             try rfl
            refine hK.out _ _ ⟨gb391, m14_, (by rw [ha.out]; exact putSel_upk 8 hb_ rfl rfl rfl), Q_HO_5, Q_HO_6, Q_HO_7, Q_BK364, Q_BK365, Q_BK374, Q_BK383, Q_HB, Q_BK391, Q_GW391, Q_GE391, Q_NB364_391, Q_NB391_364, Q_NB365_391, Q_NB391_365, Q_NB374_391, Q_NB391_374, Q_NB383_391, Q_NB391_383, ab (hoff 15 (by kernel_rfl)) (by decide), Q_X14_⟩
           refine steps_cons ?_ ?_
           ·rintro b a w' ⟨gb391, m14_, ha, Q_HO_5, Q_HO_6, Q_HO_7, Q_BK364, Q_BK365, Q_BK374, Q_BK383, Q_HB, Q_BK391, Q_GW391, Q_GE391, Q_NB364_391, Q_NB391_364, Q_NB365_391, Q_NB391_365, Q_NB374_391, Q_NB391_374, Q_NB383_391, Q_NB391_383, Q_BK391_e15, Q_X14_⟩ hb_ hon hoff
            refine ⟨_, rfl, fun K hK => ?_⟩
            have e54 : a.tmps[54]? = some (.tuple #[.agg #[.bool t386, .int .i64 t387, .int .i64 t388, .int .i64 t389], .bool t390]) := by rw [ha]; exact putSel_on (e := (11, 54, .tuple #[.agg #[.bool t386, .int .i64 t387, .int .i64 t388, .int .i64 t389], .bool t390])) 7 rfl rfl (hon 11 (by kernel_rfl)) rfl
            replace ha := Aside0.mk ha
            have HO_5 := Aside0.mk Q_HO_5
            have HO_6 := Aside0.mk Q_HO_6
            have HO_7 := Aside0.mk Q_HO_7
            have BK364 := Aside0.mk Q_BK364
            have BK365 := Aside0.mk Q_BK365
            have BK374 := Aside0.mk Q_BK374
            have BK383 := Aside0.mk Q_BK383
            have HB := Aside0.mk Q_HB
            refine value_ (w1 := w') (v := .bool t390) (by rfl) rfl ?_ ?_
            ·go_simp
             (try simp only [i64_w])
             try rfl
            refine hK.out _ _ ⟨gb391, m14_, (by rw [ha.out]; exact putSel_upk 9 hb_ rfl rfl rfl), Q_HO_5, Q_HO_6, Q_HO_7, Q_BK364, Q_BK365, Q_BK374, Q_BK383, Q_HB, Q_BK391, Q_GW391, Q_GE391, Q_NB364_391, Q_NB391_364, Q_NB365_391, Q_NB391_365, Q_NB374_391, Q_NB391_374, Q_NB383_391, Q_NB391_383, Q_BK391_e15, Q_X14_⟩
           refine steps_cons ?_ ?_
           ·rintro b a w' ⟨gb391, m14_, ha, Q_HO_5, Q_HO_6, Q_HO_7, Q_BK364, Q_BK365, Q_BK374, Q_BK383, Q_HB, Q_BK391, Q_GW391, Q_GE391, Q_NB364_391, Q_NB391_364, Q_NB365_391, Q_NB391_365, Q_NB374_391, Q_NB391_374, Q_NB383_391, Q_NB391_383, Q_BK391_e15, Q_X14_⟩ hb_ hon hoff
            refine ⟨_, rfl, fun K hK => ?_⟩
            replace ha := Aside0.mk ha
            have HO_5 := Aside0.mk Q_HO_5
            have HO_6 := Aside0.mk Q_HO_6
            have HO_7 := Aside0.mk Q_HO_7
            have BK364 := Aside0.mk Q_BK364
            have BK365 := Aside0.mk Q_BK365
            have BK374 := Aside0.mk Q_BK374
            have BK383 := Aside0.mk Q_BK383
            have HB := Aside0.mk Q_HB
            refine box_step ?hg (N := 14) ?hd (cs := #[.bool false, .int .i64 0, .int .i64 0, .int .i64 0]) (t := 27) ?hr ?_; (case hd => rfl); (case hg => rfl); (case hr => first | (go_simp; done) | (go_simp; rfl))
            intro gb391 hg w36 hbox hb
            replace HO_5 := a_ (Kd.R_below (rk HO_5.out) hb)
            replace HO_6 := a_ (Kd.R_below (rk HO_6.out) hb)
            replace HO_7 := a_ (Kd.R_below (rk HO_7.out) hb)
            have BK391 := a_ (hbox)
            have GW391 := a_ (bsg hg HB.out)
            have GE391 := a_ (bsg hg HB.out)
            replace HB := a_ (below_step (by repeat first | (with_reducible first | exact HB.out | refine bz ?_ (by assumption) | apply bA | apply bN | apply bD) | exact HB.out) hb)
            have NB364_391 := a_ (nel hg BK364.out)
            have NB391_364 := a_ (nle hg BK364.out)
            replace BK364 := a_ (blk_below (pk BK364.out) hb)
            have NB365_391 := a_ (nel hg BK365.out)
            have NB391_365 := a_ (nle hg BK365.out)
            replace BK365 := a_ (blk_below (pk BK365.out) hb)
            have NB374_391 := a_ (nel hg BK374.out)
            have NB391_374 := a_ (nle hg BK374.out)
            replace BK374 := a_ (blk_below (pk BK374.out) hb)
            have NB383_391 := a_ (nel hg BK383.out)
            have NB391_383 := a_ (nle hg BK383.out)
            replace BK383 := a_ (blk_below (pk BK383.out) hb)
            clear hb hbox hg
            refine hK.out _ _ ⟨gb391, (.pointer (some ⟨gb391, 0, none⟩)), (by rw [ha.out]; exact putSel_upk 10 hb_ rfl rfl rfl), (rk HO_5.out), (rk HO_6.out), (rk HO_7.out), (pk BK364.out), (pk BK365.out), (pk BK374.out), (pk BK383.out), (by repeat first | (with_reducible first | exact HB.out | refine bz ?_ (by assumption) | apply bA | apply bN | apply bD) | exact HB.out), fun _ _ => (pk BK391.out), fun _ => GW391.out, fun _ => GE391.out, fun _ => NB364_391.out, fun _ => NB391_364.out, fun _ => NB365_391.out, fun _ => NB391_365.out, fun _ => NB374_391.out, fun _ => NB391_374.out, fun _ => NB383_391.out, fun _ => NB391_383.out, ab (hoff 15 (by kernel_rfl)) (by decide), fun _ => rfl⟩
           refine steps_cons ?_ ?_
           ·rintro b a w' ⟨gb391, m14_, ha, Q_HO_5, Q_HO_6, Q_HO_7, Q_BK364, Q_BK365, Q_BK374, Q_BK383, Q_HB, Q_BK391, Q_GW391, Q_GE391, Q_NB364_391, Q_NB391_364, Q_NB365_391, Q_NB391_365, Q_NB374_391, Q_NB391_374, Q_NB383_391, Q_NB391_383, Q_BK391_e15, Q_X14_⟩ hb_ hon hoff
            refine ⟨_, rfl, fun K hK => ?_⟩
            have e14 : a.tmps[14]? = some (m14_) := by rw [ha]; exact putSel_on (e := (14, 14, m14_)) 10 rfl rfl (hon 14 (by kernel_rfl)) rfl
            rw [Q_X14_ (hon 14 (by kernel_rfl))] at e14
            have e66 : a.tmps[66]? = some (.agg #[.bool t386, .int .i64 t387, .int .i64 t388, .int .i64 t389]) := by rw [ha]; exact putSel_on (e := (12, 66, .agg #[.bool t386, .int .i64 t387, .int .i64 t388, .int .i64 t389])) 8 rfl rfl (hon 12 (by kernel_rfl)) rfl
            replace ha := Aside0.mk ha
            have HO_5 := Aside0.mk Q_HO_5
            have HO_6 := Aside0.mk Q_HO_6
            have HO_7 := Aside0.mk Q_HO_7
            have BK364 := Aside0.mk Q_BK364
            have BK365 := Aside0.mk Q_BK365
            have BK374 := Aside0.mk Q_BK374
            have BK383 := Aside0.mk Q_BK383
            have HB := Aside0.mk Q_HB
            have BK391 := a_ (Q_BK391 (hon 14 (by kernel_rfl)) hb_)
            have GW391 := a_ (Q_GW391 (hon 14 (by kernel_rfl)))
            have GE391 := a_ (Q_GE391 (hon 14 (by kernel_rfl)))
            have NB364_391 := a_ (Q_NB364_391 (hon 14 (by kernel_rfl)))
            have NB391_364 := a_ (Q_NB391_364 (hon 14 (by kernel_rfl)))
            have NB365_391 := a_ (Q_NB365_391 (hon 14 (by kernel_rfl)))
            have NB391_365 := a_ (Q_NB391_365 (hon 14 (by kernel_rfl)))
            have NB374_391 := a_ (Q_NB374_391 (hon 14 (by kernel_rfl)))
            have NB391_374 := a_ (Q_NB391_374 (hon 14 (by kernel_rfl)))
            have NB383_391 := a_ (Q_NB383_391 (hon 14 (by kernel_rfl)))
            have NB391_383 := a_ (Q_NB391_383 (hon 14 (by kernel_rfl)))
            have hs39 : w'.cell? ⟨gb391, 0, none⟩ = some (.bool false) := (blk_cell BK391.out 0).trans rfl
            have hfs39 := blk_frozen BK391.out 0
            have hns39_0 := NB364_391.out
            have hns39_1 := NB365_391.out
            have hns39_2 := NB374_391.out
            have hns39_3 := NB383_391.out
            have hms39_0 := NB391_364.out
            have hms39_1 := NB391_365.out
            have hms39_2 := NB391_374.out
            have hms39_3 := NB391_383.out
            have hs40 : w'.cell? ⟨gb391, 1, none⟩ = some (.int .i64 0) := (blk_cell BK391.out 1).trans rfl
            have hfs40 := blk_frozen BK391.out 1
            have hns40_0 := NB364_391.out
            have hns40_1 := NB365_391.out
            have hns40_2 := NB374_391.out
            have hns40_3 := NB383_391.out
            have hms40_0 := NB391_364.out
            have hms40_1 := NB391_365.out
            have hms40_2 := NB391_374.out
            have hms40_3 := NB391_383.out
            have hs41 : w'.cell? ⟨gb391, 2, none⟩ = some (.int .i64 0) := (blk_cell BK391.out 2).trans rfl
            have hfs41 := blk_frozen BK391.out 2
            have hns41_0 := NB364_391.out
            have hns41_1 := NB365_391.out
            have hns41_2 := NB374_391.out
            have hns41_3 := NB383_391.out
            have hms41_0 := NB391_364.out
            have hms41_1 := NB391_365.out
            have hms41_2 := NB391_374.out
            have hms41_3 := NB391_383.out
            have hs42 : w'.cell? ⟨gb391, 3, none⟩ = some (.int .i64 0) := (blk_cell BK391.out 3).trans rfl
            have hfs42 := blk_frozen BK391.out 3
            have hns42_0 := NB364_391.out
            have hns42_1 := NB365_391.out
            have hns42_2 := NB374_391.out
            have hns42_3 := NB383_391.out
            have hms42_0 := NB391_364.out
            have hms42_1 := NB391_365.out
            have hms42_2 := NB391_374.out
            have hms42_3 := NB391_383.out
            refine skip_ (w1 := ?_) ?_ ?_ ?_ ?_
            rotate_left
            ·rfl
            ·rfl
            ·go_simp
             rfl
            refine hK.out _ _ ⟨gb391, m14_, (by rw [ha.out]; exact putSel_none (v := undef) rfl), (rk (Kd.R_mono (fr4 HO_5.out BK391.out (by decide) 0 (.bool t386) 1 (.int .i64 t387) 2 (.int .i64 t388) 3 (.int .i64 t389)) (fun _ hk => hk.1))), (rk (Kd.R_mono (fr4 HO_6.out BK391.out (by decide) 0 (.bool t386) 1 (.int .i64 t387) 2 (.int .i64 t388) 3 (.int .i64 t389)) (fun _ hk => hk.1))), (rk (Kd.R_mono (fr4 HO_7.out BK391.out (by decide) 0 (.bool t386) 1 (.int .i64 t387) 2 (.int .i64 t388) 3 (.int .i64 t389)) (fun _ hk => hk.1))), (by refine pk ?_; refine blk_far ?_ NB364_391.out _; refine pk ?_; refine blk_far ?_ NB364_391.out _; refine pk ?_; refine blk_far ?_ NB364_391.out _; refine pk ?_; refine blk_far ?_ NB364_391.out _; refine pk ?_; exact BK364.out), (by refine pk ?_; refine blk_far ?_ NB365_391.out _; refine pk ?_; refine blk_far ?_ NB365_391.out _; refine pk ?_; refine blk_far ?_ NB365_391.out _; refine pk ?_; refine blk_far ?_ NB365_391.out _; refine pk ?_; exact BK365.out), (by refine pk ?_; refine blk_far ?_ NB374_391.out _; refine pk ?_; refine blk_far ?_ NB374_391.out _; refine pk ?_; refine blk_far ?_ NB374_391.out _; refine pk ?_; refine blk_far ?_ NB374_391.out _; refine pk ?_; exact BK374.out), (by refine pk ?_; refine blk_far ?_ NB383_391.out _; refine pk ?_; refine blk_far ?_ NB383_391.out _; refine pk ?_; refine blk_far ?_ NB383_391.out _; refine pk ?_; refine blk_far ?_ NB383_391.out _; refine pk ?_; exact BK383.out), (by repeat first | (with_reducible first | exact HB.out | refine bz ?_ (by assumption) | apply bA | apply bN | apply bD) | exact HB.out), fun _ h1_ => absurd ((up_self b 15).symm.trans h1_) (by decide), fun _ => GW391.out, fun _ => GE391.out, fun _ => NB364_391.out, fun _ => NB391_364.out, fun _ => NB365_391.out, fun _ => NB391_365.out, fun _ => NB374_391.out, fun _ => NB391_374.out, fun _ => NB383_391.out, fun _ => NB391_383.out, fun _ => (by refine pk ?_; refine blk_put (cs := #[.bool t386, .int .i64 t387, .int .i64 t388, .int .i64 0]) ?_ 3 _ rfl; refine pk ?_; refine blk_put (cs := #[.bool t386, .int .i64 t387, .int .i64 0, .int .i64 0]) ?_ 2 _ rfl; refine pk ?_; refine blk_put (cs := #[.bool t386, .int .i64 0, .int .i64 0, .int .i64 0]) ?_ 1 _ rfl; refine pk ?_; refine blk_put (cs := #[.bool false, .int .i64 0, .int .i64 0, .int .i64 0]) ?_ 0 _ rfl; refine pk ?_; exact BK391.out), Q_X14_⟩
           refine steps_cons ?_ ?_
           ·rintro b a w' ⟨gb391, m14_, ha, Q_HO_5, Q_HO_6, Q_HO_7, Q_BK364, Q_BK365, Q_BK374, Q_BK383, Q_HB, Q_BK391, Q_GW391, Q_GE391, Q_NB364_391, Q_NB391_364, Q_NB365_391, Q_NB391_365, Q_NB374_391, Q_NB391_374, Q_NB383_391, Q_NB391_383, Q_BK391_e15, Q_X14_⟩ hb_ hon hoff
            refine ⟨_, rfl, fun K hK => ?_⟩
            have e67 : a.tmps[67]? = some (.bool t390) := by rw [ha]; exact putSel_on (e := (13, 67, .bool t390)) 9 rfl rfl (hon 13 (by kernel_rfl)) rfl
            replace ha := Aside0.mk ha
            have HO_5 := Aside0.mk Q_HO_5
            have HO_6 := Aside0.mk Q_HO_6
            have HO_7 := Aside0.mk Q_HO_7
            have BK364 := Aside0.mk Q_BK364
            have BK365 := Aside0.mk Q_BK365
            have BK374 := Aside0.mk Q_BK374
            have BK383 := Aside0.mk Q_BK383
            have HB := Aside0.mk Q_HB
            have GW391 := a_ (Q_GW391 (hon 14 (by kernel_rfl)))
            have GE391 := a_ (Q_GE391 (hon 14 (by kernel_rfl)))
            have NB364_391 := a_ (Q_NB364_391 (hon 14 (by kernel_rfl)))
            have NB391_364 := a_ (Q_NB391_364 (hon 14 (by kernel_rfl)))
            have NB365_391 := a_ (Q_NB365_391 (hon 14 (by kernel_rfl)))
            have NB391_365 := a_ (Q_NB391_365 (hon 14 (by kernel_rfl)))
            have NB374_391 := a_ (Q_NB374_391 (hon 14 (by kernel_rfl)))
            have NB391_374 := a_ (Q_NB391_374 (hon 14 (by kernel_rfl)))
            have NB383_391 := a_ (Q_NB383_391 (hon 14 (by kernel_rfl)))
            have NB391_383 := a_ (Q_NB391_383 (hon 14 (by kernel_rfl)))
            have BK391 := a_ (Q_BK391_e15 (hon 15 (by kernel_rfl)))
            refine value_ (w1 := w') (v := .bool t390) (by rfl) rfl ?_ ?_
            ·go_simp
             (try simp only [i64_w])
             try rfl
            refine hK.out _ _ ⟨gb391, m14_, (by rw [ha.out]; exact putSel_upk 11 hb_ rfl rfl rfl), Q_HO_5, Q_HO_6, Q_HO_7, Q_BK364, Q_BK365, Q_BK374, Q_BK383, Q_HB, fun _ h1_ => absurd ((hon 15 (by kernel_rfl)).symm.trans h1_) (by decide), Q_GW391, Q_GE391, Q_NB364_391, Q_NB391_364, Q_NB365_391, Q_NB391_365, Q_NB374_391, Q_NB391_374, Q_NB383_391, Q_NB391_383, Q_BK391_e15, Q_X14_⟩
           exact steps_nil
          rintro b a w42 hall ⟨gb391, m14_, ha, Q_HO_5, Q_HO_6, Q_HO_7, Q_BK364, Q_BK365, Q_BK374, Q_BK383, Q_HB, Q_BK391, Q_GW391, Q_GE391, Q_NB364_391, Q_NB391_364, Q_NB365_391, Q_NB391_365, Q_NB374_391, Q_NB391_374, Q_NB383_391, Q_NB391_383, Q_BK391_e15, Q_X14_⟩
          clear BK364 BK365 BK374 BK383 HB HO_5 HO_6 HO_7
          have hb0_ := hall 0 (by kernel_rfl)
          have hb1_ := hall 1 (by kernel_rfl)
          have hb4_ := hall 4 (by kernel_rfl)
          have hb5_ := hall 5 (by kernel_rfl)
          have hb8_ := hall 8 (by kernel_rfl)
          have hb9_ := hall 9 (by kernel_rfl)
          have hb10_ := hall 10 (by kernel_rfl)
          have hb11_ := hall 11 (by kernel_rfl)
          have hb12_ := hall 12 (by kernel_rfl)
          have hb13_ := hall 13 (by kernel_rfl)
          have hb14_ := hall 14 (by kernel_rfl)
          have hb15_ := hall 15 (by kernel_rfl)
          have hb16_ := hall 16 (by kernel_rfl)
          subst ha
          obtain rfl := Q_X14_ hb14_
          simp only [putSel, hb0_, hb1_, hb4_, hb5_, hb8_, hb9_, hb10_, hb11_, hb12_, hb13_, hb14_, hb15_, hb16_, if_true, Act.put, List.setIfInBounds_toArray, List.set_cons_zero, List.set_cons_succ]
          have HO_5 := Aside0.mk Q_HO_5
          clear Q_HO_5
          have HO_6 := Aside0.mk Q_HO_6
          clear Q_HO_6
          have HO_7 := Aside0.mk Q_HO_7
          clear Q_HO_7
          have BK364 := Aside0.mk Q_BK364
          clear Q_BK364
          have BK365 := Aside0.mk Q_BK365
          clear Q_BK365
          have BK374 := Aside0.mk Q_BK374
          clear Q_BK374
          have BK383 := Aside0.mk Q_BK383
          clear Q_BK383
          have HB := Aside0.mk Q_HB
          clear Q_HB
          clear Q_BK391
          have GW391 := a_ (Q_GW391 hb14_)
          clear Q_GW391
          have GE391 := a_ (Q_GE391 hb14_)
          clear Q_GE391
          have NB364_391 := a_ (Q_NB364_391 hb14_)
          clear Q_NB364_391
          have NB391_364 := a_ (Q_NB391_364 hb14_)
          clear Q_NB391_364
          have NB365_391 := a_ (Q_NB365_391 hb14_)
          clear Q_NB365_391
          have NB391_365 := a_ (Q_NB391_365 hb14_)
          clear Q_NB391_365
          have NB374_391 := a_ (Q_NB374_391 hb14_)
          clear Q_NB374_391
          have NB391_374 := a_ (Q_NB391_374 hb14_)
          clear Q_NB391_374
          have NB383_391 := a_ (Q_NB383_391 hb14_)
          clear Q_NB383_391
          have NB391_383 := a_ (Q_NB391_383 hb14_)
          clear Q_NB391_383
          have BK391 := a_ (Q_BK391_e15 hb15_)
          clear Q_BK391_e15
          clear hall hb0_ hb1_ hb4_ hb5_ hb8_ hb9_ hb10_ hb11_ hb12_ hb13_ hb14_ hb15_ hb16_
          go_upto_region 14 with (fail)
          go_cut [84] (fun v84 wc => ∃ (kq : Nat) (x84_33 : Bool), v84 = .bool x84_33 ∧ Aside0 (laws_FnHold.j1 kq t358 t361 t366 x51_1 (t358.length : Int) x51_1 x84_33 t347 t348 t349 t350 t351 t352 t353 x366000_1 x366001_1 x366002_1 x366003_1 t369 t370 t371 t372 t386 t387 t388 t389 = some r) ∧ Aside0 (kq ≤ k1) ∧ Aside0 (Kd.R (Kd.int .i64) 3 wc w.heap.size (fun k_ => some k_ ≠ ((.slice (some ad385) t361.length co15) : Value).ownBlock ∧ N_ v367 k_) (.slice (some ad384) t358.length co14) t358) ∧ Aside0 (Kd.R (Kd.int .i64) 3 wc w.heap.size (fun k_ => some k_ ≠ ((.slice (some ad384) t358.length co14) : Value).ownBlock ∧ N_ v367 k_) (.slice (some ad385) t361.length co15) t361) ∧ Aside0 (Kd.R (Kd.int .i64) 3 wc w.heap.size (fun k_ => some k_ ≠ ((.slice (some ad384) t358.length co14) : Value).ownBlock ∧ some k_ ≠ ((.slice (some ad385) t361.length co15) : Value).ownBlock) v367 t366) ∧ Aside0 (wc.heap[gb364]? = some (.cells #[.int .i64 t347, .int .i64 t348, .int .i64 t349, .int .i64 t350, .int .i64 t351, .int .i64 t352, .int .i64 t353] 30 (0, 0))) ∧ Aside0 (wc.heap[gb365]? = some (.cells #[.bool x366000_1, .int .i64 x366001_1, .int .i64 x366002_1, .int .i64 x366003_1] 27 (0, 0))) ∧ Aside0 (wc.heap[gb374]? = some (.cells #[.bool t369, .int .i64 t370, .int .i64 t371, .int .i64 t372] 27 (0, 0))) ∧ Aside0 (wc.heap[gb383]? = some (.cells #[.bool t378, .int .i64 t379, .int .i64 t380, .int .i64 t381] 27 (0, 0))) ∧ Aside0 (wc.heap[gb391]? = some (.cells #[.bool t386, .int .i64 t387, .int .i64 t388, .int .i64 t389] 27 (0, 0))) ∧ Aside0 (Below w.heap.size w wc))
          case first =>
           have H := HC34.out
           clear HC34
           by_cases c43 : t390 = true
           ·subst c43
            have H1 : ((spec_GoodHold.f t347 t348 t349 t350 t351 t352 t353 t386 t387 t388 t389).bind fun t392 => (if t392 = true then (if x51_1 < (t366.length : Int) then (laws_FnHold.j1 k1 t358 t361 t366 x51_1 (t358.length : Int) x51_1 (t389 != (rd t366 x51_1)) t347 t348 t349 t350 t351 t352 t353 x366000_1 x366001_1 x366002_1 x366003_1 t369 t370 t371 t372 t386 t387 t388 t389) else (none)) else (laws_FnHold.j1 k1 t358 t361 t366 x51_1 (t358.length : Int) x51_1 true t347 t348 t349 t350 t351 t352 t353 x366000_1 x366001_1 x366002_1 x366003_1 t369 t370 t371 t372 t386 t387 t388 t389))) = some r := by rw [if_pos rfl] at H; exact H
            clear H
            have H := H1
            clear H1
            replace H := Option.bind_eq_some_iff.mp H
            obtain ⟨t392, A440, H⟩ := H
            have A44 := Aside0.mk A440
            clear A440
            by_cases c45 : t392 = true
            ·subst c45
             have H1 : (if x51_1 < (t366.length : Int) then (laws_FnHold.j1 k1 t358 t361 t366 x51_1 (t358.length : Int) x51_1 (t389 != (rd t366 x51_1)) t347 t348 t349 t350 t351 t352 t353 x366000_1 x366001_1 x366002_1 x366003_1 t369 t370 t371 t372 t386 t387 t388 t389) else (none)) = some r := by rw [if_pos rfl] at H; exact H
             clear H
             have H := H1
             clear H1
             by_cases c46 : x51_1 < (t366.length : Int)
             ·rw [if_pos c46] at H
              have c46b0 : decide (x51_1 < (t366.length : Int)) = true := decide_eq_true c46
              clear c46
              (first | rw [c46b0] | (simp only [i64_w, i32_w]; rw [c46b0]) | skip)
              have H' := Aside0.mk H
              clear H
              try go_wp2
              replace HO_5 := a_ (Kd.R_drew HO_5.out)
              replace HO_6 := a_ (Kd.R_drew HO_6.out)
              replace HO_7 := a_ (Kd.R_drew HO_7.out)
              replace BK364 := a_ (blk_drew BK364.out)
              replace BK365 := a_ (blk_drew BK365.out)
              replace BK374 := a_ (blk_drew BK374.out)
              replace BK383 := a_ (blk_drew BK383.out)
              replace BK391 := a_ (blk_drew BK391.out)
              replace HB := a_ (below_drew1 HB.out)
              (first | (obtain ⟨Ao393, co393, eo393⟩ := Kd.R_slice HO_7.out; subst eo393) | skip)
              have p393 : 0 ≤ (x51_1 : Int) := of_decide_eq_true (by first | (with_reducible assumption) | assumption)
              have q393 : x51_1 < (t366.length : Int) := of_decide_eq_true (by first | (with_reducible assumption) | assumption)
              obtain ⟨ad393, e393, hx393_0⟩ := Kd.at_int (Kd.R_reads' HO_7.out).2.2 x51_1 p393 q393
              cases e393
              replace p393 := eq_true p393
              replace q393 := eq_true q393
              refine start_ (n := 17) (S := fun w' => w'.cell? ⟨gb364, 0, none⟩ = some (.int .i64 t347) ∧ w'.cell? ⟨gb364, 1, none⟩ = some (.int .i64 t348) ∧ w'.cell? ⟨gb364, 2, none⟩ = some (.int .i64 t349) ∧ w'.cell? ⟨gb364, 3, none⟩ = some (.int .i64 t350) ∧ w'.cell? ⟨gb364, 4, none⟩ = some (.int .i64 t351) ∧ w'.cell? ⟨gb364, 5, none⟩ = some (.int .i64 t352) ∧ w'.cell? ⟨gb364, 6, none⟩ = some (.int .i64 t353) ∧ w'.cell? ⟨gb391, 0, none⟩ = some (.bool t386) ∧ w'.cell? ⟨gb391, 1, none⟩ = some (.int .i64 t387) ∧ w'.cell? ⟨gb391, 2, none⟩ = some (.int .i64 t388) ∧ w'.cell? ⟨gb391, 3, none⟩ = some (.int .i64 t389) ∧ w'.cell? (ad393.add (x51_1).toNat) = some (.int .i64 (rd t366 x51_1))) (ds := []) #[false, false, false, false, false, false, false, false, false, false, false, false, false, false, false, false, false] (by kernel_rfl) rfl rfl ⟨(blk_cell BK364.out 0).trans rfl, (blk_cell BK364.out 1).trans rfl, (blk_cell BK364.out 2).trans rfl, (blk_cell BK364.out 3).trans rfl, (blk_cell BK364.out 4).trans rfl, (blk_cell BK364.out 5).trans rfl, (blk_cell BK364.out 6).trans rfl, (blk_cell BK391.out 0).trans rfl, (blk_cell BK391.out 1).trans rfl, (blk_cell BK391.out 2).trans rfl, (blk_cell BK391.out 3).trans rfl, hx393_0⟩ (fun hHeld => ?_); refine with_tabW laws_FnHold.tab14 laws_FnHold.bits14 (fun HT_ HW_ => ?_)
              generalize w42.drew = w47 at HO_5 HO_6 HO_7 BK364 BK365 BK374 BK383 BK391 HB hx393_0 hHeld ⊢
              refine pure_ (i := 0) (N := some 68) (v := ?_) (a' := ?_) #[true, false, false, false, false, false, false, false, false, false, false, false, false, false, false, false, false] rfl rfl (any_of HT_.out (by kernel_rfl)) (fun _ _ _ h => h) (Or.inl ⟨by rfl, ?_⟩) ?_ ?_
              rotate_left
              ·intro w'
               go_simp
               with_reducible rfl
              rotate_left
              ·simp only [Act.put, List.setIfInBounds_toArray, List.set_cons_zero, List.set_cons_succ, i64_w, i32_w]
               rfl
              refine pure_ (i := 1) (N := some 69) (v := ?_) (a' := ?_) #[true, true, false, false, false, false, false, false, false, false, false, false, false, false, false, false, false] rfl rfl (any_of HT_.out (by kernel_rfl)) (fun _ _ _ h => h) (Or.inl ⟨by rfl, ?_⟩) ?_ ?_
              rotate_left
              ·intro w'
               go_simp
               with_reducible rfl
              rotate_left
              ·simp only [Act.put, List.setIfInBounds_toArray, List.set_cons_zero, List.set_cons_succ, i64_w, i32_w]
               rfl
              refine pure_ (i := 2) (N := some 70) (v := ?_) (a' := ?_) #[true, true, true, false, false, false, false, false, false, false, false, false, false, false, false, false, false] rfl rfl (any_of HT_.out (by kernel_rfl)) (fun _ _ _ h => h) (Or.inl ⟨by rfl, ?_⟩) ?_ ?_
              rotate_left
              ·intro w'
               go_simp
               with_reducible rfl
              rotate_left
              ·simp only [Act.put, List.setIfInBounds_toArray, List.set_cons_zero, List.set_cons_succ, i64_w, i32_w]
               rfl
              refine take_ (i := 3) (N := some 71) (v := ?_) (a' := ?_) #[true, true, true, true, false, false, false, false, false, false, false, false, false, false, false, false, false] rfl rfl (take_ofW HT_.out HW_.out (by kernel_rfl)) (fun _ _ _ h => h) (Or.inl ⟨by rfl, ?_⟩) hHeld ?_ ?_
              rotate_left
              ·rintro w' ⟨s0, s1, s2, s3, s4, s5, s6, s7, s8, s9, s10, s11⟩
               go_simp
               with_reducible rfl
              rotate_left
              ·simp only [Act.put, List.setIfInBounds_toArray, List.set_cons_zero, List.set_cons_succ, i64_w, i32_w]
               rfl
              refine take_ (i := 4) (N := some 72) (v := ?_) (a' := ?_) #[true, true, true, true, true, false, false, false, false, false, false, false, false, false, false, false, false] rfl rfl (take_ofW HT_.out HW_.out (by kernel_rfl)) (fun _ _ _ h => h) (Or.inl ⟨by rfl, ?_⟩) hHeld ?_ ?_
              rotate_left
              ·rintro w' ⟨s0, s1, s2, s3, s4, s5, s6, s7, s8, s9, s10, s11⟩
               go_simp
               with_reducible rfl
              rotate_left
              ·simp only [Act.put, List.setIfInBounds_toArray, List.set_cons_zero, List.set_cons_succ, i64_w, i32_w]
               rfl
              refine one_ (i := 5) (N := some 73) #[true, true, true, true, true, true, false, false, false, false, false, false, false, false, false, false, false] rfl rfl (one_of HT_.out (by kernel_rfl)) (by decide) (fun K hK => ?_)
              refine goes_ Try.func22 (by kernel_rfl) rfl #[.agg #[.int .i64 t347, .int .i64 t348, .int .i64 t349, .int .i64 t350, .int .i64 t351, .int .i64 t352, .int .i64 t353], .agg #[.bool t386, .int .i64 t387, .int .i64 t388, .int .i64 t389]] (by rfl) rfl rfl (by (try simp only [lA, lB, lC]); first | done | rfl | (simp only [lD, lE]; rfl)) ?_
              with_reducible refine (spec_GoodHold.calls t347 t348 t349 t350 t351 t352 t353 t386 t387 t388 t389 true _ A44.out).mono ?_
              rintro e w48 ⟨rfl, hb⟩
              have HS11_ := (hb.cell (World.block_lt_of_cell? _ _ (hHeld.2.2.2.2.2.2.2.2.2.2.2))).trans (hHeld.2.2.2.2.2.2.2.2.2.2.2)
              refine ⟨_, rfl, ?_⟩
              replace HO_5 := a_ (Kd.R_below (rk HO_5.out) hb)
              replace HO_6 := a_ (Kd.R_below (rk HO_6.out) hb)
              replace HO_7 := a_ (Kd.R_below (rk HO_7.out) hb)
              replace BK364 := a_ (blk_below (pk BK364.out) hb)
              replace BK365 := a_ (blk_below (pk BK365.out) hb)
              replace BK374 := a_ (blk_below (pk BK374.out) hb)
              replace BK383 := a_ (blk_below (pk BK383.out) hb)
              replace BK391 := a_ (blk_below (pk BK391.out) hb)
              replace HB := a_ (below_step (by repeat first | (with_reducible first | exact HB.out | refine bz ?_ (by assumption) | apply bA | apply bN | apply bD) | exact HB.out) hb)
              (try clear hb)
              (try clear hb2)
              (try clear hk)
              (try clear hi)
              obtain ⟨Ao49, co49, eo49⟩ := Kd.R_slice HO_7.out
              (first | subst eo49 | (injection eo49 with f1_ f2_ f3_; have f4_ := f1_.symm; have f5_ := f3_.symm; clear f1_ f2_ f3_; subst f4_; subst f5_))
              refine hK.out _ _ ⟨(blk_cell BK364.out 0).trans rfl, (blk_cell BK364.out 1).trans rfl, (blk_cell BK364.out 2).trans rfl, (blk_cell BK364.out 3).trans rfl, (blk_cell BK364.out 4).trans rfl, (blk_cell BK364.out 5).trans rfl, (blk_cell BK364.out 6).trans rfl, (blk_cell BK391.out 0).trans rfl, (blk_cell BK391.out 1).trans rfl, (blk_cell BK391.out 2).trans rfl, (blk_cell BK391.out 3).trans rfl, HS11_⟩ (fun hHeld => ?_)
              clear hK K
              refine norm_ (a' := ?_) ?_ ?_
              rotate_left
              ·show Act.put _ (some 73) _ = _
               simp only [Act.put, List.setIfInBounds_toArray, List.set_cons_zero, List.set_cons_succ, i64_w, i32_w]
               rfl
              refine pure_ (i := 6) (N := some 74) (v := ?_) (a' := ?_) #[true, true, true, true, true, true, true, false, false, false, false, false, false, false, false, false, false] rfl rfl (any_of HT_.out (by kernel_rfl)) (fun _ _ _ h => h) (Or.inl ⟨by rfl, ?_⟩) ?_ ?_
              rotate_left
              ·intro w'
               go_simp
               with_reducible rfl
              rotate_left
              ·simp only [Act.put, List.setIfInBounds_toArray, List.set_cons_zero, List.set_cons_succ, i64_w, i32_w]
               rfl
              refine pure_ (i := 7) (N := some 75) (v := ?_) (a' := ?_) #[true, true, true, true, true, true, true, true, false, false, false, false, false, false, false, false, false] rfl rfl (any_of HT_.out (by kernel_rfl)) (fun _ _ _ h => h) (Or.inl ⟨by rfl, ?_⟩) ?_ ?_
              rotate_left
              ·intro w'
               go_simp
               with_reducible rfl
              rotate_left
              ·simp only [Act.put, List.setIfInBounds_toArray, List.set_cons_zero, List.set_cons_succ, i64_w, i32_w]
               rfl
              refine pure_ (i := 8) (N := some 76) (v := ?_) (a' := ?_) #[true, true, true, true, true, true, true, true, true, false, false, false, false, false, false, false, false] rfl rfl (any_of HT_.out (by kernel_rfl)) (fun _ _ _ h => h) (Or.inl ⟨by rfl, ?_⟩) ?_ ?_
              rotate_left
              ·intro w'
               go_simp
               with_reducible rfl
              rotate_left
              ·simp only [Act.put, List.setIfInBounds_toArray, List.set_cons_zero, List.set_cons_succ, i64_w, i32_w]
               rfl
              refine pure_ (i := 9) (N := some 77) (v := ?_) (a' := ?_) #[true, true, true, true, true, true, true, true, true, true, false, false, false, false, false, false, false] rfl rfl (any_of HT_.out (by kernel_rfl)) (fun _ _ _ h => h) (Or.inl ⟨by rfl, ?_⟩) ?_ ?_
              rotate_left
              ·intro w'
               go_simp
               with_reducible rfl
              rotate_left
              ·simp only [Act.put, List.setIfInBounds_toArray, List.set_cons_zero, List.set_cons_succ, i64_w, i32_w]
               rfl
              refine pure_ (i := 11) (N := some 79) (v := ?_) (a' := ?_) #[true, true, true, true, true, true, true, true, true, true, false, true, false, false, false, false, false] rfl rfl (any_of HT_.out (by kernel_rfl)) (fun _ _ _ h => h) (Or.inl ⟨by rfl, ?_⟩) ?_ ?_
              rotate_left
              ·intro w'
               go_simp
               with_reducible rfl
              rotate_left
              ·simp only [Act.put, List.setIfInBounds_toArray, List.set_cons_zero, List.set_cons_succ, i64_w, i32_w]
               rfl
              refine pure_ (i := 12) (N := some 80) (v := ?_) (a' := ?_) #[true, true, true, true, true, true, true, true, true, true, false, true, true, false, false, false, false] rfl rfl (any_of HT_.out (by kernel_rfl)) (fun _ _ _ h => h) (Or.inl ⟨by rfl, ?_⟩) ?_ ?_
              rotate_left
              ·intro w'
               go_simp
               with_reducible rfl
              rotate_left
              ·simp only [Act.put, List.setIfInBounds_toArray, List.set_cons_zero, List.set_cons_succ, i64_w, i32_w]
               rfl
              refine pure_ (i := 13) (N := some 81) (v := ?_) (a' := ?_) #[true, true, true, true, true, true, true, true, true, true, false, true, true, true, false, false, false] rfl rfl (any_of HT_.out (by kernel_rfl)) (fun _ _ _ h => h) (Or.inl ⟨by rfl, ?_⟩) ?_ ?_
              rotate_left
              ·intro w'
               go_simp
               with_reducible rfl
              rotate_left
              ·simp only [Act.put, List.setIfInBounds_toArray, List.set_cons_zero, List.set_cons_succ, i64_w, i32_w]
               rfl
              refine take_ (i := 10) (N := some 78) (v := ?_) (a' := ?_) #[true, true, true, true, true, true, true, true, true, true, true, true, true, true, false, false, false] rfl rfl (take_ofW HT_.out HW_.out (by kernel_rfl)) (fun _ _ _ h => h) (Or.inl ⟨by rfl, ?_⟩) hHeld ?_ ?_
              rotate_left
              ·rintro w' ⟨s0, s1, s2, s3, s4, s5, s6, s7, s8, s9, s10, s11⟩
               go_simp
               with_reducible rfl
              rotate_left
              ·simp only [Act.put, List.setIfInBounds_toArray, List.set_cons_zero, List.set_cons_succ, i64_w, i32_w]
               rfl
              refine take_ (i := 14) (N := some 82) (v := ?_) (a' := ?_) #[true, true, true, true, true, true, true, true, true, true, true, true, true, true, true, false, false] rfl rfl (take_ofW HT_.out HW_.out (by kernel_rfl)) (fun _ _ _ h => h) (Or.inl ⟨by rfl, ?_⟩) hHeld ?_ ?_
              rotate_left
              ·rintro w' ⟨s0, s1, s2, s3, s4, s5, s6, s7, s8, s9, s10, s11⟩
               go_simp
               with_reducible rfl
              rotate_left
              ·simp only [Act.put, List.setIfInBounds_toArray, List.set_cons_zero, List.set_cons_succ, i64_w, i32_w]
               rfl
              refine pure_ (i := 15) (N := some 83) (v := ?_) (a' := ?_) #[true, true, true, true, true, true, true, true, true, true, true, true, true, true, true, true, false] rfl rfl (any_of HT_.out (by kernel_rfl)) (fun _ _ _ h => h) (Or.inl ⟨by rfl, ?_⟩) ?_ ?_
              rotate_left
              ·intro w'
               go_simp
               with_reducible rfl
              rotate_left
              ·simp only [Act.put, List.setIfInBounds_toArray, List.set_cons_zero, List.set_cons_succ, i64_w, i32_w]
               rfl
              refine pure_ (i := 16) (N := some 84) (v := ?_) (a' := ?_) #[true, true, true, true, true, true, true, true, true, true, true, true, true, true, true, true, true] rfl rfl (any_of HT_.out (by kernel_rfl)) (fun _ _ _ h => h) (Or.inl ⟨by rfl, ?_⟩) ?_ ?_
              rotate_left
              ·intro w'
               go_simp
               with_reducible rfl
              rotate_left
              ·simp only [Act.put, List.setIfInBounds_toArray, List.set_cons_zero, List.set_cons_succ, i64_w, i32_w]
               rfl
              refine done_ (done_of HT_.out (by kernel_rfl)) ?_
              try go_wp2
              go_meet
              case rel => exact ⟨_, ((t389 != (rd t366 x51_1))), (by first | rfl | (simp; done) | (simp [*]; done)), H', ⟨by have := HK1.out; first | omega | exact Nat.le_refl _⟩, ⟨rk (HO_5.out)⟩, ⟨rk (HO_6.out)⟩, ⟨rk (HO_7.out)⟩, ⟨pk BK364.out⟩, ⟨pk BK365.out⟩, ⟨pk BK374.out⟩, ⟨pk BK383.out⟩, ⟨pk BK391.out⟩, ⟨by repeat first | (with_reducible first | exact HB.out | refine bz ?_ (by assumption) | apply bA | apply bN | apply bD) | exact HB.out⟩⟩
             ·rw [if_neg c46] at H
              exact absurd H (by simp)
            ·replace c45 := Bool.eq_false_iff.mpr c45
             subst c45
             have H1 : (laws_FnHold.j1 k1 t358 t361 t366 x51_1 (t358.length : Int) x51_1 true t347 t348 t349 t350 t351 t352 t353 x366000_1 x366001_1 x366002_1 x366003_1 t369 t370 t371 t372 t386 t387 t388 t389) = some r := by rw [if_neg (show ¬ (false = true) by decide)] at H; exact H
             clear H
             have H := H1
             clear H1
             have H' := Aside0.mk H
             clear H
             try go_wp2
             replace HO_5 := a_ (Kd.R_drew HO_5.out)
             replace HO_6 := a_ (Kd.R_drew HO_6.out)
             replace HO_7 := a_ (Kd.R_drew HO_7.out)
             replace BK364 := a_ (blk_drew BK364.out)
             replace BK365 := a_ (blk_drew BK365.out)
             replace BK374 := a_ (blk_drew BK374.out)
             replace BK383 := a_ (blk_drew BK383.out)
             replace BK391 := a_ (blk_drew BK391.out)
             replace HB := a_ (below_drew1 HB.out)
             refine start_ (n := 17) (S := fun w' => w'.cell? ⟨gb364, 0, none⟩ = some (.int .i64 t347) ∧ w'.cell? ⟨gb364, 1, none⟩ = some (.int .i64 t348) ∧ w'.cell? ⟨gb364, 2, none⟩ = some (.int .i64 t349) ∧ w'.cell? ⟨gb364, 3, none⟩ = some (.int .i64 t350) ∧ w'.cell? ⟨gb364, 4, none⟩ = some (.int .i64 t351) ∧ w'.cell? ⟨gb364, 5, none⟩ = some (.int .i64 t352) ∧ w'.cell? ⟨gb364, 6, none⟩ = some (.int .i64 t353) ∧ w'.cell? ⟨gb391, 0, none⟩ = some (.bool t386) ∧ w'.cell? ⟨gb391, 1, none⟩ = some (.int .i64 t387) ∧ w'.cell? ⟨gb391, 2, none⟩ = some (.int .i64 t388) ∧ w'.cell? ⟨gb391, 3, none⟩ = some (.int .i64 t389)) (ds := []) #[false, false, false, false, false, false, false, false, false, false, false, false, false, false, false, false, false] (by kernel_rfl) rfl rfl ⟨(blk_cell BK364.out 0).trans rfl, (blk_cell BK364.out 1).trans rfl, (blk_cell BK364.out 2).trans rfl, (blk_cell BK364.out 3).trans rfl, (blk_cell BK364.out 4).trans rfl, (blk_cell BK364.out 5).trans rfl, (blk_cell BK364.out 6).trans rfl, (blk_cell BK391.out 0).trans rfl, (blk_cell BK391.out 1).trans rfl, (blk_cell BK391.out 2).trans rfl, (blk_cell BK391.out 3).trans rfl⟩ (fun hHeld => ?_); refine with_tabW laws_FnHold.tab14 laws_FnHold.bits14 (fun HT_ HW_ => ?_)
             generalize w42.drew = w50 at HO_5 HO_6 HO_7 BK364 BK365 BK374 BK383 BK391 HB hHeld ⊢
             refine pure_ (i := 0) (N := some 68) (v := ?_) (a' := ?_) #[true, false, false, false, false, false, false, false, false, false, false, false, false, false, false, false, false] rfl rfl (any_of HT_.out (by kernel_rfl)) (fun _ _ _ h => h) (Or.inl ⟨by rfl, ?_⟩) ?_ ?_
             rotate_left
             ·intro w'
              go_simp
              with_reducible rfl
             rotate_left
             ·simp only [Act.put, List.setIfInBounds_toArray, List.set_cons_zero, List.set_cons_succ, i64_w, i32_w]
              rfl
             refine pure_ (i := 1) (N := some 69) (v := ?_) (a' := ?_) #[true, true, false, false, false, false, false, false, false, false, false, false, false, false, false, false, false] rfl rfl (any_of HT_.out (by kernel_rfl)) (fun _ _ _ h => h) (Or.inl ⟨by rfl, ?_⟩) ?_ ?_
             rotate_left
             ·intro w'
              go_simp
              with_reducible rfl
             rotate_left
             ·simp only [Act.put, List.setIfInBounds_toArray, List.set_cons_zero, List.set_cons_succ, i64_w, i32_w]
              rfl
             refine pure_ (i := 2) (N := some 70) (v := ?_) (a' := ?_) #[true, true, true, false, false, false, false, false, false, false, false, false, false, false, false, false, false] rfl rfl (any_of HT_.out (by kernel_rfl)) (fun _ _ _ h => h) (Or.inl ⟨by rfl, ?_⟩) ?_ ?_
             rotate_left
             ·intro w'
              go_simp
              with_reducible rfl
             rotate_left
             ·simp only [Act.put, List.setIfInBounds_toArray, List.set_cons_zero, List.set_cons_succ, i64_w, i32_w]
              rfl
             refine take_ (i := 3) (N := some 71) (v := ?_) (a' := ?_) #[true, true, true, true, false, false, false, false, false, false, false, false, false, false, false, false, false] rfl rfl (take_ofW HT_.out HW_.out (by kernel_rfl)) (fun _ _ _ h => h) (Or.inl ⟨by rfl, ?_⟩) hHeld ?_ ?_
             rotate_left
             ·rintro w' ⟨s0, s1, s2, s3, s4, s5, s6, s7, s8, s9, s10⟩
              go_simp
              with_reducible rfl
             rotate_left
             ·simp only [Act.put, List.setIfInBounds_toArray, List.set_cons_zero, List.set_cons_succ, i64_w, i32_w]
              rfl
             refine take_ (i := 4) (N := some 72) (v := ?_) (a' := ?_) #[true, true, true, true, true, false, false, false, false, false, false, false, false, false, false, false, false] rfl rfl (take_ofW HT_.out HW_.out (by kernel_rfl)) (fun _ _ _ h => h) (Or.inl ⟨by rfl, ?_⟩) hHeld ?_ ?_
             rotate_left
             ·rintro w' ⟨s0, s1, s2, s3, s4, s5, s6, s7, s8, s9, s10⟩
              go_simp
              with_reducible rfl
             rotate_left
             ·simp only [Act.put, List.setIfInBounds_toArray, List.set_cons_zero, List.set_cons_succ, i64_w, i32_w]
              rfl
             refine one_ (i := 5) (N := some 73) #[true, true, true, true, true, true, false, false, false, false, false, false, false, false, false, false, false] rfl rfl (one_of HT_.out (by kernel_rfl)) (by decide) (fun K hK => ?_)
             refine goes_ Try.func22 (by kernel_rfl) rfl #[.agg #[.int .i64 t347, .int .i64 t348, .int .i64 t349, .int .i64 t350, .int .i64 t351, .int .i64 t352, .int .i64 t353], .agg #[.bool t386, .int .i64 t387, .int .i64 t388, .int .i64 t389]] (by rfl) rfl rfl (by (try simp only [lA, lB, lC]); first | done | rfl | (simp only [lD, lE]; rfl)) ?_
             with_reducible refine (spec_GoodHold.calls t347 t348 t349 t350 t351 t352 t353 t386 t387 t388 t389 false _ A44.out).mono ?_
             rintro e w51 ⟨rfl, hb⟩
             refine ⟨_, rfl, ?_⟩
             replace HO_5 := a_ (Kd.R_below (rk HO_5.out) hb)
             replace HO_6 := a_ (Kd.R_below (rk HO_6.out) hb)
             replace HO_7 := a_ (Kd.R_below (rk HO_7.out) hb)
             replace BK364 := a_ (blk_below (pk BK364.out) hb)
             replace BK365 := a_ (blk_below (pk BK365.out) hb)
             replace BK374 := a_ (blk_below (pk BK374.out) hb)
             replace BK383 := a_ (blk_below (pk BK383.out) hb)
             replace BK391 := a_ (blk_below (pk BK391.out) hb)
             replace HB := a_ (below_step (by repeat first | (with_reducible first | exact HB.out | refine bz ?_ (by assumption) | apply bA | apply bN | apply bD) | exact HB.out) hb)
             (try clear hb)
             (try clear hb2)
             (try clear hk)
             (try clear hi)
             refine hK.out _ _ ⟨(blk_cell BK364.out 0).trans rfl, (blk_cell BK364.out 1).trans rfl, (blk_cell BK364.out 2).trans rfl, (blk_cell BK364.out 3).trans rfl, (blk_cell BK364.out 4).trans rfl, (blk_cell BK364.out 5).trans rfl, (blk_cell BK364.out 6).trans rfl, (blk_cell BK391.out 0).trans rfl, (blk_cell BK391.out 1).trans rfl, (blk_cell BK391.out 2).trans rfl, (blk_cell BK391.out 3).trans rfl⟩ (fun hHeld => ?_)
             clear hK K
             refine norm_ (a' := ?_) ?_ ?_
             rotate_left
             ·show Act.put _ (some 73) _ = _
              simp only [Act.put, List.setIfInBounds_toArray, List.set_cons_zero, List.set_cons_succ, i64_w, i32_w]
              rfl
             refine pure_ (i := 6) (N := some 74) (v := ?_) (a' := ?_) #[true, true, true, true, true, true, true, false, false, false, false, false, false, false, false, false, false] rfl rfl (any_of HT_.out (by kernel_rfl)) (fun _ _ _ h => h) (Or.inl ⟨by rfl, ?_⟩) ?_ ?_
             rotate_left
             ·intro w'
              go_simp
              with_reducible rfl
             rotate_left
             ·simp only [Act.put, List.setIfInBounds_toArray, List.set_cons_zero, List.set_cons_succ, i64_w, i32_w]
              rfl
             refine pure_ (i := 7) (N := some 75) (v := ?_) (a' := ?_) #[true, true, true, true, true, true, true, true, false, false, false, false, false, false, false, false, false] rfl rfl (any_of HT_.out (by kernel_rfl)) (fun _ _ _ h => h) (Or.inl ⟨by rfl, ?_⟩) ?_ ?_
             rotate_left
             ·intro w'
              go_simp
              with_reducible rfl
             rotate_left
             ·simp only [Act.put, List.setIfInBounds_toArray, List.set_cons_zero, List.set_cons_succ, i64_w, i32_w]
              rfl
             refine pure_ (i := 8) (N := some 76) (v := ?_) (a' := ?_) #[true, true, true, true, true, true, true, true, true, false, false, false, false, false, false, false, false] rfl rfl (any_of HT_.out (by kernel_rfl)) (fun _ _ _ h => h) (Or.inl ⟨by rfl, ?_⟩) ?_ ?_
             rotate_left
             ·intro w'
              go_simp
              with_reducible rfl
             rotate_left
             ·simp only [Act.put, List.setIfInBounds_toArray, List.set_cons_zero, List.set_cons_succ, i64_w, i32_w]
              rfl
             refine pure_ (i := 9) (N := some 77) (v := undef) (a' := ?_) #[true, true, true, true, true, true, true, true, true, true, false, false, false, false, false, false, false] rfl rfl (any_of HT_.out (by kernel_rfl)) (fun _ _ _ h => h) (Or.inr ⟨by rfl, rfl⟩) ?_ ?_
             rotate_left
             ·simp only [Act.put, List.setIfInBounds_toArray, List.set_cons_zero, List.set_cons_succ, i64_w, i32_w]
              rfl
             refine pure_ (i := 10) (N := some 78) (v := undef) (a' := ?_) #[true, true, true, true, true, true, true, true, true, true, true, false, false, false, false, false, false] rfl rfl (any_of HT_.out (by kernel_rfl)) (fun _ _ _ h => h) (Or.inr ⟨by rfl, rfl⟩) ?_ ?_
             rotate_left
             ·simp only [Act.put, List.setIfInBounds_toArray, List.set_cons_zero, List.set_cons_succ, i64_w, i32_w]
              rfl
             refine pure_ (i := 11) (N := some 79) (v := undef) (a' := ?_) #[true, true, true, true, true, true, true, true, true, true, true, true, false, false, false, false, false] rfl rfl (any_of HT_.out (by kernel_rfl)) (fun _ _ _ h => h) (Or.inr ⟨by rfl, rfl⟩) ?_ ?_
             rotate_left
             ·simp only [Act.put, List.setIfInBounds_toArray, List.set_cons_zero, List.set_cons_succ, i64_w, i32_w]
              rfl
             refine pure_ (i := 12) (N := some 80) (v := undef) (a' := ?_) #[true, true, true, true, true, true, true, true, true, true, true, true, true, false, false, false, false] rfl rfl (any_of HT_.out (by kernel_rfl)) (fun _ _ _ h => h) (Or.inr ⟨by rfl, rfl⟩) ?_ ?_
             rotate_left
             ·simp only [Act.put, List.setIfInBounds_toArray, List.set_cons_zero, List.set_cons_succ, i64_w, i32_w]
              rfl
             refine pure_ (i := 13) (N := some 81) (v := undef) (a' := ?_) #[true, true, true, true, true, true, true, true, true, true, true, true, true, true, false, false, false] rfl rfl (any_of HT_.out (by kernel_rfl)) (fun _ _ _ h => h) (Or.inr ⟨by rfl, rfl⟩) ?_ ?_
             rotate_left
             ·simp only [Act.put, List.setIfInBounds_toArray, List.set_cons_zero, List.set_cons_succ, i64_w, i32_w]
              rfl
             refine pure_ (i := 14) (N := some 82) (v := undef) (a' := ?_) #[true, true, true, true, true, true, true, true, true, true, true, true, true, true, true, false, false] rfl rfl (any_of HT_.out (by kernel_rfl)) (fun _ _ _ h => h) (Or.inr ⟨by rfl, rfl⟩) ?_ ?_
             rotate_left
             ·simp only [Act.put, List.setIfInBounds_toArray, List.set_cons_zero, List.set_cons_succ, i64_w, i32_w]
              rfl
             refine pure_ (i := 15) (N := some 83) (v := undef) (a' := ?_) #[true, true, true, true, true, true, true, true, true, true, true, true, true, true, true, true, false] rfl rfl (any_of HT_.out (by kernel_rfl)) (fun _ _ _ h => h) (Or.inr ⟨by rfl, rfl⟩) ?_ ?_
             rotate_left
             ·simp only [Act.put, List.setIfInBounds_toArray, List.set_cons_zero, List.set_cons_succ, i64_w, i32_w]
              rfl
             refine pure_ (i := 16) (N := some 84) (v := ?_) (a' := ?_) #[true, true, true, true, true, true, true, true, true, true, true, true, true, true, true, true, true] rfl rfl (any_of HT_.out (by kernel_rfl)) (fun _ _ _ h => h) (Or.inl ⟨by rfl, ?_⟩) ?_ ?_
             rotate_left
             ·intro w'
              go_simp
              with_reducible rfl
             rotate_left
             ·simp only [Act.put, List.setIfInBounds_toArray, List.set_cons_zero, List.set_cons_succ, i64_w, i32_w]
              rfl
             refine done_ (done_of HT_.out (by kernel_rfl)) ?_
             try go_wp2
             go_meet
             case rel => exact ⟨_, (true), (by first | rfl | (simp; done) | (simp [*]; done)), H', ⟨by have := HK1.out; first | omega | exact Nat.le_refl _⟩, ⟨rk (HO_5.out)⟩, ⟨rk (HO_6.out)⟩, ⟨rk (HO_7.out)⟩, ⟨pk BK364.out⟩, ⟨pk BK365.out⟩, ⟨pk BK374.out⟩, ⟨pk BK383.out⟩, ⟨pk BK391.out⟩, ⟨by repeat first | (with_reducible first | exact HB.out | refine bz ?_ (by assumption) | apply bA | apply bN | apply bD) | exact HB.out⟩⟩
           ·replace c43 := Bool.eq_false_iff.mpr c43
            subst c43
            have H1 : (laws_FnHold.j1 k1 t358 t361 t366 x51_1 (t358.length : Int) x51_1 true t347 t348 t349 t350 t351 t352 t353 x366000_1 x366001_1 x366002_1 x366003_1 t369 t370 t371 t372 t386 t387 t388 t389) = some r := by rw [if_neg (show ¬ (false = true) by decide)] at H; exact H
            clear H
            have H := H1
            clear H1
            have H' := Aside0.mk H
            clear H
            try go_wp2
            replace HO_5 := a_ (Kd.R_drew HO_5.out)
            replace HO_6 := a_ (Kd.R_drew HO_6.out)
            replace HO_7 := a_ (Kd.R_drew HO_7.out)
            replace BK364 := a_ (blk_drew BK364.out)
            replace BK365 := a_ (blk_drew BK365.out)
            replace BK374 := a_ (blk_drew BK374.out)
            replace BK383 := a_ (blk_drew BK383.out)
            replace BK391 := a_ (blk_drew BK391.out)
            replace HB := a_ (below_drew1 HB.out)
            refine start_ (n := 17) (S := fun w' => True) (ds := []) #[false, false, false, false, false, false, false, false, false, false, false, false, false, false, false, false, false] (by kernel_rfl) rfl rfl trivial (fun hHeld => ?_); refine with_tabW laws_FnHold.tab14 laws_FnHold.bits14 (fun HT_ HW_ => ?_)
            generalize w42.drew = w52 at HO_5 HO_6 HO_7 BK364 BK365 BK374 BK383 BK391 HB hHeld ⊢
            refine pure_ (i := 0) (N := some 68) (v := ?_) (a' := ?_) #[true, false, false, false, false, false, false, false, false, false, false, false, false, false, false, false, false] rfl rfl (any_of HT_.out (by kernel_rfl)) (fun _ _ _ h => h) (Or.inl ⟨by rfl, ?_⟩) ?_ ?_
            rotate_left
            ·intro w'
             go_simp
             with_reducible rfl
            rotate_left
            ·simp only [Act.put, List.setIfInBounds_toArray, List.set_cons_zero, List.set_cons_succ, i64_w, i32_w]
             rfl
            refine pure_ (i := 1) (N := some 69) (v := ?_) (a' := ?_) #[true, true, false, false, false, false, false, false, false, false, false, false, false, false, false, false, false] rfl rfl (any_of HT_.out (by kernel_rfl)) (fun _ _ _ h => h) (Or.inl ⟨by rfl, ?_⟩) ?_ ?_
            rotate_left
            ·intro w'
             go_simp
             with_reducible rfl
            rotate_left
            ·simp only [Act.put, List.setIfInBounds_toArray, List.set_cons_zero, List.set_cons_succ, i64_w, i32_w]
             rfl
            refine pure_ (i := 2) (N := some 70) (v := ?_) (a' := ?_) #[true, true, true, false, false, false, false, false, false, false, false, false, false, false, false, false, false] rfl rfl (any_of HT_.out (by kernel_rfl)) (fun _ _ _ h => h) (Or.inl ⟨by rfl, ?_⟩) ?_ ?_
            rotate_left
            ·intro w'
             go_simp
             with_reducible rfl
            rotate_left
            ·simp only [Act.put, List.setIfInBounds_toArray, List.set_cons_zero, List.set_cons_succ, i64_w, i32_w]
             rfl
            refine pure_ (i := 3) (N := some 71) (v := undef) (a' := ?_) #[true, true, true, true, false, false, false, false, false, false, false, false, false, false, false, false, false] rfl rfl (any_of HT_.out (by kernel_rfl)) (fun _ _ _ h => h) (Or.inr ⟨by rfl, rfl⟩) ?_ ?_
            rotate_left
            ·simp only [Act.put, List.setIfInBounds_toArray, List.set_cons_zero, List.set_cons_succ, i64_w, i32_w]
             rfl
            refine pure_ (i := 4) (N := some 72) (v := undef) (a' := ?_) #[true, true, true, true, true, false, false, false, false, false, false, false, false, false, false, false, false] rfl rfl (any_of HT_.out (by kernel_rfl)) (fun _ _ _ h => h) (Or.inr ⟨by rfl, rfl⟩) ?_ ?_
            rotate_left
            ·simp only [Act.put, List.setIfInBounds_toArray, List.set_cons_zero, List.set_cons_succ, i64_w, i32_w]
             rfl
            refine pure_ (i := 5) (N := some 73) (v := undef) (a' := ?_) #[true, true, true, true, true, true, false, false, false, false, false, false, false, false, false, false, false] rfl rfl (any_of HT_.out (by kernel_rfl)) (fun _ _ _ h => h) (Or.inr ⟨by rfl, rfl⟩) ?_ ?_
            rotate_left
            ·simp only [Act.put, List.setIfInBounds_toArray, List.set_cons_zero, List.set_cons_succ, i64_w, i32_w]
             rfl
            refine pure_ (i := 6) (N := some 74) (v := undef) (a' := ?_) #[true, true, true, true, true, true, true, false, false, false, false, false, false, false, false, false, false] rfl rfl (any_of HT_.out (by kernel_rfl)) (fun _ _ _ h => h) (Or.inr ⟨by rfl, rfl⟩) ?_ ?_
            rotate_left
            ·simp only [Act.put, List.setIfInBounds_toArray, List.set_cons_zero, List.set_cons_succ, i64_w, i32_w]
             rfl
            refine pure_ (i := 7) (N := some 75) (v := ?_) (a' := ?_) #[true, true, true, true, true, true, true, true, false, false, false, false, false, false, false, false, false] rfl rfl (any_of HT_.out (by kernel_rfl)) (fun _ _ _ h => h) (Or.inl ⟨by rfl, ?_⟩) ?_ ?_
            rotate_left
            ·intro w'
             go_simp
             with_reducible rfl
            rotate_left
            ·simp only [Act.put, List.setIfInBounds_toArray, List.set_cons_zero, List.set_cons_succ, i64_w, i32_w]
             rfl
            refine pure_ (i := 8) (N := some 76) (v := ?_) (a' := ?_) #[true, true, true, true, true, true, true, true, true, false, false, false, false, false, false, false, false] rfl rfl (any_of HT_.out (by kernel_rfl)) (fun _ _ _ h => h) (Or.inl ⟨by rfl, ?_⟩) ?_ ?_
            rotate_left
            ·intro w'
             go_simp
             with_reducible rfl
            rotate_left
            ·simp only [Act.put, List.setIfInBounds_toArray, List.set_cons_zero, List.set_cons_succ, i64_w, i32_w]
             rfl
            refine pure_ (i := 9) (N := some 77) (v := undef) (a' := ?_) #[true, true, true, true, true, true, true, true, true, true, false, false, false, false, false, false, false] rfl rfl (any_of HT_.out (by kernel_rfl)) (fun _ _ _ h => h) (Or.inr ⟨by rfl, rfl⟩) ?_ ?_
            rotate_left
            ·simp only [Act.put, List.setIfInBounds_toArray, List.set_cons_zero, List.set_cons_succ, i64_w, i32_w]
             rfl
            refine pure_ (i := 10) (N := some 78) (v := undef) (a' := ?_) #[true, true, true, true, true, true, true, true, true, true, true, false, false, false, false, false, false] rfl rfl (any_of HT_.out (by kernel_rfl)) (fun _ _ _ h => h) (Or.inr ⟨by rfl, rfl⟩) ?_ ?_
            rotate_left
            ·simp only [Act.put, List.setIfInBounds_toArray, List.set_cons_zero, List.set_cons_succ, i64_w, i32_w]
             rfl
            refine pure_ (i := 11) (N := some 79) (v := undef) (a' := ?_) #[true, true, true, true, true, true, true, true, true, true, true, true, false, false, false, false, false] rfl rfl (any_of HT_.out (by kernel_rfl)) (fun _ _ _ h => h) (Or.inr ⟨by rfl, rfl⟩) ?_ ?_
            rotate_left
            ·simp only [Act.put, List.setIfInBounds_toArray, List.set_cons_zero, List.set_cons_succ, i64_w, i32_w]
             rfl
            refine pure_ (i := 12) (N := some 80) (v := undef) (a' := ?_) #[true, true, true, true, true, true, true, true, true, true, true, true, true, false, false, false, false] rfl rfl (any_of HT_.out (by kernel_rfl)) (fun _ _ _ h => h) (Or.inr ⟨by rfl, rfl⟩) ?_ ?_
            rotate_left
            ·simp only [Act.put, List.setIfInBounds_toArray, List.set_cons_zero, List.set_cons_succ, i64_w, i32_w]
             rfl
            refine pure_ (i := 13) (N := some 81) (v := undef) (a' := ?_) #[true, true, true, true, true, true, true, true, true, true, true, true, true, true, false, false, false] rfl rfl (any_of HT_.out (by kernel_rfl)) (fun _ _ _ h => h) (Or.inr ⟨by rfl, rfl⟩) ?_ ?_
            rotate_left
            ·simp only [Act.put, List.setIfInBounds_toArray, List.set_cons_zero, List.set_cons_succ, i64_w, i32_w]
             rfl
            refine pure_ (i := 14) (N := some 82) (v := undef) (a' := ?_) #[true, true, true, true, true, true, true, true, true, true, true, true, true, true, true, false, false] rfl rfl (any_of HT_.out (by kernel_rfl)) (fun _ _ _ h => h) (Or.inr ⟨by rfl, rfl⟩) ?_ ?_
            rotate_left
            ·simp only [Act.put, List.setIfInBounds_toArray, List.set_cons_zero, List.set_cons_succ, i64_w, i32_w]
             rfl
            refine pure_ (i := 15) (N := some 83) (v := undef) (a' := ?_) #[true, true, true, true, true, true, true, true, true, true, true, true, true, true, true, true, false] rfl rfl (any_of HT_.out (by kernel_rfl)) (fun _ _ _ h => h) (Or.inr ⟨by rfl, rfl⟩) ?_ ?_
            rotate_left
            ·simp only [Act.put, List.setIfInBounds_toArray, List.set_cons_zero, List.set_cons_succ, i64_w, i32_w]
             rfl
            refine pure_ (i := 16) (N := some 84) (v := ?_) (a' := ?_) #[true, true, true, true, true, true, true, true, true, true, true, true, true, true, true, true, true] rfl rfl (any_of HT_.out (by kernel_rfl)) (fun _ _ _ h => h) (Or.inl ⟨by rfl, ?_⟩) ?_ ?_
            rotate_left
            ·intro w'
             go_simp
             with_reducible rfl
            rotate_left
            ·simp only [Act.put, List.setIfInBounds_toArray, List.set_cons_zero, List.set_cons_succ, i64_w, i32_w]
             rfl
            refine done_ (done_of HT_.out (by kernel_rfl)) ?_
            try go_wp2
            go_meet
            case rel => exact ⟨_, (true), (by first | rfl | (simp; done) | (simp [*]; done)), H', ⟨by have := HK1.out; first | omega | exact Nat.le_refl _⟩, ⟨rk (HO_5.out)⟩, ⟨rk (HO_6.out)⟩, ⟨rk (HO_7.out)⟩, ⟨pk BK364.out⟩, ⟨pk BK365.out⟩, ⟨pk BK374.out⟩, ⟨pk BK383.out⟩, ⟨pk BK391.out⟩, ⟨by repeat first | (with_reducible first | exact HB.out | refine bz ?_ (by assumption) | apply bA | apply bN | apply bD) | exact HB.out⟩⟩
          case rest =>
           clear HC34
           try clear c2
           try clear p2
           try clear p3
           try clear q3
           try clear hx3
           try clear c4
           try clear c22
           try clear p39
           try clear q39
           try clear hx39
           try clear c43
           try clear c45
           try clear c46
           try clear c46b0
           try clear hx393_0
           try clear p393
           try clear q393
           obtain ⟨kq, x84_33, rfl, HA, HJ33, HO_5, HO_6, HO_7, BK364, BK365, BK374, BK383, BK391, HB⟩ := hcut
           cases kq with
           | zero => exact absurd HA.out (by simp [laws_FnHold.j1])
           | succ kj33 =>
            have H := HA.out
            clear HA
            simp only [laws_FnHold.j1] at H
            by_cases c53 : x84_33 = true
            ·subst c53
             have H1 : (none) = some r := by rw [if_pos rfl] at H; exact H
             clear H
             have H := H1
             clear H1
             exact absurd H (by simp)
            ·replace c53 := Bool.eq_false_iff.mpr c53
             subst c53
             have H1 : (if 0 ≤ x51_1 then (if x51_1 < (t358.length : Int) then (if x51_1 < (t361.length : Int) then ((spec_HoldFine.f kj33 t347 t348 t349 t350 t351 t352 t353 x366000_1 x366001_1 x366002_1 x366003_1 t386 t387 t388 t389 (wrap64 ((rd t358 x51_1) - (rd t361 x51_1)))).bind fun t396 => (if t396 = true then (laws_FnHold.l0 kj33 t358 t361 t366 (t358.length : Int) (wrap64 (x51_1 + 1)) t347 t348 t349 t350 t351 t352 t353 t386 t387 t388 t389 t369 t370 t371 t372) else (none))) else (none)) else (none)) else (none)) = some r := by rw [if_neg (show ¬ (false = true) by decide)] at H; exact H
             clear H
             have H := H1
             clear H1
             by_cases c54 : 0 ≤ x51_1
             ·rw [if_pos c54] at H
              have c54b0 : decide (0 ≤ x51_1) = true := decide_eq_true c54
              clear c54
              by_cases c55 : x51_1 < (t358.length : Int)
              ·rw [if_pos c55] at H
               have c55b0 : decide (x51_1 < (t358.length : Int)) = true := decide_eq_true c55
               clear c55
               by_cases c56 : x51_1 < (t361.length : Int)
               ·rw [if_pos c56] at H
                have c56b0 : decide (x51_1 < (t361.length : Int)) = true := decide_eq_true c56
                clear c56
                replace H := Option.bind_eq_some_iff.mp H
                obtain ⟨t396, A570, H⟩ := H
                have A57 := Aside0.mk A570
                clear A570
                by_cases c58 : t396 = true
                ·subst c58
                 have H1 : (laws_FnHold.l0 kj33 t358 t361 t366 (t358.length : Int) (wrap64 (x51_1 + 1)) t347 t348 t349 t350 t351 t352 t353 t386 t387 t388 t389 t369 t370 t371 t372) = some r := by rw [if_pos rfl] at H; exact H
                 clear H
                 have H := H1
                 clear H1
                 have H' := Aside0.mk H
                 clear H
                 try go_wp2
                 replace HO_5 := a_ (Kd.R_drew HO_5.out)
                 replace HO_6 := a_ (Kd.R_drew HO_6.out)
                 replace HO_7 := a_ (Kd.R_drew HO_7.out)
                 replace BK364 := a_ (blk_drew BK364.out)
                 replace BK365 := a_ (blk_drew BK365.out)
                 replace BK374 := a_ (blk_drew BK374.out)
                 replace BK383 := a_ (blk_drew BK383.out)
                 replace BK391 := a_ (blk_drew BK391.out)
                 replace HB := a_ (below_drew1 HB.out)
                 (first | (obtain ⟨Ao394, co394, eo394⟩ := Kd.R_slice HO_5.out; subst eo394) | skip)
                 have p394 : 0 ≤ (x51_1 : Int) := of_decide_eq_true (by first | (with_reducible assumption) | assumption)
                 have q394 : x51_1 < (t358.length : Int) := of_decide_eq_true (by first | (with_reducible assumption) | assumption)
                 obtain ⟨ad394, e394, hx394_0⟩ := Kd.at_int (Kd.R_reads' HO_5.out).2.2 x51_1 p394 q394
                 obtain rfl : ad384 = ad394 := (by injection e394)
                 replace p394 := eq_true p394
                 replace q394 := eq_true q394
                 (first | (obtain ⟨Ao395, co395, eo395⟩ := Kd.R_slice HO_6.out; subst eo395) | skip)
                 have p395 : 0 ≤ (x51_1 : Int) := of_decide_eq_true (by first | (with_reducible assumption) | assumption)
                 have q395 : x51_1 < (t361.length : Int) := of_decide_eq_true (by first | (with_reducible assumption) | assumption)
                 obtain ⟨ad395, e395, hx395_0⟩ := Kd.at_int (Kd.R_reads' HO_6.out).2.2 x51_1 p395 q395
                 obtain rfl : ad385 = ad395 := (by injection e395)
                 replace p395 := eq_true p395
                 replace q395 := eq_true q395
                 refine start_ (n := 14) (S := fun w' => w'.cell? ⟨gb364, 0, none⟩ = some (.int .i64 t347) ∧ w'.cell? ⟨gb364, 1, none⟩ = some (.int .i64 t348) ∧ w'.cell? ⟨gb364, 2, none⟩ = some (.int .i64 t349) ∧ w'.cell? ⟨gb364, 3, none⟩ = some (.int .i64 t350) ∧ w'.cell? ⟨gb364, 4, none⟩ = some (.int .i64 t351) ∧ w'.cell? ⟨gb364, 5, none⟩ = some (.int .i64 t352) ∧ w'.cell? ⟨gb364, 6, none⟩ = some (.int .i64 t353) ∧ w'.cell? ⟨gb365, 0, none⟩ = some (.bool x366000_1) ∧ w'.cell? ⟨gb365, 1, none⟩ = some (.int .i64 x366001_1) ∧ w'.cell? ⟨gb365, 2, none⟩ = some (.int .i64 x366002_1) ∧ w'.cell? ⟨gb365, 3, none⟩ = some (.int .i64 x366003_1) ∧ w'.cell? ⟨gb391, 0, none⟩ = some (.bool t386) ∧ w'.cell? ⟨gb391, 1, none⟩ = some (.int .i64 t387) ∧ w'.cell? ⟨gb391, 2, none⟩ = some (.int .i64 t388) ∧ w'.cell? ⟨gb391, 3, none⟩ = some (.int .i64 t389) ∧ w'.cell? (ad384.add (x51_1).toNat) = some (.int .i64 (rd t358 x51_1)) ∧ w'.cell? (ad385.add (x51_1).toNat) = some (.int .i64 (rd t361 x51_1))) (ds := []) #[false, false, false, false, false, false, false, false, false, false, false, false, false, false] (by kernel_rfl) rfl rfl ⟨(blk_cell BK364.out 0).trans rfl, (blk_cell BK364.out 1).trans rfl, (blk_cell BK364.out 2).trans rfl, (blk_cell BK364.out 3).trans rfl, (blk_cell BK364.out 4).trans rfl, (blk_cell BK364.out 5).trans rfl, (blk_cell BK364.out 6).trans rfl, (blk_cell BK365.out 0).trans rfl, (blk_cell BK365.out 1).trans rfl, (blk_cell BK365.out 2).trans rfl, (blk_cell BK365.out 3).trans rfl, (blk_cell BK391.out 0).trans rfl, (blk_cell BK391.out 1).trans rfl, (blk_cell BK391.out 2).trans rfl, (blk_cell BK391.out 3).trans rfl, hx394_0, hx395_0⟩ (fun hHeld => ?_); refine with_tabW laws_FnHold.tab16 laws_FnHold.bits16 (fun HT_ HW_ => ?_)
                 generalize wc.drew = w59 at HO_5 HO_6 HO_7 BK364 BK365 BK374 BK383 BK391 HB hx394_0 hx395_0 hHeld ⊢
                 refine pure_ (i := 3) (N := some 88) (v := ?_) (a' := ?_) #[false, false, false, true, false, false, false, false, false, false, false, false, false, false] rfl rfl (any_of HT_.out (by kernel_rfl)) (fun _ _ _ h => h) (Or.inl ⟨by rfl, ?_⟩) ?_ ?_
                 rotate_left
                 ·intro w'
                  go_simp
                  with_reducible rfl
                 rotate_left
                 ·simp only [Act.put, List.setIfInBounds_toArray, List.set_cons_zero, List.set_cons_succ, i64_w, i32_w]
                  rfl
                 refine pure_ (i := 4) (N := some 89) (v := ?_) (a' := ?_) #[false, false, false, true, true, false, false, false, false, false, false, false, false, false] rfl rfl (any_of HT_.out (by kernel_rfl)) (fun _ _ _ h => h) (Or.inl ⟨by rfl, ?_⟩) ?_ ?_
                 rotate_left
                 ·intro w'
                  go_simp
                  with_reducible rfl
                 rotate_left
                 ·simp only [Act.put, List.setIfInBounds_toArray, List.set_cons_zero, List.set_cons_succ, i64_w, i32_w]
                  rfl
                 refine pure_ (i := 5) (N := some 90) (v := ?_) (a' := ?_) #[false, false, false, true, true, true, false, false, false, false, false, false, false, false] rfl rfl (any_of HT_.out (by kernel_rfl)) (fun _ _ _ h => h) (Or.inl ⟨by rfl, ?_⟩) ?_ ?_
                 rotate_left
                 ·intro w'
                  go_simp
                  with_reducible rfl
                 rotate_left
                 ·simp only [Act.put, List.setIfInBounds_toArray, List.set_cons_zero, List.set_cons_succ, i64_w, i32_w]
                  rfl
                 refine pure_ (i := 7) (N := some 92) (v := ?_) (a' := ?_) #[false, false, false, true, true, true, false, true, false, false, false, false, false, false] rfl rfl (any_of HT_.out (by kernel_rfl)) (fun _ _ _ h => h) (Or.inl ⟨by rfl, ?_⟩) ?_ ?_
                 rotate_left
                 ·intro w'
                  go_simp
                  with_reducible rfl
                 rotate_left
                 ·simp only [Act.put, List.setIfInBounds_toArray, List.set_cons_zero, List.set_cons_succ, i64_w, i32_w]
                  rfl
                 refine pure_ (i := 8) (N := some 93) (v := ?_) (a' := ?_) #[false, false, false, true, true, true, false, true, true, false, false, false, false, false] rfl rfl (any_of HT_.out (by kernel_rfl)) (fun _ _ _ h => h) (Or.inl ⟨by rfl, ?_⟩) ?_ ?_
                 rotate_left
                 ·intro w'
                  go_simp
                  with_reducible rfl
                 rotate_left
                 ·simp only [Act.put, List.setIfInBounds_toArray, List.set_cons_zero, List.set_cons_succ, i64_w, i32_w]
                  rfl
                 refine pure_ (i := 9) (N := some 94) (v := ?_) (a' := ?_) #[false, false, false, true, true, true, false, true, true, true, false, false, false, false] rfl rfl (any_of HT_.out (by kernel_rfl)) (fun _ _ _ h => h) (Or.inl ⟨by rfl, ?_⟩) ?_ ?_
                 rotate_left
                 ·intro w'
                  go_simp
                  with_reducible rfl
                 rotate_left
                 ·simp only [Act.put, List.setIfInBounds_toArray, List.set_cons_zero, List.set_cons_succ, i64_w, i32_w]
                  rfl
                 refine take_ (i := 0) (N := some 85) (v := ?_) (a' := ?_) #[true, false, false, true, true, true, false, true, true, true, false, false, false, false] rfl rfl (take_ofW HT_.out HW_.out (by kernel_rfl)) (fun _ _ _ h => h) (Or.inl ⟨by rfl, ?_⟩) hHeld ?_ ?_
                 rotate_left
                 ·rintro w' ⟨s0, s1, s2, s3, s4, s5, s6, s7, s8, s9, s10, s11, s12, s13, s14, s15, s16⟩
                  go_simp
                  with_reducible rfl
                 rotate_left
                 ·simp only [Act.put, List.setIfInBounds_toArray, List.set_cons_zero, List.set_cons_succ, i64_w, i32_w]
                  rfl
                 refine take_ (i := 1) (N := some 86) (v := ?_) (a' := ?_) #[true, true, false, true, true, true, false, true, true, true, false, false, false, false] rfl rfl (take_ofW HT_.out HW_.out (by kernel_rfl)) (fun _ _ _ h => h) (Or.inl ⟨by rfl, ?_⟩) hHeld ?_ ?_
                 rotate_left
                 ·rintro w' ⟨s0, s1, s2, s3, s4, s5, s6, s7, s8, s9, s10, s11, s12, s13, s14, s15, s16⟩
                  go_simp
                  with_reducible rfl
                 rotate_left
                 ·simp only [Act.put, List.setIfInBounds_toArray, List.set_cons_zero, List.set_cons_succ, i64_w, i32_w]
                  rfl
                 refine take_ (i := 2) (N := some 87) (v := ?_) (a' := ?_) #[true, true, true, true, true, true, false, true, true, true, false, false, false, false] rfl rfl (take_ofW HT_.out HW_.out (by kernel_rfl)) (fun _ _ _ h => h) (Or.inl ⟨by rfl, ?_⟩) hHeld ?_ ?_
                 rotate_left
                 ·rintro w' ⟨s0, s1, s2, s3, s4, s5, s6, s7, s8, s9, s10, s11, s12, s13, s14, s15, s16⟩
                  go_simp
                  with_reducible rfl
                 rotate_left
                 ·simp only [Act.put, List.setIfInBounds_toArray, List.set_cons_zero, List.set_cons_succ, i64_w, i32_w]
                  rfl
                 refine take_ (i := 6) (N := some 91) (v := ?_) (a' := ?_) #[true, true, true, true, true, true, true, true, true, true, false, false, false, false] rfl rfl (take_ofW HT_.out HW_.out (by kernel_rfl)) (fun _ _ _ h => h) (Or.inl ⟨by rfl, ?_⟩) hHeld ?_ ?_
                 rotate_left
                 ·rintro w' ⟨s0, s1, s2, s3, s4, s5, s6, s7, s8, s9, s10, s11, s12, s13, s14, s15, s16⟩
                  go_simp
                  with_reducible rfl
                 rotate_left
                 ·simp only [Act.put, List.setIfInBounds_toArray, List.set_cons_zero, List.set_cons_succ, i64_w, i32_w]
                  rfl
                 refine take_ (i := 10) (N := some 95) (v := ?_) (a' := ?_) #[true, true, true, true, true, true, true, true, true, true, true, false, false, false] rfl rfl (take_ofW HT_.out HW_.out (by kernel_rfl)) (fun _ _ _ h => h) (Or.inl ⟨by rfl, ?_⟩) hHeld ?_ ?_
                 rotate_left
                 ·rintro w' ⟨s0, s1, s2, s3, s4, s5, s6, s7, s8, s9, s10, s11, s12, s13, s14, s15, s16⟩
                  go_simp
                  with_reducible rfl
                 rotate_left
                 ·simp only [Act.put, List.setIfInBounds_toArray, List.set_cons_zero, List.set_cons_succ, i64_w, i32_w]
                  rfl
                 refine pure_ (i := 11) (N := some 96) (v := ?_) (a' := ?_) #[true, true, true, true, true, true, true, true, true, true, true, true, false, false] rfl rfl (any_of HT_.out (by kernel_rfl)) (fun _ _ _ h => h) (Or.inl ⟨by rfl, ?_⟩) ?_ ?_
                 rotate_left
                 ·intro w'
                  go_simp
                  with_reducible rfl
                 rotate_left
                 ·simp only [Act.put, List.setIfInBounds_toArray, List.set_cons_zero, List.set_cons_succ, i64_w, i32_w]
                  rfl
                 refine one_ (i := 12) (N := some 97) #[true, true, true, true, true, true, true, true, true, true, true, true, true, false] rfl rfl (one_of HT_.out (by kernel_rfl)) (by decide) (fun K hK => ?_)
                 refine goes_ Try.func23 (by kernel_rfl) rfl #[.agg #[.int .i64 t347, .int .i64 t348, .int .i64 t349, .int .i64 t350, .int .i64 t351, .int .i64 t352, .int .i64 t353], .agg #[.bool x366000_1, .int .i64 x366001_1, .int .i64 x366002_1, .int .i64 x366003_1], .agg #[.bool t386, .int .i64 t387, .int .i64 t388, .int .i64 t389], .int .i64 (wrap64 ((rd t358 x51_1) - (rd t361 x51_1)))] (by rfl) rfl rfl (by (try simp only [lA, lB, lC]); first | done | rfl | (simp only [lD, lE]; rfl)) ?_
                 with_reducible refine (spec_HoldFine.calls kj33 t347 t348 t349 t350 t351 t352 t353 x366000_1 x366001_1 x366002_1 x366003_1 t386 t387 t388 t389 (wrap64 ((rd t358 x51_1) - (rd t361 x51_1))) true _ A57.out).mono ?_
                 rintro e w60 ⟨rfl, hb⟩
                 have HS15_ := (hb.cell (World.block_lt_of_cell? _ _ (hHeld.2.2.2.2.2.2.2.2.2.2.2.2.2.2.2.1))).trans (hHeld.2.2.2.2.2.2.2.2.2.2.2.2.2.2.2.1)
                 have HS16_ := (hb.cell (World.block_lt_of_cell? _ _ (hHeld.2.2.2.2.2.2.2.2.2.2.2.2.2.2.2.2))).trans (hHeld.2.2.2.2.2.2.2.2.2.2.2.2.2.2.2.2)
                 refine ⟨_, rfl, ?_⟩
                 replace HO_5 := a_ (Kd.R_below (rk HO_5.out) hb)
                 replace HO_6 := a_ (Kd.R_below (rk HO_6.out) hb)
                 replace HO_7 := a_ (Kd.R_below (rk HO_7.out) hb)
                 replace BK364 := a_ (blk_below (pk BK364.out) hb)
                 replace BK365 := a_ (blk_below (pk BK365.out) hb)
                 replace BK374 := a_ (blk_below (pk BK374.out) hb)
                 replace BK383 := a_ (blk_below (pk BK383.out) hb)
                 replace BK391 := a_ (blk_below (pk BK391.out) hb)
                 replace HB := a_ (below_step (by repeat first | (with_reducible first | exact HB.out | refine bz ?_ (by assumption) | apply bA | apply bN | apply bD) | exact HB.out) hb)
                 (try clear hb)
                 (try clear hb2)
                 (try clear hk)
                 (try clear hi)
                 refine hK.out _ _ ⟨(blk_cell BK364.out 0).trans rfl, (blk_cell BK364.out 1).trans rfl, (blk_cell BK364.out 2).trans rfl, (blk_cell BK364.out 3).trans rfl, (blk_cell BK364.out 4).trans rfl, (blk_cell BK364.out 5).trans rfl, (blk_cell BK364.out 6).trans rfl, (blk_cell BK365.out 0).trans rfl, (blk_cell BK365.out 1).trans rfl, (blk_cell BK365.out 2).trans rfl, (blk_cell BK365.out 3).trans rfl, (blk_cell BK391.out 0).trans rfl, (blk_cell BK391.out 1).trans rfl, (blk_cell BK391.out 2).trans rfl, (blk_cell BK391.out 3).trans rfl, HS15_, HS16_⟩ (fun hHeld => ?_)
                 clear hK K
                 refine norm_ (a' := ?_) ?_ ?_
                 rotate_left
                 ·show Act.put _ (some 97) _ = _
                  simp only [Act.put, List.setIfInBounds_toArray, List.set_cons_zero, List.set_cons_succ, i64_w, i32_w]
                  rfl
                 refine pure_ (i := 13) (N := some 98) (v := ?_) (a' := ?_) #[true, true, true, true, true, true, true, true, true, true, true, true, true, true] rfl rfl (any_of HT_.out (by kernel_rfl)) (fun _ _ _ h => h) (Or.inl ⟨by rfl, ?_⟩) ?_ ?_
                 rotate_left
                 ·intro w'
                  go_simp
                  with_reducible rfl
                 rotate_left
                 ·simp only [Act.put, List.setIfInBounds_toArray, List.set_cons_zero, List.set_cons_succ, i64_w, i32_w]
                  rfl
                 refine done_ (done_of HT_.out (by kernel_rfl)) ?_
                 have hnb61 := NB391_364.out
                 have hnc61 := NB364_391.out
                 have hnb62 := NB391_365.out
                 have hnc62 := NB365_391.out
                 have hnb63 := NB391_374.out
                 have hnc63 := NB374_391.out
                 have hnb64 := NB391_383.out
                 have hnc64 := NB383_391.out
                 have hcz65_0 : _ = some (Value.bool t386) := (blk_cell BK391.out 0).trans rfl
                 have hcz65_1 : _ = some (Value.int .i64 t387) := (blk_cell BK391.out 1).trans rfl
                 have hcz65_2 : _ = some (Value.int .i64 t388) := (blk_cell BK391.out 2).trans rfl
                 have hcz65_3 : _ = some (Value.int .i64 t389) := (blk_cell BK391.out 3).trans rfl
                 have hfz65_0 := blk_frozen BK391.out 0
                 have hfz65_1 := blk_frozen BK391.out 1
                 have hfz65_2 := blk_frozen BK391.out 2
                 have hfz65_3 := blk_frozen BK391.out 3
                 have hnb66 := NB365_364.out
                 have hnc66 := NB364_365.out
                 have hnb67 := NB365_374.out
                 have hnc67 := NB374_365.out
                 have hnb68 := NB365_383.out
                 have hnc68 := NB383_365.out
                 have hcz69_0 : _ = some (Value.bool x366000_1) := (blk_cell BK365.out 0).trans rfl
                 have hcz69_1 : _ = some (Value.int .i64 x366001_1) := (blk_cell BK365.out 1).trans rfl
                 have hcz69_2 : _ = some (Value.int .i64 x366002_1) := (blk_cell BK365.out 2).trans rfl
                 have hcz69_3 : _ = some (Value.int .i64 x366003_1) := (blk_cell BK365.out 3).trans rfl
                 have hfz69_0 := blk_frozen BK365.out 0
                 have hfz69_1 := blk_frozen BK365.out 1
                 have hfz69_2 := blk_frozen BK365.out 2
                 have hfz69_3 := blk_frozen BK365.out 3
                 try go_wp2
                 go_roundg kj33
                 case measure => have := HK1.out; have := HJ33.out; omega
                 case rel => exact ⟨(wrap64 (x51_1 + 1)), (t386), (t387), (t388), (t389), (by first | rfl | (simp; done) | (simp [*]; done)), H', ⟨by have := HK1.out; have := HJ33.out; omega⟩, ⟨rk (Kd.R_mono (fr4 HO_5.out BK365.out (by decide) 0 (.bool t386) 1 (.int .i64 t387) 2 (.int .i64 t388) 3 (.int .i64 t389)) (fun _ hk => hk.1))⟩, ⟨rk (Kd.R_mono (fr4 HO_6.out BK365.out (by decide) 0 (.bool t386) 1 (.int .i64 t387) 2 (.int .i64 t388) 3 (.int .i64 t389)) (fun _ hk => hk.1))⟩, ⟨rk (Kd.R_mono (fr4 HO_7.out BK365.out (by decide) 0 (.bool t386) 1 (.int .i64 t387) 2 (.int .i64 t388) 3 (.int .i64 t389)) (fun _ hk => hk.1))⟩, ⟨by refine pk ?_; refine blk_far ?_ NB364_365.out _; refine pk ?_; refine blk_far ?_ NB364_365.out _; refine pk ?_; refine blk_far ?_ NB364_365.out _; refine pk ?_; refine blk_far ?_ NB364_365.out _; refine pk ?_; exact BK364.out⟩, ⟨by refine pk ?_; refine blk_put (cs := #[.bool t386, .int .i64 t387, .int .i64 t388, .int .i64 x366003_1]) ?_ 3 _ rfl; refine pk ?_; refine blk_put (cs := #[.bool t386, .int .i64 t387, .int .i64 x366002_1, .int .i64 x366003_1]) ?_ 2 _ rfl; refine pk ?_; refine blk_put (cs := #[.bool t386, .int .i64 x366001_1, .int .i64 x366002_1, .int .i64 x366003_1]) ?_ 1 _ rfl; refine pk ?_; refine blk_put (cs := #[.bool x366000_1, .int .i64 x366001_1, .int .i64 x366002_1, .int .i64 x366003_1]) ?_ 0 _ rfl; refine pk ?_; exact BK365.out⟩, ⟨by refine pk ?_; refine blk_far ?_ NB374_365.out _; refine pk ?_; refine blk_far ?_ NB374_365.out _; refine pk ?_; refine blk_far ?_ NB374_365.out _; refine pk ?_; refine blk_far ?_ NB374_365.out _; refine pk ?_; exact BK374.out⟩, ⟨by refine pk ?_; refine blk_far ?_ NB383_365.out _; refine pk ?_; refine blk_far ?_ NB383_365.out _; refine pk ?_; refine blk_far ?_ NB383_365.out _; refine pk ?_; refine blk_far ?_ NB383_365.out _; refine pk ?_; exact BK383.out⟩, ⟨by repeat first | (with_reducible first | exact HB.out | refine bz ?_ (by assumption) | apply bA | apply bN | apply bD) | exact HB.out⟩⟩
                ·replace c58 := Bool.eq_false_iff.mpr c58
                 subst c58
                 have H1 : (none) = some r := by rw [if_neg (show ¬ (false = true) by decide)] at H; exact H
                 clear H
                 have H := H1
                 clear H1
                 exact absurd H (by simp)
               ·rw [if_neg c56] at H
                exact absurd H (by simp)
              ·rw [if_neg c55] at H
               exact absurd H (by simp)
             ·rw [if_neg c54] at H
              exact absurd H (by simp)
         ·rw [if_neg c32] at H
          exact absurd H (by simp)
        ·rw [if_neg c31] at H
         exact absurd H (by simp)
       ·rw [if_neg c30] at H
        exact absurd H (by simp)
      ·rw [if_neg c29] at H
       have c29b0 : decide (x51_1 < (t358.length : Int)) = false := decide_eq_false c29
       clear c29
       obtain rfl := Option.some.inj H
       have hnb70 := NB374_364.out
       have hnc70 := NB364_374.out
       have hnb71 := NB374_365.out
       have hnc71 := NB365_374.out
       have hnb72 := NB374_383.out
       have hnc72 := NB383_374.out
       have hcz73_0 : wr.cell? ⟨gb374, 0, none⟩ = some (.bool t369) := (blk_cell BK374.out 0).trans rfl
       have hcz73_1 : wr.cell? ⟨gb374, 1, none⟩ = some (.int .i64 t370) := (blk_cell BK374.out 1).trans rfl
       have hcz73_2 : wr.cell? ⟨gb374, 2, none⟩ = some (.int .i64 t371) := (blk_cell BK374.out 2).trans rfl
       have hcz73_3 : wr.cell? ⟨gb374, 3, none⟩ = some (.int .i64 t372) := (blk_cell BK374.out 3).trans rfl
       have hfz73_0 := blk_frozen BK374.out 0
       have hfz73_1 := blk_frozen BK374.out 1
       have hfz73_2 := blk_frozen BK374.out 2
       have hfz73_3 := blk_frozen BK374.out 3
       have hnb74 := NB365_364.out
       have hnc74 := NB364_365.out
       have hnb75 := NB365_383.out
       have hnc75 := NB383_365.out
       have hcz76_0 : wr.cell? ⟨gb365, 0, none⟩ = some (.bool x366000_1) := (blk_cell BK365.out 0).trans rfl
       have hcz76_1 : wr.cell? ⟨gb365, 1, none⟩ = some (.int .i64 x366001_1) := (blk_cell BK365.out 1).trans rfl
       have hcz76_2 : wr.cell? ⟨gb365, 2, none⟩ = some (.int .i64 x366002_1) := (blk_cell BK365.out 2).trans rfl
       have hcz76_3 : wr.cell? ⟨gb365, 3, none⟩ = some (.int .i64 x366003_1) := (blk_cell BK365.out 3).trans rfl
       have hfz76_0 := blk_frozen BK365.out 0
       have hfz76_1 := blk_frozen BK365.out 1
       have hfz76_2 := blk_frozen BK365.out 2
       have hfz76_3 := blk_frozen BK365.out 3
       go_wp2
       go_ret
       exact ⟨by first | rfl | (simp [errW_none, errW_some] <;> rfl) | (simp [*, errW_none, errW_some] <;> rfl), by repeat first | (with_reducible first | exact HB.out | refine bz ?_ (by assumption) | apply bA | apply bN | apply bD) | exact HB.out⟩
   ·replace c7 := Bool.eq_false_iff.mpr c7
    subst c7
    have H1 : (some true) = some r := by rw [if_neg (show ¬ (false = true) by decide)] at H; exact H
    clear H
    have H := H1
    clear H1
    obtain rfl := Option.some.inj H
    go_enter Try.func5, Try.ntmps5
    go_wp2_with (first | ((with_reducible refine gate_callee (f := 21) rfl ?_); refine goesL_ (some 21) rfl rfl Try.func21 (by kernel_rfl) rfl #[.slice A0 l0.length c0] rfl (by (try simp only [lA, lB, lC]); first | done | rfl | (simp only [lD, lE]; rfl)) ?_; (with_reducible refine (spec_DrawRunHold.calls k _ _ l0 t347 t348 t349 t350 t351 t352 t353 t354 t355 t356 t357 t358 t361 _ ?side1 ?side2 A3.out).mono ?_); (case side1 => repeat (first | exact HR0.out | (with_reducible refine Kd.C_alloc ?_ _) | (with_reducible refine Kd.C_drewN ?_ _) | (with_reducible refine Kd.C_drew ?_))); (case side2 => exact HC0.out); rintro e w77 ⟨v359, v362, rfl, ho0, ho1, hb⟩; refine ⟨_, rfl, ?_⟩; have HO360 := a_ (Kd.R_lower ho0 (bs HB.out)); have HO363 := a_ (Kd.R_lower ho1 (bs HB.out)); replace HB := a_ (below_step (un HB.out) hb); clear hb ho0 ho1) | ((with_reducible refine gate_dst (N := 3) rfl ?_); refine box_event ?hg (N := 3) ?hd (cs := #[.int .i64 0, .int .i64 0, .int .i64 0, .int .i64 0, .int .i64 0, .int .i64 0, .int .i64 0]) (t := 30) ?hr ?_; (case hd => rfl); (case hg => rfl); (case hr => first | (go_simp; done) | (go_simp; rfl)); intro gb364 hg w78 hbox hb; replace HO360 := a_ (Kd.R_below (rk HO360.out) hb); replace HO363 := a_ (Kd.R_below (rk HO363.out) hb); have BK364 := a_ (hbox); have GW364 := a_ (bsg hg HB.out); have GE364 := a_ (bsg hg HB.out); replace HB := a_ (below_step (un HB.out) hb); clear hb hbox hg) | ((with_reducible refine gate_dst (N := 4) rfl ?_); refine box_event ?hg (N := 4) ?hd (cs := #[.bool false, .int .i64 0, .int .i64 0, .int .i64 0]) (t := 27) ?hr ?_; (case hd => rfl); (case hg => rfl); (case hr => first | (go_simp; done) | (go_simp; rfl)); intro gb365 hg w79 hbox hb; replace HO360 := a_ (Kd.R_below (rk HO360.out) hb); replace HO363 := a_ (Kd.R_below (rk HO363.out) hb); have BK365 := a_ (hbox); have GW365 := a_ (bsg hg HB.out); have GE365 := a_ (bsg hg HB.out); replace HB := a_ (below_step (by repeat first | (with_reducible first | exact HB.out | refine bz ?_ (by assumption) | apply bA | apply bN | apply bD) | exact HB.out) hb); have NB364_365 := a_ (nel hg BK364.out); have NB365_364 := a_ (nle hg BK364.out); replace BK364 := a_ (blk_below (pk BK364.out) hb); clear hb hbox hg; have hnb80 := NB364_365.out; have hnc80 := NB365_364.out; have hcz81_0 : _ = some (Value.int .i64 0) := (blk_cell BK364.out 0).trans rfl; have hcz81_1 : _ = some (Value.int .i64 0) := (blk_cell BK364.out 1).trans rfl; have hcz81_2 : _ = some (Value.int .i64 0) := (blk_cell BK364.out 2).trans rfl; have hcz81_3 : _ = some (Value.int .i64 0) := (blk_cell BK364.out 3).trans rfl; have hcz81_4 : _ = some (Value.int .i64 0) := (blk_cell BK364.out 4).trans rfl; have hcz81_5 : _ = some (Value.int .i64 0) := (blk_cell BK364.out 5).trans rfl; have hcz81_6 : _ = some (Value.int .i64 0) := (blk_cell BK364.out 6).trans rfl; have hfz81_0 := blk_frozen BK364.out 0; have hfz81_1 := blk_frozen BK364.out 1; have hfz81_2 := blk_frozen BK364.out 2; have hfz81_3 := blk_frozen BK364.out 3; have hfz81_4 := blk_frozen BK364.out 4; have hfz81_5 := blk_frozen BK364.out 5; have hfz81_6 := blk_frozen BK364.out 6; have hcz82_0 : _ = some (Value.bool false) := (blk_cell BK365.out 0).trans rfl; have hcz82_1 : _ = some (Value.int .i64 0) := (blk_cell BK365.out 1).trans rfl; have hcz82_2 : _ = some (Value.int .i64 0) := (blk_cell BK365.out 2).trans rfl; have hcz82_3 : _ = some (Value.int .i64 0) := (blk_cell BK365.out 3).trans rfl; have hfz82_0 := blk_frozen BK365.out 0; have hfz82_1 := blk_frozen BK365.out 1; have hfz82_2 := blk_frozen BK365.out 2; have hfz82_3 := blk_frozen BK365.out 3; obtain ⟨Ao83, co83, eo83⟩ := Kd.R_slice HO360.out; subst eo83; obtain ⟨Ao84, co84, eo84⟩ := Kd.R_slice HO363.out; subst eo84) | ((with_reducible refine gate_callee (f := 10) rfl ?_); refine goesL_ (some 31) rfl rfl Try.func10 (by kernel_rfl) rfl #[.agg #[.int .i64 t347, .int .i64 t348, .int .i64 t349, .int .i64 t350, .int .i64 t351, .int .i64 t352, .int .i64 t353], .agg #[.bool t354, .int .i64 t355, .int .i64 t356, .int .i64 t357], .slice Ao83 t358.length co83, .slice Ao84 t361.length co84] rfl (by (try simp only [lA, lB, lC]); first | done | rfl | (simp only [lD, lE]; rfl)) ?_; (with_reducible refine (impl_RunHold.calls k t347 t348 t349 t350 t351 t352 t353 t354 t355 t356 t357 _ _ t358 _ _ t361 t366 t369 t370 t371 t372 false _ ?side1 ?side2 ?side3 ?side4 A4.out).mono ?_); (case side1 => exact cu (Kd.R_reads' (Kd.R_far (p := ⟨gb365, 3, none⟩) (Kd.R_far (p := ⟨gb365, 2, none⟩) (Kd.R_far (p := ⟨gb365, 1, none⟩) (Kd.R_far (p := ⟨gb365, 0, none⟩) (Kd.R_far (p := ⟨gb364, 6, none⟩) (Kd.R_far (p := ⟨gb364, 5, none⟩) (Kd.R_far (p := ⟨gb364, 4, none⟩) (Kd.R_far (p := ⟨gb364, 3, none⟩) (Kd.R_far (p := ⟨gb364, 2, none⟩) (Kd.R_far (p := ⟨gb364, 1, none⟩) (Kd.R_far (p := ⟨gb364, 0, none⟩) (Kd.R_types (Kd.R_types HO360.out BK364.out (by decide)) BK365.out (by decide)) (fun _ hk => hk.1.2) (.int .i64 t347)) (fun _ hk => hk.1.2) (.int .i64 t348)) (fun _ hk => hk.1.2) (.int .i64 t349)) (fun _ hk => hk.1.2) (.int .i64 t350)) (fun _ hk => hk.1.2) (.int .i64 t351)) (fun _ hk => hk.1.2) (.int .i64 t352)) (fun _ hk => hk.1.2) (.int .i64 t353)) (fun _ hk => hk.2) (.bool t354)) (fun _ hk => hk.2) (.int .i64 t355)) (fun _ hk => hk.2) (.int .i64 t356)) (fun _ hk => hk.2) (.int .i64 t357))).2.2); (case side2 => exact (Kd.R_reads' HO360.out).2.1); (case side3 => exact cu (Kd.R_reads' (Kd.R_far (p := ⟨gb365, 3, none⟩) (Kd.R_far (p := ⟨gb365, 2, none⟩) (Kd.R_far (p := ⟨gb365, 1, none⟩) (Kd.R_far (p := ⟨gb365, 0, none⟩) (Kd.R_far (p := ⟨gb364, 6, none⟩) (Kd.R_far (p := ⟨gb364, 5, none⟩) (Kd.R_far (p := ⟨gb364, 4, none⟩) (Kd.R_far (p := ⟨gb364, 3, none⟩) (Kd.R_far (p := ⟨gb364, 2, none⟩) (Kd.R_far (p := ⟨gb364, 1, none⟩) (Kd.R_far (p := ⟨gb364, 0, none⟩) (Kd.R_types (Kd.R_types HO363.out BK364.out (by decide)) BK365.out (by decide)) (fun _ hk => hk.1.2) (.int .i64 t347)) (fun _ hk => hk.1.2) (.int .i64 t348)) (fun _ hk => hk.1.2) (.int .i64 t349)) (fun _ hk => hk.1.2) (.int .i64 t350)) (fun _ hk => hk.1.2) (.int .i64 t351)) (fun _ hk => hk.1.2) (.int .i64 t352)) (fun _ hk => hk.1.2) (.int .i64 t353)) (fun _ hk => hk.2) (.bool t354)) (fun _ hk => hk.2) (.int .i64 t355)) (fun _ hk => hk.2) (.int .i64 t356)) (fun _ hk => hk.2) (.int .i64 t357))).2.2); (case side4 => exact (Kd.R_reads' HO363.out).2.1); rintro e w85 ⟨v367, rfl, ho0, hb⟩; refine ⟨_, rfl, ?_⟩; have HO368 := a_ (Kd.R_lower (nw (nw ho0 HO360.out) HO363.out) (bs HB.out)); replace HO360 := a_ (Kd.R_elder' (rk (Kd.R_mono (Kd.R_mono (Kd.R_far (p := ⟨gb365, 3, none⟩) (Kd.R_far (p := ⟨gb365, 2, none⟩) (Kd.R_far (p := ⟨gb365, 1, none⟩) (Kd.R_far (p := ⟨gb365, 0, none⟩) (Kd.R_far (p := ⟨gb364, 6, none⟩) (Kd.R_far (p := ⟨gb364, 5, none⟩) (Kd.R_far (p := ⟨gb364, 4, none⟩) (Kd.R_far (p := ⟨gb364, 3, none⟩) (Kd.R_far (p := ⟨gb364, 2, none⟩) (Kd.R_far (p := ⟨gb364, 1, none⟩) (Kd.R_far (p := ⟨gb364, 0, none⟩) (Kd.R_types (Kd.R_types HO360.out BK364.out (by decide)) BK365.out (by decide)) (fun _ hk => hk.1.2) (.int .i64 t347)) (fun _ hk => hk.1.2) (.int .i64 t348)) (fun _ hk => hk.1.2) (.int .i64 t349)) (fun _ hk => hk.1.2) (.int .i64 t350)) (fun _ hk => hk.1.2) (.int .i64 t351)) (fun _ hk => hk.1.2) (.int .i64 t352)) (fun _ hk => hk.1.2) (.int .i64 t353)) (fun _ hk => hk.2) (.bool t354)) (fun _ hk => hk.2) (.int .i64 t355)) (fun _ hk => hk.2) (.int .i64 t356)) (fun _ hk => hk.2) (.int .i64 t357)) (fun _ h_ => h_.1)) (fun _ h_ => h_.1))) (Kd.R_base ho0) hb); replace HO363 := a_ (Kd.R_elder' (rk (Kd.R_mono (Kd.R_mono (Kd.R_far (p := ⟨gb365, 3, none⟩) (Kd.R_far (p := ⟨gb365, 2, none⟩) (Kd.R_far (p := ⟨gb365, 1, none⟩) (Kd.R_far (p := ⟨gb365, 0, none⟩) (Kd.R_far (p := ⟨gb364, 6, none⟩) (Kd.R_far (p := ⟨gb364, 5, none⟩) (Kd.R_far (p := ⟨gb364, 4, none⟩) (Kd.R_far (p := ⟨gb364, 3, none⟩) (Kd.R_far (p := ⟨gb364, 2, none⟩) (Kd.R_far (p := ⟨gb364, 1, none⟩) (Kd.R_far (p := ⟨gb364, 0, none⟩) (Kd.R_types (Kd.R_types HO363.out BK364.out (by decide)) BK365.out (by decide)) (fun _ hk => hk.1.2) (.int .i64 t347)) (fun _ hk => hk.1.2) (.int .i64 t348)) (fun _ hk => hk.1.2) (.int .i64 t349)) (fun _ hk => hk.1.2) (.int .i64 t350)) (fun _ hk => hk.1.2) (.int .i64 t351)) (fun _ hk => hk.1.2) (.int .i64 t352)) (fun _ hk => hk.1.2) (.int .i64 t353)) (fun _ hk => hk.2) (.bool t354)) (fun _ hk => hk.2) (.int .i64 t355)) (fun _ hk => hk.2) (.int .i64 t356)) (fun _ hk => hk.2) (.int .i64 t357)) (fun _ h_ => h_.1)) (fun _ h_ => h_.1))) (Kd.R_base ho0) hb); replace BK364 := a_ (blk_below (g := gb364) (o := .cells #[.int .i64 t347, .int .i64 t348, .int .i64 t349, .int .i64 t350, .int .i64 t351, .int .i64 t352, .int .i64 t353] 30 (0, 0)) (by refine pk ?_; refine blk_far ?_ NB364_365.out _; refine pk ?_; refine blk_far ?_ NB364_365.out _; refine pk ?_; refine blk_far ?_ NB364_365.out _; refine pk ?_; refine blk_far ?_ NB364_365.out _; refine pk ?_; refine blk_put (cs := #[.int .i64 t347, .int .i64 t348, .int .i64 t349, .int .i64 t350, .int .i64 t351, .int .i64 t352, .int .i64 0]) ?_ 6 _ rfl; refine pk ?_; refine blk_put (cs := #[.int .i64 t347, .int .i64 t348, .int .i64 t349, .int .i64 t350, .int .i64 t351, .int .i64 0, .int .i64 0]) ?_ 5 _ rfl; refine pk ?_; refine blk_put (cs := #[.int .i64 t347, .int .i64 t348, .int .i64 t349, .int .i64 t350, .int .i64 0, .int .i64 0, .int .i64 0]) ?_ 4 _ rfl; refine pk ?_; refine blk_put (cs := #[.int .i64 t347, .int .i64 t348, .int .i64 t349, .int .i64 0, .int .i64 0, .int .i64 0, .int .i64 0]) ?_ 3 _ rfl; refine pk ?_; refine blk_put (cs := #[.int .i64 t347, .int .i64 t348, .int .i64 0, .int .i64 0, .int .i64 0, .int .i64 0, .int .i64 0]) ?_ 2 _ rfl; refine pk ?_; refine blk_put (cs := #[.int .i64 t347, .int .i64 0, .int .i64 0, .int .i64 0, .int .i64 0, .int .i64 0, .int .i64 0]) ?_ 1 _ rfl; refine pk ?_; refine blk_put (cs := #[.int .i64 0, .int .i64 0, .int .i64 0, .int .i64 0, .int .i64 0, .int .i64 0, .int .i64 0]) ?_ 0 _ rfl; refine pk ?_; exact BK364.out) hb); replace BK365 := a_ (blk_below (g := gb365) (o := .cells #[.bool t354, .int .i64 t355, .int .i64 t356, .int .i64 t357] 27 (0, 0)) (by refine pk ?_; refine blk_put (cs := #[.bool t354, .int .i64 t355, .int .i64 t356, .int .i64 0]) ?_ 3 _ rfl; refine pk ?_; refine blk_put (cs := #[.bool t354, .int .i64 t355, .int .i64 0, .int .i64 0]) ?_ 2 _ rfl; refine pk ?_; refine blk_put (cs := #[.bool t354, .int .i64 0, .int .i64 0, .int .i64 0]) ?_ 1 _ rfl; refine pk ?_; refine blk_put (cs := #[.bool false, .int .i64 0, .int .i64 0, .int .i64 0]) ?_ 0 _ rfl; refine pk ?_; refine blk_far ?_ NB365_364.out _; refine pk ?_; refine blk_far ?_ NB365_364.out _; refine pk ?_; refine blk_far ?_ NB365_364.out _; refine pk ?_; refine blk_far ?_ NB365_364.out _; refine pk ?_; refine blk_far ?_ NB365_364.out _; refine pk ?_; refine blk_far ?_ NB365_364.out _; refine pk ?_; refine blk_far ?_ NB365_364.out _; refine pk ?_; exact BK365.out) hb); replace HB := a_ (below_step (by repeat first | (with_reducible first | exact HB.out | refine bz ?_ (by assumption) | apply bA | apply bN | apply bD) | exact HB.out) hb); clear hb ho0) | ((with_reducible refine gate_dst (N := 8) rfl ?_); refine box_event ?hg (N := 8) ?hd (cs := #[.bool false, .int .i64 0, .int .i64 0, .int .i64 0]) (t := 27) ?hr ?_; (case hd => rfl); (case hg => rfl); (case hr => first | (go_simp; done) | (go_simp; rfl)); intro gb374 hg w86 hbox hb; replace HO360 := a_ (Kd.R_below (rk HO360.out) hb); replace HO363 := a_ (Kd.R_below (rk HO363.out) hb); replace HO368 := a_ (Kd.R_below (rk HO368.out) hb); have BK374 := a_ (hbox); have GW374 := a_ (bsg hg HB.out); have GE374 := a_ (bsg hg HB.out); replace HB := a_ (below_step (by repeat first | (with_reducible first | exact HB.out | refine bz ?_ (by assumption) | apply bA | apply bN | apply bD) | exact HB.out) hb); have NB364_374 := a_ (nel hg BK364.out); have NB374_364 := a_ (nle hg BK364.out); replace BK364 := a_ (blk_below (pk BK364.out) hb); have NB365_374 := a_ (nel hg BK365.out); have NB374_365 := a_ (nle hg BK365.out); replace BK365 := a_ (blk_below (pk BK365.out) hb); clear hb hbox hg; have hnb87 := NB374_364.out; have hnc87 := NB364_374.out; have hnb88 := NB374_365.out; have hnc88 := NB365_374.out; have hcz89_0 : _ = some (Value.bool false) := (blk_cell BK374.out 0).trans rfl; have hcz89_1 : _ = some (Value.int .i64 0) := (blk_cell BK374.out 1).trans rfl; have hcz89_2 : _ = some (Value.int .i64 0) := (blk_cell BK374.out 2).trans rfl; have hcz89_3 : _ = some (Value.int .i64 0) := (blk_cell BK374.out 3).trans rfl; have hfz89_0 := blk_frozen BK374.out 0; have hfz89_1 := blk_frozen BK374.out 1; have hfz89_2 := blk_frozen BK374.out 2; have hfz89_3 := blk_frozen BK374.out 3; have hcz90_0 : _ = some (Value.int .i64 t347) := (blk_cell BK364.out 0).trans rfl; have hcz90_1 : _ = some (Value.int .i64 t348) := (blk_cell BK364.out 1).trans rfl; have hcz90_2 : _ = some (Value.int .i64 t349) := (blk_cell BK364.out 2).trans rfl; have hcz90_3 : _ = some (Value.int .i64 t350) := (blk_cell BK364.out 3).trans rfl; have hcz90_4 : _ = some (Value.int .i64 t351) := (blk_cell BK364.out 4).trans rfl; have hcz90_5 : _ = some (Value.int .i64 t352) := (blk_cell BK364.out 5).trans rfl; have hcz90_6 : _ = some (Value.int .i64 t353) := (blk_cell BK364.out 6).trans rfl; have hfz90_0 := blk_frozen BK364.out 0; have hfz90_1 := blk_frozen BK364.out 1; have hfz90_2 := blk_frozen BK364.out 2; have hfz90_3 := blk_frozen BK364.out 3; have hfz90_4 := blk_frozen BK364.out 4; have hfz90_5 := blk_frozen BK364.out 5; have hfz90_6 := blk_frozen BK364.out 6; have hcz91_0 : _ = some (Value.bool t354) := (blk_cell BK365.out 0).trans rfl; have hcz91_1 : _ = some (Value.int .i64 t355) := (blk_cell BK365.out 1).trans rfl; have hcz91_2 : _ = some (Value.int .i64 t356) := (blk_cell BK365.out 2).trans rfl; have hcz91_3 : _ = some (Value.int .i64 t357) := (blk_cell BK365.out 3).trans rfl; have hfz91_0 := blk_frozen BK365.out 0; have hfz91_1 := blk_frozen BK365.out 1; have hfz91_2 := blk_frozen BK365.out 2; have hfz91_3 := blk_frozen BK365.out 3) | ((with_reducible refine gate_callee (f := 6) rfl ?_); refine goesL_ (some 40) rfl rfl Try.func6 (by kernel_rfl) rfl #[.agg #[.int .i64 t347, .int .i64 t348, .int .i64 t349, .int .i64 t350, .int .i64 t351, .int .i64 t352, .int .i64 t353], .agg #[.bool t354, .int .i64 t355, .int .i64 t356, .int .i64 t357], .slice Ao83 t358.length co83, .slice Ao84 t361.length co84] rfl (by (try simp only [lA, lB, lC]); first | done | rfl | (simp only [lD, lE]; rfl)) ?_; (with_reducible refine (spec_RunHold.calls k t347 t348 t349 t350 t351 t352 t353 t354 t355 t356 t357 _ _ t358 _ _ t361 t375 t378 t379 t380 t381 t382 _ ?side1 ?side2 ?side3 ?side4 A5.out).mono ?_); (case side1 => exact cu (Kd.R_reads' (fr4 HO360.out BK374.out (by decide) 0 (.bool t369) 1 (.int .i64 t370) 2 (.int .i64 t371) 3 (.int .i64 t372))).2.2); (case side2 => exact (Kd.R_reads' HO360.out).2.1); (case side3 => exact cu (Kd.R_reads' (fr4 HO363.out BK374.out (by decide) 0 (.bool t369) 1 (.int .i64 t370) 2 (.int .i64 t371) 3 (.int .i64 t372))).2.2); (case side4 => exact (Kd.R_reads' HO363.out).2.1); rintro e w92 ⟨v376, rfl, ho0, hb⟩; refine ⟨_, rfl, ?_⟩; have HO377 := a_ (Kd.R_lower (nw (nw (nw ho0 HO360.out) HO363.out) HO368.out) (bs HB.out)); replace HO360 := a_ (Kd.R_elder' (rk (Kd.R_mono (fr4 HO360.out BK374.out (by decide) 0 (.bool t369) 1 (.int .i64 t370) 2 (.int .i64 t371) 3 (.int .i64 t372)) (fun _ h_ => h_.1))) (Kd.R_base ho0) hb); replace HO363 := a_ (Kd.R_elder' (rk (Kd.R_mono (fr4 HO363.out BK374.out (by decide) 0 (.bool t369) 1 (.int .i64 t370) 2 (.int .i64 t371) 3 (.int .i64 t372)) (fun _ h_ => h_.1))) (Kd.R_base ho0) hb); replace HO368 := a_ (Kd.R_elder' (rk (Kd.R_mono (fr4 HO368.out BK374.out (by decide) 0 (.bool t369) 1 (.int .i64 t370) 2 (.int .i64 t371) 3 (.int .i64 t372)) (fun _ h_ => h_.1))) (Kd.R_base ho0) hb); replace BK364 := a_ (blk_below (g := gb364) (o := .cells #[.int .i64 t347, .int .i64 t348, .int .i64 t349, .int .i64 t350, .int .i64 t351, .int .i64 t352, .int .i64 t353] 30 (0, 0)) (by refine pk ?_; refine blk_far ?_ NB364_374.out _; refine pk ?_; refine blk_far ?_ NB364_374.out _; refine pk ?_; refine blk_far ?_ NB364_374.out _; refine pk ?_; refine blk_far ?_ NB364_374.out _; refine pk ?_; exact BK364.out) hb); replace BK365 := a_ (blk_below (g := gb365) (o := .cells #[.bool t354, .int .i64 t355, .int .i64 t356, .int .i64 t357] 27 (0, 0)) (by refine pk ?_; refine blk_far ?_ NB365_374.out _; refine pk ?_; refine blk_far ?_ NB365_374.out _; refine pk ?_; refine blk_far ?_ NB365_374.out _; refine pk ?_; refine blk_far ?_ NB365_374.out _; refine pk ?_; exact BK365.out) hb); replace BK374 := a_ (blk_below (g := gb374) (o := .cells #[.bool t369, .int .i64 t370, .int .i64 t371, .int .i64 t372] 27 (0, 0)) (by refine pk ?_; refine blk_put (cs := #[.bool t369, .int .i64 t370, .int .i64 t371, .int .i64 0]) ?_ 3 _ rfl; refine pk ?_; refine blk_put (cs := #[.bool t369, .int .i64 t370, .int .i64 0, .int .i64 0]) ?_ 2 _ rfl; refine pk ?_; refine blk_put (cs := #[.bool t369, .int .i64 0, .int .i64 0, .int .i64 0]) ?_ 1 _ rfl; refine pk ?_; refine blk_put (cs := #[.bool false, .int .i64 0, .int .i64 0, .int .i64 0]) ?_ 0 _ rfl; refine pk ?_; exact BK374.out) hb); replace HB := a_ (below_step (by repeat first | (with_reducible first | exact HB.out | refine bz ?_ (by assumption) | apply bA | apply bN | apply bD) | exact HB.out) hb); clear hb ho0) | ((with_reducible refine gate_dst (N := 11) rfl ?_); refine box_event ?hg (N := 11) ?hd (cs := #[.bool false, .int .i64 0, .int .i64 0, .int .i64 0]) (t := 27) ?hr ?_; (case hd => rfl); (case hg => rfl); (case hr => first | (go_simp; done) | (go_simp; rfl)); intro gb383 hg w93 hbox hb; replace HO360 := a_ (Kd.R_below (rk HO360.out) hb); replace HO363 := a_ (Kd.R_below (rk HO363.out) hb); replace HO368 := a_ (Kd.R_below (rk HO368.out) hb); replace HO377 := a_ (Kd.R_below (rk HO377.out) hb); have BK383 := a_ (hbox); have GW383 := a_ (bsg hg HB.out); have GE383 := a_ (bsg hg HB.out); replace HB := a_ (below_step (by repeat first | (with_reducible first | exact HB.out | refine bz ?_ (by assumption) | apply bA | apply bN | apply bD) | exact HB.out) hb); have NB364_383 := a_ (nel hg BK364.out); have NB383_364 := a_ (nle hg BK364.out); replace BK364 := a_ (blk_below (pk BK364.out) hb); have NB365_383 := a_ (nel hg BK365.out); have NB383_365 := a_ (nle hg BK365.out); replace BK365 := a_ (blk_below (pk BK365.out) hb); have NB374_383 := a_ (nel hg BK374.out); have NB383_374 := a_ (nle hg BK374.out); replace BK374 := a_ (blk_below (pk BK374.out) hb); clear hb hbox hg; have hnb94 := NB383_364.out; have hnc94 := NB364_383.out; have hnb95 := NB383_365.out; have hnc95 := NB365_383.out; have hnb96 := NB383_374.out; have hnc96 := NB374_383.out; have hcz97_0 : _ = some (Value.bool false) := (blk_cell BK383.out 0).trans rfl; have hcz97_1 : _ = some (Value.int .i64 0) := (blk_cell BK383.out 1).trans rfl; have hcz97_2 : _ = some (Value.int .i64 0) := (blk_cell BK383.out 2).trans rfl; have hcz97_3 : _ = some (Value.int .i64 0) := (blk_cell BK383.out 3).trans rfl; have hfz97_0 := blk_frozen BK383.out 0; have hfz97_1 := blk_frozen BK383.out 1; have hfz97_2 := blk_frozen BK383.out 2; have hfz97_3 := blk_frozen BK383.out 3))
    go_ret
    exact ⟨by first | rfl | (simp [errW_none, errW_some] <;> rfl) | (simp [*, errW_none, errW_some] <;> rfl), by repeat first | (with_reducible first | exact HB.out | refine bz ?_ (by assumption) | apply bA | apply bN | apply bD) | exact HB.out⟩

/-- THE ONE PURE STATEMENT of laws_FnHold: yours. -/
def laws_FnHold.Pure : Prop := ∀ (l0 : List Int), l0.length ≤ maxLen → l0.length * 1 ≤ 140737488351232 → (∀ x ∈ l0, (Lit.int .u8 x).wf = true) → ∃ k, laws_FnHold.f k l0 = some true
theorem laws_FnHold.walk (P : laws_FnHold.Pure) (a0 : Option Addr) (len0 cap0 : Nat) (z0 : List Int) (w : World) (w0 : (a0 = none ∧ len0 = 0 ∧ cap0 = 0 ∧ z0 = []) ∨ ∃ x, a0 = some x ∧ len0 ≤ cap0 ∧ cap0 ≤ maxLen ∧ z0.length = cap0 ∧ (∀ i, i < z0.length → w.cell? (x.add i) = some (.int .u8 (z0.getD i 0))) ∧ ∀ n ∈ z0, (Lit.int .u8 n).wf = true) (y0 : len0 * 1 ≤ 140737488351232) :
  Calls Try.prog 5 #[.slice a0 len0 cap0] w fun e w' => e = .returned (.bool true) ∧ Below w.heap.size w w' := by
 obtain ⟨l0, rfl, hr0, hm0, hw0, hc0⟩ := ReadsInt.ofRowC w0
 obtain ⟨k, h⟩ := P l0 hm0 y0 hw0
 refine (laws_FnHold.calls k _ _ l0 true w (Kd.C_of_reads (d := (0 : Int)) (h1 := fun _ => rfl) hr0) hc0 h).mono ?_
 rintro e w' ⟨rfl, hd⟩
 exact ⟨rfl, hd⟩

end Go.Proofs.Ytineniimpdjpnaa.PFnHold
