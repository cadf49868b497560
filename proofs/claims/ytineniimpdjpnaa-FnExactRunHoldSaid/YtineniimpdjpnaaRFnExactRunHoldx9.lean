-- Written by a program of this session out of the loaded functions' print; helper lemmas as print.sh lays them.
import Derived.Test.YtineniimpdjpnaaUp2
import Derived.Test.YtineniimpdjpnaaUp
import Derived.Test.YtineniimpdjpnaaRFnExactRunHoldx0
import Derived.Test.YtineniimpdjpnaaRFnExactRunHoldx4
import Derived.Test.YtineniimpdjpnaaRFnExactRunHoldx5
import Derived.Test.YtineniimpdjpnaaRFnExactRunHoldx7
import Derived.Test.YtineniimpdjpnaaRFnExactRunHoldx8
namespace Go.Proofs.Ytineniimpdjpnaa.PFnExactRunHold
open Go.RowKit Go.Proofs.YtineniimpdjpnaaW.PrintWords Go.Proofs.YtineniimpdjpnaaW.PrintLast Go.Proofs.YtineniimpdjpnaaW.PrintMore
attribute [local go_sem] max2_int min2_int max_two min_two max_three min_three max_four min_four  -- for this text's walks alone
set_option linter.unusedVariables false
set_option linter.unusedSimpArgs false

/-! ### laws_FnExactRunHold: function 3 -/
mutual
def laws_FnExactRunHold.j0 : Nat → List Int → List Int → List Int → Bool → List Int → List Int → List Int → Bool → Bool → Int → Int → Int → Int → Int → Int → Int → Bool → Int → Int → Int → Bool → Int → Int → Int → Bool → Int → Int → Int → Option (Bool)
 | 0, _, _, _, _, _, _, _, _, _, _, _, _, _, _, _, _, _, _, _, _, _, _, _, _, _, _, _, _ => none
 | k + 1, x2, x3, x9, x11, x12, x13, x14, x16, x71, x192000, x192001, x192002, x192003, x192004, x192005, x192006, x193000, x193001, x193002, x193003, x219000, x219001, x219002, x219003, x245000, x245001, x245002, x245003 => if x71 = true then (none) else ((laws_toIntS.f k x2).bind fun t247 => ((laws_eqIntS.f k x12 t247).bind fun t250 => (if t250 = true then ((laws_toIntS.f k x3).bind fun t251 => ((laws_eqIntS.f k x13 t251).bind fun t254 => (if t254 = true then ((laws_markIntS.f k x12 1).bind fun bt255 => ((laws_markIntS.f k x13 bt255.1).bind fun bt257 => (if bt257.1 < 0 then (laws_FnExactRunHold.j1 k x2 x3 x9 x11 x14 true x192000 x192001 x192002 x192003 x192004 x192005 x192006 x193000 x193001 x193002 x193003 x219000 x219001 x219002 x219003) else ((laws_eqIntS.f k x14 x9).bind fun t259 => (if t259 = true then ((laws_eqHold.f x245000 x245001 x245002 x245003 x219000 x219001 x219002 x219003).bind fun t260 => (if t260 = true then (laws_FnExactRunHold.j1 k x2 x3 x9 x11 x14 (x16 != x11) x192000 x192001 x192002 x192003 x192004 x192005 x192006 x193000 x193001 x193002 x193003 x219000 x219001 x219002 x219003) else (laws_FnExactRunHold.j1 k x2 x3 x9 x11 x14 true x192000 x192001 x192002 x192003 x192004 x192005 x192006 x193000 x193001 x193002 x193003 x219000 x219001 x219002 x219003))) else (laws_FnExactRunHold.j1 k x2 x3 x9 x11 x14 true x192000 x192001 x192002 x192003 x192004 x192005 x192006 x193000 x193001 x193002 x193003 x219000 x219001 x219002 x219003)))))) else (none)))) else (none))))
def laws_FnExactRunHold.j1 : Nat → List Int → List Int → List Int → Bool → List Int → Bool → Int → Int → Int → Int → Int → Int → Int → Bool → Int → Int → Int → Bool → Int → Int → Int → Option (Bool)
 | 0, _, _, _, _, _, _, _, _, _, _, _, _, _, _, _, _, _, _, _, _, _ => none
 | k + 1, x2, x3, x9, x11, x14, x106, x192000, x192001, x192002, x192003, x192004, x192005, x192006, x193000, x193001, x193002, x193003, x219000, x219001, x219002, x219003 => if x106 = true then (none) else ((laws_markIntS.f k x14 1).bind fun bt261 => ((laws_heldIntS.f k bt261.2 1).bind fun t263 => (if t263 < 0 then (none) else (if t263 = bt261.1 then ((laws_toLoop.f x192000 x192001 x192002 x192003 x192004 x192005 x192006).bind fun bt264 => ((laws_toHold.f x193000 x193001 x193002 x193003).bind fun bt271 => ((laws_toIntS.f k x2).bind fun t275 => ((laws_toIntS.f k x3).bind fun t278 => ((impl_RunHold.f k bt264.1 bt264.2.1 bt264.2.2.1 bt264.2.2.2.1 bt264.2.2.2.2.1 bt264.2.2.2.2.2.1 bt264.2.2.2.2.2.2 bt271.1 bt271.2.1 bt271.2.2.1 bt271.2.2.2 t275 t278).bind fun bt281 => ((laws_eqIntS.f k bt281.1 x9).bind fun t290 => (if t290 = true then ((laws_eqHold.f bt281.2.1 bt281.2.2.1 bt281.2.2.2.1 bt281.2.2.2.2.1 x219000 x219001 x219002 x219003).bind fun t291 => (if t291 = true then (laws_FnExactRunHold.j2 k bt261.2 bt261.1 (bt281.2.2.2.2.2 != x11)) else (laws_FnExactRunHold.j2 k bt261.2 bt261.1 true))) else (laws_FnExactRunHold.j2 k bt261.2 bt261.1 true)))))))) else (none)))))
def laws_FnExactRunHold.j2 : Nat → List Int → Int → Bool → Option (Bool)
 | 0, _, _, _ => none
 | k + 1, x14, x18, x145 => if x145 = true then (none) else ((laws_heldIntS.f k x14 1).bind fun t292 => (if t292 < 0 then (none) else (if t292 = x18 then (some true) else (none))))
end
def laws_FnExactRunHold.f (k : Nat) (a0_0 : Int) (a0_1 : Int) (a0_2 : Int) (a0_3 : Int) (a0_4 : Int) (a0_5 : Int) (a0_6 : Int) (a1_0 : Bool) (a1_1 : Int) (a1_2 : Int) (a1_3 : Int) (l2 : List Int) (l3 : List Int) : Option (Bool) := if (l2.length : Int) > 1048576 then (some true) else (if (l3.length : Int) > 1048576 then (some true) else ((laws_toLoop.f a0_0 a0_1 a0_2 a0_3 a0_4 a0_5 a0_6).bind fun bt193 => ((laws_toHold.f a1_0 a1_1 a1_2 a1_3).bind fun bt200 => ((laws_toIntS.f k l2).bind fun t204 => ((laws_toIntS.f k l3).bind fun t207 => ((spec_RunHold.f k bt193.1 bt193.2.1 bt193.2.2.1 bt193.2.2.2.1 bt193.2.2.2.2.1 bt193.2.2.2.2.2.1 bt193.2.2.2.2.2.2 bt200.1 bt200.2.1 bt200.2.2.1 bt200.2.2.2 t204 t207).bind fun bt210 => ((laws_toIntS.f k l2).bind fun t219 => ((laws_toIntS.f k l3).bind fun t222 => ((laws_toLoop.f a0_0 a0_1 a0_2 a0_3 a0_4 a0_5 a0_6).bind fun bt225 => ((laws_toHold.f a1_0 a1_1 a1_2 a1_3).bind fun bt232 => ((impl_RunHold.f k bt225.1 bt225.2.1 bt225.2.2.1 bt225.2.2.2.1 bt225.2.2.2.2.1 bt225.2.2.2.2.2.1 bt225.2.2.2.2.2.2 bt232.1 bt232.2.1 bt232.2.2.1 bt232.2.2.2 t219 t222).bind fun bt236 => ((laws_eqIntS.f k bt236.1 bt210.1).bind fun t245 => (if t245 = true then ((laws_eqHold.f bt236.2.1 bt236.2.2.1 bt236.2.2.2.1 bt236.2.2.2.2.1 bt210.2.1 bt210.2.2.1 bt210.2.2.2.1 bt210.2.2.2.2.1).bind fun t246 => (if t246 = true then (laws_FnExactRunHold.j0 k l2 l3 bt210.1 bt210.2.2.2.2.2 t219 t222 bt236.1 bt236.2.2.2.2.2 (bt236.2.2.2.2.2 != bt210.2.2.2.2.2) a0_0 a0_1 a0_2 a0_3 a0_4 a0_5 a0_6 a1_0 a1_1 a1_2 a1_3 bt210.2.1 bt210.2.2.1 bt210.2.2.2.1 bt210.2.2.2.2.1 bt236.2.1 bt236.2.2.1 bt236.2.2.2.1 bt236.2.2.2.2.1) else (laws_FnExactRunHold.j0 k l2 l3 bt210.1 bt210.2.2.2.2.2 t219 t222 bt236.1 bt236.2.2.2.2.2 true a0_0 a0_1 a0_2 a0_3 a0_4 a0_5 a0_6 a1_0 a1_1 a1_2 a1_3 bt210.2.1 bt210.2.2.1 bt210.2.2.2.1 bt210.2.2.2.2.1 bt236.2.1 bt236.2.2.1 bt236.2.2.2.1 bt236.2.2.2.2.1))) else (laws_FnExactRunHold.j0 k l2 l3 bt210.1 bt210.2.2.2.2.2 t219 t222 bt236.1 bt236.2.2.2.2.2 true a0_0 a0_1 a0_2 a0_3 a0_4 a0_5 a0_6 a1_0 a1_1 a1_2 a1_3 bt210.2.1 bt210.2.2.1 bt210.2.2.2.1 bt210.2.2.2.2.1 bt236.2.1 bt236.2.2.1 bt236.2.2.2.1 bt236.2.2.2.2.1))))))))))))))
theorem laws_FnExactRunHold.mono_l : ∀ k, (∀ y0 y1 y2 y3 y4 y5 y6 y7 y8 y9 y10 y11 y12 y13 y14 y15 y16 y17 y18 y19 y20 y21 y22 y23 y24 y25 y26 y27, LeO (laws_FnExactRunHold.j0 k y0 y1 y2 y3 y4 y5 y6 y7 y8 y9 y10 y11 y12 y13 y14 y15 y16 y17 y18 y19 y20 y21 y22 y23 y24 y25 y26 y27) (laws_FnExactRunHold.j0 (k + 1) y0 y1 y2 y3 y4 y5 y6 y7 y8 y9 y10 y11 y12 y13 y14 y15 y16 y17 y18 y19 y20 y21 y22 y23 y24 y25 y26 y27)) ∧ (∀ y0 y1 y2 y3 y4 y5 y6 y7 y8 y9 y10 y11 y12 y13 y14 y15 y16 y17 y18 y19 y20, LeO (laws_FnExactRunHold.j1 k y0 y1 y2 y3 y4 y5 y6 y7 y8 y9 y10 y11 y12 y13 y14 y15 y16 y17 y18 y19 y20) (laws_FnExactRunHold.j1 (k + 1) y0 y1 y2 y3 y4 y5 y6 y7 y8 y9 y10 y11 y12 y13 y14 y15 y16 y17 y18 y19 y20)) ∧ (∀ y0 y1 y2, LeO (laws_FnExactRunHold.j2 k y0 y1 y2) (laws_FnExactRunHold.j2 (k + 1) y0 y1 y2))
 | 0 => ⟨fun _ _ _ _ _ _ _ _ _ _ _ _ _ _ _ _ _ _ _ _ _ _ _ _ _ _ _ _ r h => by simp [laws_FnExactRunHold.j0] at h, fun _ _ _ _ _ _ _ _ _ _ _ _ _ _ _ _ _ _ _ _ _ r h => by simp [laws_FnExactRunHold.j1] at h, fun _ _ _ r h => by simp [laws_FnExactRunHold.j2] at h⟩
 | k + 1 => by
  obtain ⟨ih0, ih1, ih2⟩ := laws_FnExactRunHold.mono_l k
  refine ⟨?_, ?_, ?_⟩
  ·intro y0 y1 y2 y3 y4 y5 y6 y7 y8 y9 y10 y11 y12 y13 y14 y15 y16 y17 y18 y19 y20 y21 y22 y23 y24 y25 y26 y27
   unfold laws_FnExactRunHold.j0
   repeat' first
   | (with_reducible exact ih0 _ _ _ _ _ _ _ _ _ _ _ _ _ _ _ _ _ _ _ _ _ _ _ _ _ _ _ _)
   | (with_reducible exact ih1 _ _ _ _ _ _ _ _ _ _ _ _ _ _ _ _ _ _ _ _ _)
   | (with_reducible exact ih2 _ _ _)
   | (with_reducible exact impl_RunHold.mono _ _ _ _ _ _ _ _ _ _ _ _ _ _)
   | (with_reducible exact laws_eqIntS.mono _ _ _)
   | (with_reducible exact laws_heldIntS.mono _ _ _)
   | (with_reducible exact laws_markIntS.mono _ _ _)
   | (with_reducible exact laws_toIntS.mono _ _)
   | (with_reducible exact spec_RunHold.mono _ _ _ _ _ _ _ _ _ _ _ _ _ _)
   | (with_reducible exact LeO.refl _)
   | (with_reducible exact LeO.none _)
   | (with_reducible refine LeO.ite ?_ ?_)
   | (with_reducible refine LeO.bind ?_ (fun _ => ?_))
   | exact ih0 _ _ _ _ _ _ _ _ _ _ _ _ _ _ _ _ _ _ _ _ _ _ _ _ _ _ _ _
   | exact ih1 _ _ _ _ _ _ _ _ _ _ _ _ _ _ _ _ _ _ _ _ _
   | exact ih2 _ _ _
   | exact impl_RunHold.mono _ _ _ _ _ _ _ _ _ _ _ _ _ _
   | exact laws_eqIntS.mono _ _ _
   | exact laws_heldIntS.mono _ _ _
   | exact laws_markIntS.mono _ _ _
   | exact laws_toIntS.mono _ _
   | exact spec_RunHold.mono _ _ _ _ _ _ _ _ _ _ _ _ _ _
   | exact LeO.none _
   | refine LeO.ite ?_ ?_
   | refine LeO.bind ?_ (fun _ => ?_)
  ·intro y0 y1 y2 y3 y4 y5 y6 y7 y8 y9 y10 y11 y12 y13 y14 y15 y16 y17 y18 y19 y20
   unfold laws_FnExactRunHold.j1
   repeat' first
   | (with_reducible exact ih0 _ _ _ _ _ _ _ _ _ _ _ _ _ _ _ _ _ _ _ _ _ _ _ _ _ _ _ _)
   | (with_reducible exact ih1 _ _ _ _ _ _ _ _ _ _ _ _ _ _ _ _ _ _ _ _ _)
   | (with_reducible exact ih2 _ _ _)
   | (with_reducible exact impl_RunHold.mono _ _ _ _ _ _ _ _ _ _ _ _ _ _)
   | (with_reducible exact laws_eqIntS.mono _ _ _)
   | (with_reducible exact laws_heldIntS.mono _ _ _)
   | (with_reducible exact laws_markIntS.mono _ _ _)
   | (with_reducible exact laws_toIntS.mono _ _)
   | (with_reducible exact spec_RunHold.mono _ _ _ _ _ _ _ _ _ _ _ _ _ _)
   | (with_reducible exact LeO.refl _)
   | (with_reducible exact LeO.none _)
   | (with_reducible refine LeO.ite ?_ ?_)
   | (with_reducible refine LeO.bind ?_ (fun _ => ?_))
   | exact ih0 _ _ _ _ _ _ _ _ _ _ _ _ _ _ _ _ _ _ _ _ _ _ _ _ _ _ _ _
   | exact ih1 _ _ _ _ _ _ _ _ _ _ _ _ _ _ _ _ _ _ _ _ _
   | exact ih2 _ _ _
   | exact impl_RunHold.mono _ _ _ _ _ _ _ _ _ _ _ _ _ _
   | exact laws_eqIntS.mono _ _ _
   | exact laws_heldIntS.mono _ _ _
   | exact laws_markIntS.mono _ _ _
   | exact laws_toIntS.mono _ _
   | exact spec_RunHold.mono _ _ _ _ _ _ _ _ _ _ _ _ _ _
   | exact LeO.none _
   | refine LeO.ite ?_ ?_
   | refine LeO.bind ?_ (fun _ => ?_)
  ·intro y0 y1 y2
   unfold laws_FnExactRunHold.j2
   repeat' first
   | (with_reducible exact ih0 _ _ _ _ _ _ _ _ _ _ _ _ _ _ _ _ _ _ _ _ _ _ _ _ _ _ _ _)
   | (with_reducible exact ih1 _ _ _ _ _ _ _ _ _ _ _ _ _ _ _ _ _ _ _ _ _)
   | (with_reducible exact ih2 _ _ _)
   | (with_reducible exact impl_RunHold.mono _ _ _ _ _ _ _ _ _ _ _ _ _ _)
   | (with_reducible exact laws_eqIntS.mono _ _ _)
   | (with_reducible exact laws_heldIntS.mono _ _ _)
   | (with_reducible exact laws_markIntS.mono _ _ _)
   | (with_reducible exact laws_toIntS.mono _ _)
   | (with_reducible exact spec_RunHold.mono _ _ _ _ _ _ _ _ _ _ _ _ _ _)
   | (with_reducible exact LeO.refl _)
   | (with_reducible exact LeO.none _)
   | (with_reducible refine LeO.ite ?_ ?_)
   | (with_reducible refine LeO.bind ?_ (fun _ => ?_))
   | exact ih0 _ _ _ _ _ _ _ _ _ _ _ _ _ _ _ _ _ _ _ _ _ _ _ _ _ _ _ _
   | exact ih1 _ _ _ _ _ _ _ _ _ _ _ _ _ _ _ _ _ _ _ _ _
   | exact ih2 _ _ _
   | exact impl_RunHold.mono _ _ _ _ _ _ _ _ _ _ _ _ _ _
   | exact laws_eqIntS.mono _ _ _
   | exact laws_heldIntS.mono _ _ _
   | exact laws_markIntS.mono _ _ _
   | exact laws_toIntS.mono _ _
   | exact spec_RunHold.mono _ _ _ _ _ _ _ _ _ _ _ _ _ _
   | exact LeO.none _
   | refine LeO.ite ?_ ?_
   | refine LeO.bind ?_ (fun _ => ?_)
theorem laws_FnExactRunHold.mono : ∀ a0 a1 a2 a3 a4 a5 a6 a7 a8 a9 a10 a11 a12 k, LeO (laws_FnExactRunHold.f k a0 a1 a2 a3 a4 a5 a6 a7 a8 a9 a10 a11 a12) (laws_FnExactRunHold.f (k + 1) a0 a1 a2 a3 a4 a5 a6 a7 a8 a9 a10 a11 a12) := by
 intro a0 a1 a2 a3 a4 a5 a6 a7 a8 a9 a10 a11 a12 k
 obtain ⟨ih0, ih1, ih2⟩ := laws_FnExactRunHold.mono_l k
 unfold laws_FnExactRunHold.f
 repeat' first
   | (with_reducible exact ih0 _ _ _ _ _ _ _ _ _ _ _ _ _ _ _ _ _ _ _ _ _ _ _ _ _ _ _ _)
   | (with_reducible exact ih1 _ _ _ _ _ _ _ _ _ _ _ _ _ _ _ _ _ _ _ _ _)
   | (with_reducible exact ih2 _ _ _)
   | (with_reducible exact impl_RunHold.mono _ _ _ _ _ _ _ _ _ _ _ _ _ _)
   | (with_reducible exact laws_eqIntS.mono _ _ _)
   | (with_reducible exact laws_heldIntS.mono _ _ _)
   | (with_reducible exact laws_markIntS.mono _ _ _)
   | (with_reducible exact laws_toIntS.mono _ _)
   | (with_reducible exact spec_RunHold.mono _ _ _ _ _ _ _ _ _ _ _ _ _ _)
   | (with_reducible exact LeO.refl _)
   | (with_reducible exact LeO.none _)
   | (with_reducible refine LeO.ite ?_ ?_)
   | (with_reducible refine LeO.bind ?_ (fun _ => ?_))
   | exact ih0 _ _ _ _ _ _ _ _ _ _ _ _ _ _ _ _ _ _ _ _ _ _ _ _ _ _ _ _
   | exact ih1 _ _ _ _ _ _ _ _ _ _ _ _ _ _ _ _ _ _ _ _ _
   | exact ih2 _ _ _
   | exact impl_RunHold.mono _ _ _ _ _ _ _ _ _ _ _ _ _ _
   | exact laws_eqIntS.mono _ _ _
   | exact laws_heldIntS.mono _ _ _
   | exact laws_markIntS.mono _ _ _
   | exact laws_toIntS.mono _ _
   | exact spec_RunHold.mono _ _ _ _ _ _ _ _ _ _ _ _ _ _
   | exact LeO.none _
   | refine LeO.ite ?_ ?_
   | refine LeO.bind ?_ (fun _ => ?_)
def laws_FnExactRunHold.T5 : Bool × List (List Nat × List Nat) := (true, [([], []), ([0], [0]), ([], []), ([2, 1], [2]), ([], []), ([4, 3], [4]), ([], []), ([6, 5], [6]), ([1, 3, 5, 7, 7], [1, 3, 5, 7]), ([8], [8]), ([9], [9]), ([9], [9]), ([9], [9]), ([], []), ([10, 8, 0, 1, 2, 3, 4, 5, 6, 7, 8, 9, 10, 13], [10]), ([13, 11, 14, 0, 1, 2, 3, 4, 5, 6, 7, 8, 9, 10, 11, 13, 14], [11, 13]), ([12, 15, 0, 1, 2, 3, 4, 5, 6, 7, 8, 9, 10, 11, 12, 13, 14, 15], [12])])
def laws_FnExactRunHold.B5 : List Nat := [0, 1, 0, 7, 0, 31, 0, 127, 255, 511, 1023, 1023, 1023, 0, 10239, 28671, 65535]
theorem laws_FnExactRunHold.tab5 : rtab .any (opsOf Try.f3 5) = laws_FnExactRunHold.T5 := by kernel_rfl
theorem laws_FnExactRunHold.bits5 : waitsOk laws_FnExactRunHold.T5.2 laws_FnExactRunHold.B5 = true := by kernel_rfl
def laws_FnExactRunHold.T8 : Bool × List (List Nat × List Nat) := (true, [([], []), ([0], [0]), ([], []), ([2, 1], [2]), ([], []), ([], []), ([1, 3, 4, 5, 3], [1, 3, 4, 5]), ([6], [6]), ([7], [7]), ([7], [7]), ([7], [7]), ([], []), ([8, 6, 0, 1, 2, 3, 4, 5, 6, 7, 8, 11], [8]), ([11, 9, 12, 0, 1, 2, 3, 4, 5, 6, 7, 8, 9, 11, 12], [9, 11]), ([10, 13, 0, 1, 2, 3, 4, 5, 6, 7, 8, 9, 10, 11, 12, 13], [10])])
def laws_FnExactRunHold.B8 : List Nat := [0, 1, 0, 7, 0, 0, 63, 127, 255, 255, 255, 0, 2559, 7167, 16383]
theorem laws_FnExactRunHold.tab8 : rtab .any (opsOf Try.f3 8) = laws_FnExactRunHold.T8 := by kernel_rfl
theorem laws_FnExactRunHold.bits8 : waitsOk laws_FnExactRunHold.T8.2 laws_FnExactRunHold.B8 = true := by kernel_rfl
def laws_FnExactRunHold.T28 : Bool × List (List Nat × List Nat) := (true, [([], []), ([0], [0]), ([], []), ([2, 1], [2]), ([], []), ([4, 3], [4]), ([], []), ([6, 5], [6]), ([1, 3, 5, 7, 7], [1, 3, 5, 7]), ([8], [8]), ([9], [9]), ([9], [9]), ([9], [9]), ([], []), ([10, 8, 0, 1, 2, 3, 4, 5, 6, 7, 8, 9, 10, 13], [10]), ([13, 11, 14, 0, 1, 2, 3, 4, 5, 6, 7, 8, 9, 10, 11, 13, 14], [11, 13]), ([12, 15, 0, 1, 2, 3, 4, 5, 6, 7, 8, 9, 10, 11, 12, 13, 14, 15], [12])])
def laws_FnExactRunHold.B28 : List Nat := [0, 1, 0, 7, 0, 31, 0, 127, 255, 511, 1023, 1023, 1023, 0, 10239, 28671, 65535]
theorem laws_FnExactRunHold.tab28 : rtab .any (opsOf Try.f3 28) = laws_FnExactRunHold.T28 := by kernel_rfl
theorem laws_FnExactRunHold.bits28 : waitsOk laws_FnExactRunHold.T28.2 laws_FnExactRunHold.B28 = true := by kernel_rfl
set_option maxHeartbeats 80000000 in
set_option maxRecDepth 100000 in
theorem laws_FnExactRunHold.calls (k : Nat) (a0_0 : Int) (a0_1 : Int) (a0_2 : Int) (a0_3 : Int) (a0_4 : Int) (a0_5 : Int) (a0_6 : Int) (a1_0 : Bool) (a1_1 : Int) (a1_2 : Int) (a1_3 : Int) (A2 : Option Addr) (c2 : Nat) (l2 : List Int) (A3 : Option Addr) (c3 : Nat) (l3 : List Int) (r : Bool) (w : World) (hr2 : Kd.C (Kd.int .i64) w A2 l2.length l2) (hc2 : l2.length ≤ c2) (hr3 : Kd.C (Kd.int .i64) w A3 l3.length l3) (hc3 : l3.length ≤ c3) (h : laws_FnExactRunHold.f k a0_0 a0_1 a0_2 a0_3 a0_4 a0_5 a0_6 a1_0 a1_1 a1_2 a1_3 l2 l3 = some r) :
  Calls Try.prog 3 #[.agg #[.int .i64 a0_0, .int .i64 a0_1, .int .i64 a0_2, .int .i64 a0_3, .int .i64 a0_4, .int .i64 a0_5, .int .i64 a0_6], .agg #[.bool a1_0, .int .i64 a1_1, .int .i64 a1_2, .int .i64 a1_3], .slice A2 l2.length c2, .slice A3 l3.length c3] w fun e w' => e = .returned (.bool r) ∧ Below w.heap.size w w' := by
 have hu23 := Try.underlying23
 have hu25 := Try.underlying25
 have hu27 := Try.underlying27
 have HR2 := Aside0.mk hr2
 have HC2 := Aside0.mk hc2
 clear hr2 hc2
 have HR3 := Aside0.mk hr3
 have HC3 := Aside0.mk hc3
 clear hr3 hc3
 have HB := a_ (Below.refl w.heap.size w)
 have H : (if (l2.length : Int) > 1048576 then (some true) else (if (l3.length : Int) > 1048576 then (some true) else ((laws_toLoop.f a0_0 a0_1 a0_2 a0_3 a0_4 a0_5 a0_6).bind fun bt193 => ((laws_toHold.f a1_0 a1_1 a1_2 a1_3).bind fun bt200 => ((laws_toIntS.f k l2).bind fun t204 => ((laws_toIntS.f k l3).bind fun t207 => ((spec_RunHold.f k bt193.1 bt193.2.1 bt193.2.2.1 bt193.2.2.2.1 bt193.2.2.2.2.1 bt193.2.2.2.2.2.1 bt193.2.2.2.2.2.2 bt200.1 bt200.2.1 bt200.2.2.1 bt200.2.2.2 t204 t207).bind fun bt210 => ((laws_toIntS.f k l2).bind fun t219 => ((laws_toIntS.f k l3).bind fun t222 => ((laws_toLoop.f a0_0 a0_1 a0_2 a0_3 a0_4 a0_5 a0_6).bind fun bt225 => ((laws_toHold.f a1_0 a1_1 a1_2 a1_3).bind fun bt232 => ((impl_RunHold.f k bt225.1 bt225.2.1 bt225.2.2.1 bt225.2.2.2.1 bt225.2.2.2.2.1 bt225.2.2.2.2.2.1 bt225.2.2.2.2.2.2 bt232.1 bt232.2.1 bt232.2.2.1 bt232.2.2.2 t219 t222).bind fun bt236 => ((laws_eqIntS.f k bt236.1 bt210.1).bind fun t245 => (if t245 = true then ((laws_eqHold.f bt236.2.1 bt236.2.2.1 bt236.2.2.2.1 bt236.2.2.2.2.1 bt210.2.1 bt210.2.2.1 bt210.2.2.2.1 bt210.2.2.2.2.1).bind fun t246 => (if t246 = true then (laws_FnExactRunHold.j0 k l2 l3 bt210.1 bt210.2.2.2.2.2 t219 t222 bt236.1 bt236.2.2.2.2.2 (bt236.2.2.2.2.2 != bt210.2.2.2.2.2) a0_0 a0_1 a0_2 a0_3 a0_4 a0_5 a0_6 a1_0 a1_1 a1_2 a1_3 bt210.2.1 bt210.2.2.1 bt210.2.2.2.1 bt210.2.2.2.2.1 bt236.2.1 bt236.2.2.1 bt236.2.2.2.1 bt236.2.2.2.2.1) else (laws_FnExactRunHold.j0 k l2 l3 bt210.1 bt210.2.2.2.2.2 t219 t222 bt236.1 bt236.2.2.2.2.2 true a0_0 a0_1 a0_2 a0_3 a0_4 a0_5 a0_6 a1_0 a1_1 a1_2 a1_3 bt210.2.1 bt210.2.2.1 bt210.2.2.2.1 bt210.2.2.2.2.1 bt236.2.1 bt236.2.2.1 bt236.2.2.2.1 bt236.2.2.2.2.1))) else (laws_FnExactRunHold.j0 k l2 l3 bt210.1 bt210.2.2.2.2.2 t219 t222 bt236.1 bt236.2.2.2.2.2 true a0_0 a0_1 a0_2 a0_3 a0_4 a0_5 a0_6 a1_0 a1_1 a1_2 a1_3 bt210.2.1 bt210.2.2.1 bt210.2.2.2.1 bt210.2.2.2.2.1 bt236.2.1 bt236.2.2.1 bt236.2.2.2.1 bt236.2.2.2.2.1))))))))))))))) = some r := h
 clear h
 by_cases c5 : (l2.length : Int) > 1048576
 ·rw [if_pos c5] at H
  have O8 : decide (1048576 < (l2.length : Int)) = true := decide_eq_true c5
  have O9 : decide (1048576 < l2.length) = true := decide_eq_true (by omega)
  clear c5
  obtain rfl := Option.some.inj H
  go_enter Try.func3, Try.ntmps3
  go_wp2_with (first | ((with_reducible refine gate_dst (N := 4) rfl ?_); refine box_event ?hg (N := 4) ?hd (cs := #[.int .i64 a0_0, .int .i64 a0_1, .int .i64 a0_2, .int .i64 a0_3, .int .i64 a0_4, .int .i64 a0_5, .int .i64 a0_6]) (t := 23) ?hr ?_; (case hd => rfl); (case hg => rfl); (case hr => first | (go_simp; done) | (go_simp; rfl)); intro h1 hg w6 hbox hb; have b0 := a_ (hbox); have H5 := a_ (bsg hg HB.out); have H6 := a_ (bsg hg HB.out); replace HB := a_ (below_step (un HB.out) hb); clear hb hbox hg) | ((with_reducible refine gate_dst (N := 5) rfl ?_); refine box_event ?hg (N := 5) ?hd (cs := #[.bool a1_0, .int .i64 a1_1, .int .i64 a1_2, .int .i64 a1_3]) (t := 25) ?hr ?_; (case hd => rfl); (case hg => rfl); (case hr => first | (go_simp; done) | (go_simp; rfl)); intro j9 hg w7 hbox hb; have b1 := a_ (hbox); have H7 := a_ (bsg hg HB.out); have H8 := a_ (bsg hg HB.out); replace HB := a_ (below_step (by repeat (with_reducible first | exact HB.out | refine bz ?_ (by assumption) | apply bA | apply bN | apply bD)) hb); have q6 := a_ (nel hg b0.out); have q7 := a_ (nle hg b0.out); replace b0 := a_ (blk_below (pk b0.out) hb); clear hb hbox hg))
  go_ret
  exact ⟨by first | rfl | (simp [errW_none, errW_some] <;> rfl) | (simp [*, errW_none, errW_some] <;> rfl), by repeat (with_reducible first | exact HB.out | refine bz ?_ (by assumption) | apply bA | apply bN | apply bD)⟩
 ·rw [if_neg c5] at H
  have O8 : decide (1048576 < (l2.length : Int)) = false := decide_eq_false c5
  have O9 : decide (1048576 < l2.length) = false := decide_eq_false (by omega)
  clear c5
  by_cases c8 : (l3.length : Int) > 1048576
  ·rw [if_pos c8] at H
   have P0 : decide (1048576 < (l3.length : Int)) = true := decide_eq_true c8
   have P1 : decide (1048576 < l3.length) = true := decide_eq_true (by omega)
   clear c8
   obtain rfl := Option.some.inj H
   go_enter Try.func3, Try.ntmps3
   go_wp2_with (first | ((with_reducible refine gate_dst (N := 4) rfl ?_); refine box_event ?hg (N := 4) ?hd (cs := #[.int .i64 a0_0, .int .i64 a0_1, .int .i64 a0_2, .int .i64 a0_3, .int .i64 a0_4, .int .i64 a0_5, .int .i64 a0_6]) (t := 23) ?hr ?_; (case hd => rfl); (case hg => rfl); (case hr => first | (go_simp; done) | (go_simp; rfl)); intro h1 hg w9 hbox hb; have b0 := a_ (hbox); have H5 := a_ (bsg hg HB.out); have H6 := a_ (bsg hg HB.out); replace HB := a_ (below_step (un HB.out) hb); clear hb hbox hg) | ((with_reducible refine gate_dst (N := 5) rfl ?_); refine box_event ?hg (N := 5) ?hd (cs := #[.bool a1_0, .int .i64 a1_1, .int .i64 a1_2, .int .i64 a1_3]) (t := 25) ?hr ?_; (case hd => rfl); (case hg => rfl); (case hr => first | (go_simp; done) | (go_simp; rfl)); intro j9 hg Zg hbox hb; have b1 := a_ (hbox); have H7 := a_ (bsg hg HB.out); have H8 := a_ (bsg hg HB.out); replace HB := a_ (below_step (by repeat (with_reducible first | exact HB.out | refine bz ?_ (by assumption) | apply bA | apply bN | apply bD)) hb); have q6 := a_ (nel hg b0.out); have q7 := a_ (nle hg b0.out); replace b0 := a_ (blk_below (pk b0.out) hb); clear hb hbox hg))
   go_ret
   exact ⟨by first | rfl | (simp [errW_none, errW_some] <;> rfl) | (simp [*, errW_none, errW_some] <;> rfl), by repeat (with_reducible first | exact HB.out | refine bz ?_ (by assumption) | apply bA | apply bN | apply bD)⟩
  ·rw [if_neg c8] at H
   have P0 : decide (1048576 < (l3.length : Int)) = false := decide_eq_false c8
   have P1 : decide (1048576 < l3.length) = false := decide_eq_false (by omega)
   clear c8
   replace H := Option.bind_eq_some_iff.mp H
   obtain ⟨⟨r7, r8, r9, t0, t1, t2, t3⟩, J8, H⟩ := H
   replace H : ((laws_toHold.f a1_0 a1_1 a1_2 a1_3).bind fun bt200 => ((laws_toIntS.f k l2).bind fun t204 => ((laws_toIntS.f k l3).bind fun t207 => ((spec_RunHold.f k r7 r8 r9 t0 t1 t2 t3 bt200.1 bt200.2.1 bt200.2.2.1 bt200.2.2.2 t204 t207).bind fun bt210 => ((laws_toIntS.f k l2).bind fun t219 => ((laws_toIntS.f k l3).bind fun t222 => ((laws_toLoop.f a0_0 a0_1 a0_2 a0_3 a0_4 a0_5 a0_6).bind fun bt225 => ((laws_toHold.f a1_0 a1_1 a1_2 a1_3).bind fun bt232 => ((impl_RunHold.f k bt225.1 bt225.2.1 bt225.2.2.1 bt225.2.2.2.1 bt225.2.2.2.2.1 bt225.2.2.2.2.2.1 bt225.2.2.2.2.2.2 bt232.1 bt232.2.1 bt232.2.2.1 bt232.2.2.2 t219 t222).bind fun bt236 => ((laws_eqIntS.f k bt236.1 bt210.1).bind fun t245 => (if t245 = true then ((laws_eqHold.f bt236.2.1 bt236.2.2.1 bt236.2.2.2.1 bt236.2.2.2.2.1 bt210.2.1 bt210.2.2.1 bt210.2.2.2.1 bt210.2.2.2.2.1).bind fun t246 => (if t246 = true then (laws_FnExactRunHold.j0 k l2 l3 bt210.1 bt210.2.2.2.2.2 t219 t222 bt236.1 bt236.2.2.2.2.2 (bt236.2.2.2.2.2 != bt210.2.2.2.2.2) a0_0 a0_1 a0_2 a0_3 a0_4 a0_5 a0_6 a1_0 a1_1 a1_2 a1_3 bt210.2.1 bt210.2.2.1 bt210.2.2.2.1 bt210.2.2.2.2.1 bt236.2.1 bt236.2.2.1 bt236.2.2.2.1 bt236.2.2.2.2.1) else (laws_FnExactRunHold.j0 k l2 l3 bt210.1 bt210.2.2.2.2.2 t219 t222 bt236.1 bt236.2.2.2.2.2 true a0_0 a0_1 a0_2 a0_3 a0_4 a0_5 a0_6 a1_0 a1_1 a1_2 a1_3 bt210.2.1 bt210.2.2.1 bt210.2.2.2.1 bt210.2.2.2.2.1 bt236.2.1 bt236.2.2.1 bt236.2.2.2.1 bt236.2.2.2.2.1))) else (laws_FnExactRunHold.j0 k l2 l3 bt210.1 bt210.2.2.2.2.2 t219 t222 bt236.1 bt236.2.2.2.2.2 true a0_0 a0_1 a0_2 a0_3 a0_4 a0_5 a0_6 a1_0 a1_1 a1_2 a1_3 bt210.2.1 bt210.2.2.1 bt210.2.2.2.1 bt210.2.2.2.2.1 bt236.2.1 bt236.2.2.1 bt236.2.2.2.1 bt236.2.2.2.2.1)))))))))))) = some r := H
   have Ya := Aside0.mk J8
   clear J8
   replace H := Option.bind_eq_some_iff.mp H
   obtain ⟨⟨u1, u2, u3, u4⟩, J9, H⟩ := H
   replace H : ((laws_toIntS.f k l2).bind fun t204 => ((laws_toIntS.f k l3).bind fun t207 => ((spec_RunHold.f k r7 r8 r9 t0 t1 t2 t3 u1 u2 u3 u4 t204 t207).bind fun bt210 => ((laws_toIntS.f k l2).bind fun t219 => ((laws_toIntS.f k l3).bind fun t222 => ((laws_toLoop.f a0_0 a0_1 a0_2 a0_3 a0_4 a0_5 a0_6).bind fun bt225 => ((laws_toHold.f a1_0 a1_1 a1_2 a1_3).bind fun bt232 => ((impl_RunHold.f k bt225.1 bt225.2.1 bt225.2.2.1 bt225.2.2.2.1 bt225.2.2.2.2.1 bt225.2.2.2.2.2.1 bt225.2.2.2.2.2.2 bt232.1 bt232.2.1 bt232.2.2.1 bt232.2.2.2 t219 t222).bind fun bt236 => ((laws_eqIntS.f k bt236.1 bt210.1).bind fun t245 => (if t245 = true then ((laws_eqHold.f bt236.2.1 bt236.2.2.1 bt236.2.2.2.1 bt236.2.2.2.2.1 bt210.2.1 bt210.2.2.1 bt210.2.2.2.1 bt210.2.2.2.2.1).bind fun t246 => (if t246 = true then (laws_FnExactRunHold.j0 k l2 l3 bt210.1 bt210.2.2.2.2.2 t219 t222 bt236.1 bt236.2.2.2.2.2 (bt236.2.2.2.2.2 != bt210.2.2.2.2.2) a0_0 a0_1 a0_2 a0_3 a0_4 a0_5 a0_6 a1_0 a1_1 a1_2 a1_3 bt210.2.1 bt210.2.2.1 bt210.2.2.2.1 bt210.2.2.2.2.1 bt236.2.1 bt236.2.2.1 bt236.2.2.2.1 bt236.2.2.2.2.1) else (laws_FnExactRunHold.j0 k l2 l3 bt210.1 bt210.2.2.2.2.2 t219 t222 bt236.1 bt236.2.2.2.2.2 true a0_0 a0_1 a0_2 a0_3 a0_4 a0_5 a0_6 a1_0 a1_1 a1_2 a1_3 bt210.2.1 bt210.2.2.1 bt210.2.2.2.1 bt210.2.2.2.2.1 bt236.2.1 bt236.2.2.1 bt236.2.2.2.1 bt236.2.2.2.2.1))) else (laws_FnExactRunHold.j0 k l2 l3 bt210.1 bt210.2.2.2.2.2 t219 t222 bt236.1 bt236.2.2.2.2.2 true a0_0 a0_1 a0_2 a0_3 a0_4 a0_5 a0_6 a1_0 a1_1 a1_2 a1_3 bt210.2.1 bt210.2.2.1 bt210.2.2.2.1 bt210.2.2.2.2.1 bt236.2.1 bt236.2.2.1 bt236.2.2.2.1 bt236.2.2.2.2.1))))))))))) = some r := H
   have Yb := Aside0.mk J9
   clear J9
   replace H := Option.bind_eq_some_iff.mp H
   obtain ⟨t204, H3, H⟩ := H
   have Yc := Aside0.mk H3
   clear H3
   replace H := Option.bind_eq_some_iff.mp H
   obtain ⟨t207, K0, H⟩ := H
   have Yd := Aside0.mk K0
   clear K0
   replace H := Option.bind_eq_some_iff.mp H
   obtain ⟨⟨g8, f8, f9, g0, g1, i7⟩, A1, H⟩ := H
   replace H : ((laws_toIntS.f k l2).bind fun t219 => ((laws_toIntS.f k l3).bind fun t222 => ((laws_toLoop.f a0_0 a0_1 a0_2 a0_3 a0_4 a0_5 a0_6).bind fun bt225 => ((laws_toHold.f a1_0 a1_1 a1_2 a1_3).bind fun bt232 => ((impl_RunHold.f k bt225.1 bt225.2.1 bt225.2.2.1 bt225.2.2.2.1 bt225.2.2.2.2.1 bt225.2.2.2.2.2.1 bt225.2.2.2.2.2.2 bt232.1 bt232.2.1 bt232.2.2.1 bt232.2.2.2 t219 t222).bind fun bt236 => ((laws_eqIntS.f k bt236.1 g8).bind fun t245 => (if t245 = true then ((laws_eqHold.f bt236.2.1 bt236.2.2.1 bt236.2.2.2.1 bt236.2.2.2.2.1 f8 f9 g0 g1).bind fun t246 => (if t246 = true then (laws_FnExactRunHold.j0 k l2 l3 g8 i7 t219 t222 bt236.1 bt236.2.2.2.2.2 (bt236.2.2.2.2.2 != i7) a0_0 a0_1 a0_2 a0_3 a0_4 a0_5 a0_6 a1_0 a1_1 a1_2 a1_3 f8 f9 g0 g1 bt236.2.1 bt236.2.2.1 bt236.2.2.2.1 bt236.2.2.2.2.1) else (laws_FnExactRunHold.j0 k l2 l3 g8 i7 t219 t222 bt236.1 bt236.2.2.2.2.2 true a0_0 a0_1 a0_2 a0_3 a0_4 a0_5 a0_6 a1_0 a1_1 a1_2 a1_3 f8 f9 g0 g1 bt236.2.1 bt236.2.2.1 bt236.2.2.2.1 bt236.2.2.2.2.1))) else (laws_FnExactRunHold.j0 k l2 l3 g8 i7 t219 t222 bt236.1 bt236.2.2.2.2.2 true a0_0 a0_1 a0_2 a0_3 a0_4 a0_5 a0_6 a1_0 a1_1 a1_2 a1_3 f8 f9 g0 g1 bt236.2.1 bt236.2.2.1 bt236.2.2.2.1 bt236.2.2.2.2.1)))))))) = some r := H
   have Ye := Aside0.mk A1
   clear A1
   replace H := Option.bind_eq_some_iff.mp H
   obtain ⟨t219, K1, H⟩ := H
   have Yf := Aside0.mk K1
   clear K1
   replace H := Option.bind_eq_some_iff.mp H
   obtain ⟨t222, K2, H⟩ := H
   have Yg := Aside0.mk K2
   clear K2
   replace H := Option.bind_eq_some_iff.mp H
   obtain ⟨⟨p0, p1, p3, p4, p5, p6, p7⟩, K3, H⟩ := H
   replace H : ((laws_toHold.f a1_0 a1_1 a1_2 a1_3).bind fun bt232 => ((impl_RunHold.f k p0 p1 p3 p4 p5 p6 p7 bt232.1 bt232.2.1 bt232.2.2.1 bt232.2.2.2 t219 t222).bind fun bt236 => ((laws_eqIntS.f k bt236.1 g8).bind fun t245 => (if t245 = true then ((laws_eqHold.f bt236.2.1 bt236.2.2.1 bt236.2.2.2.1 bt236.2.2.2.2.1 f8 f9 g0 g1).bind fun t246 => (if t246 = true then (laws_FnExactRunHold.j0 k l2 l3 g8 i7 t219 t222 bt236.1 bt236.2.2.2.2.2 (bt236.2.2.2.2.2 != i7) a0_0 a0_1 a0_2 a0_3 a0_4 a0_5 a0_6 a1_0 a1_1 a1_2 a1_3 f8 f9 g0 g1 bt236.2.1 bt236.2.2.1 bt236.2.2.2.1 bt236.2.2.2.2.1) else (laws_FnExactRunHold.j0 k l2 l3 g8 i7 t219 t222 bt236.1 bt236.2.2.2.2.2 true a0_0 a0_1 a0_2 a0_3 a0_4 a0_5 a0_6 a1_0 a1_1 a1_2 a1_3 f8 f9 g0 g1 bt236.2.1 bt236.2.2.1 bt236.2.2.2.1 bt236.2.2.2.2.1))) else (laws_FnExactRunHold.j0 k l2 l3 g8 i7 t219 t222 bt236.1 bt236.2.2.2.2.2 true a0_0 a0_1 a0_2 a0_3 a0_4 a0_5 a0_6 a1_0 a1_1 a1_2 a1_3 f8 f9 g0 g1 bt236.2.1 bt236.2.2.1 bt236.2.2.2.1 bt236.2.2.2.2.1))))) = some r := H
   have Z1 := Aside0.mk K3
   clear K3
   replace H := Option.bind_eq_some_iff.mp H
   obtain ⟨⟨p8, p9, q0, q1⟩, K4, H⟩ := H
   replace H : ((impl_RunHold.f k p0 p1 p3 p4 p5 p6 p7 p8 p9 q0 q1 t219 t222).bind fun bt236 => ((laws_eqIntS.f k bt236.1 g8).bind fun t245 => (if t245 = true then ((laws_eqHold.f bt236.2.1 bt236.2.2.1 bt236.2.2.2.1 bt236.2.2.2.2.1 f8 f9 g0 g1).bind fun t246 => (if t246 = true then (laws_FnExactRunHold.j0 k l2 l3 g8 i7 t219 t222 bt236.1 bt236.2.2.2.2.2 (bt236.2.2.2.2.2 != i7) a0_0 a0_1 a0_2 a0_3 a0_4 a0_5 a0_6 a1_0 a1_1 a1_2 a1_3 f8 f9 g0 g1 bt236.2.1 bt236.2.2.1 bt236.2.2.2.1 bt236.2.2.2.2.1) else (laws_FnExactRunHold.j0 k l2 l3 g8 i7 t219 t222 bt236.1 bt236.2.2.2.2.2 true a0_0 a0_1 a0_2 a0_3 a0_4 a0_5 a0_6 a1_0 a1_1 a1_2 a1_3 f8 f9 g0 g1 bt236.2.1 bt236.2.2.1 bt236.2.2.2.1 bt236.2.2.2.2.1))) else (laws_FnExactRunHold.j0 k l2 l3 g8 i7 t219 t222 bt236.1 bt236.2.2.2.2.2 true a0_0 a0_1 a0_2 a0_3 a0_4 a0_5 a0_6 a1_0 a1_1 a1_2 a1_3 f8 f9 g0 g1 bt236.2.1 bt236.2.2.1 bt236.2.2.2.1 bt236.2.2.2.2.1)))) = some r := H
   have P2 := Aside0.mk K4
   clear K4
   replace H := Option.bind_eq_some_iff.mp H
   obtain ⟨⟨i5, j5, j8, k0, k1, n7⟩, K5, H⟩ := H
   replace H : ((laws_eqIntS.f k i5 g8).bind fun t245 => (if t245 = true then ((laws_eqHold.f j5 j8 k0 k1 f8 f9 g0 g1).bind fun t246 => (if t246 = true then (laws_FnExactRunHold.j0 k l2 l3 g8 i7 t219 t222 i5 n7 (n7 != i7) a0_0 a0_1 a0_2 a0_3 a0_4 a0_5 a0_6 a1_0 a1_1 a1_2 a1_3 f8 f9 g0 g1 j5 j8 k0 k1) else (laws_FnExactRunHold.j0 k l2 l3 g8 i7 t219 t222 i5 n7 true a0_0 a0_1 a0_2 a0_3 a0_4 a0_5 a0_6 a1_0 a1_1 a1_2 a1_3 f8 f9 g0 g1 j5 j8 k0 k1))) else (laws_FnExactRunHold.j0 k l2 l3 g8 i7 t219 t222 i5 n7 true a0_0 a0_1 a0_2 a0_3 a0_4 a0_5 a0_6 a1_0 a1_1 a1_2 a1_3 f8 f9 g0 g1 j5 j8 k0 k1))) = some r := H
   have O7 := Aside0.mk K5
   clear K5
   have HC21 := Aside0.mk H
   clear H
   go_enter Try.func3, Try.ntmps3
   try go_wp2_with (first | ((with_reducible refine gate_dst (N := 4) rfl ?_); refine box_event ?hg (N := 4) ?hd (cs := #[.int .i64 a0_0, .int .i64 a0_1, .int .i64 a0_2, .int .i64 a0_3, .int .i64 a0_4, .int .i64 a0_5, .int .i64 a0_6]) (t := 23) ?hr ?_; (case hd => rfl); (case hg => rfl); (case hr => first | (go_simp; done) | (go_simp; rfl)); intro h1 hg Zh hbox hb; have b0 := a_ (hbox); have H5 := a_ (bsg hg HB.out); have H6 := a_ (bsg hg HB.out); replace HB := a_ (below_step (un HB.out) hb); clear hb hbox hg) | ((with_reducible refine gate_dst (N := 5) rfl ?_); refine box_event ?hg (N := 5) ?hd (cs := #[.bool a1_0, .int .i64 a1_1, .int .i64 a1_2, .int .i64 a1_3]) (t := 25) ?hr ?_; (case hd => rfl); (case hg => rfl); (case hr => first | (go_simp; done) | (go_simp; rfl)); intro j9 hg Yh hbox hb; have b1 := a_ (hbox); have H7 := a_ (bsg hg HB.out); have H8 := a_ (bsg hg HB.out); replace HB := a_ (below_step (by repeat (with_reducible first | exact HB.out | refine bz ?_ (by assumption) | apply bA | apply bN | apply bD)) hb); have q6 := a_ (nel hg b0.out); have q7 := a_ (nle hg b0.out); replace b0 := a_ (blk_below (pk b0.out) hb); clear hb hbox hg))
   replace b0 := a_ (blk_drew b0.out)
   replace b1 := a_ (blk_drew b1.out)
   replace HB := a_ (below_drew1 HB.out)
   refine start_ (n := 17) (S := fun w' => True) (ds := []) #[false, false, false, false, false, false, false, false, false, false, false, false, false, false, false, false, false] (by kernel_rfl) rfl rfl trivial (fun l0 => ?_); refine with_tabW laws_FnExactRunHold.tab5 laws_FnExactRunHold.bits5 (fun HT_ HW_ => ?_)
   generalize Yh.drew = Zi at b0 b1 HB l0 ⊢
   refine pure_ (i := 4) (N := some 34) (v := ?_) (a' := ?_) #[false, false, false, false, true, false, false, false, false, false, false, false, false, false, false, false, false] rfl rfl (any_of HT_.out (by kernel_rfl)) (fun _ _ _ h => h) (Or.inl ⟨by rfl, ?_⟩) ?_ ?_
   rotate_left
   ·intro w'
    go_simp
    with_reducible rfl
   rotate_left
   ·simp only [Act.put, sB, sC, sD, i64_w, i32_w]
    rfl
   refine pure_ (i := 6) (N := some 36) (v := ?_) (a' := ?_) #[false, false, false, false, true, false, true, false, false, false, false, false, false, false, false, false, false] rfl rfl (any_of HT_.out (by kernel_rfl)) (fun _ _ _ h => h) (Or.inl ⟨by rfl, ?_⟩) ?_ ?_
   rotate_left
   ·intro w'
    go_simp
    with_reducible rfl
   rotate_left
   ·simp only [Act.put, sB, sC, sD, i64_w, i32_w]
    rfl
   refine inv_at [0, 1, 2, 3, 5, 7, 8, 9, 10, 11, 12, 13, 14, 15, 16] (fun a0_ b a w' => ∃ (l4 : Value) (l5 : Value) (h8 : Value) (f5 : Nat) (m8_ : Value) (m9_ : Value) (m10_ : Value) (m13_ : Value) (m14_ : Value), a = putSel a0_ b [(0, 30, .agg #[.int .i64 a0_0, .int .i64 a0_1, .int .i64 a0_2, .int .i64 a0_3, .int .i64 a0_4, .int .i64 a0_5, .int .i64 a0_6]), (1, 31, .agg #[.int .i64 r7, .int .i64 r8, .int .i64 r9, .int .i64 t0, .int .i64 t1, .int .i64 t2, .int .i64 t3]), (2, 32, .agg #[.bool a1_0, .int .i64 a1_1, .int .i64 a1_2, .int .i64 a1_3]), (3, 33, .agg #[.bool u1, .int .i64 u2, .int .i64 u3, .int .i64 u4]), (5, 35, l4), (7, 37, l5), (8, 38, m8_), (9, 29, m9_), (10, 39, m10_), (11, 40, .agg #[.bool f8, .int .i64 f9, .int .i64 g0, .int .i64 g1]), (12, 41, .bool i7), (13, 10, m13_), (14, 9, m14_), (16, 11, .bool i7)] ∧ (w'.heap[h1]? = some (.cells #[.int .i64 a0_0, .int .i64 a0_1, .int .i64 a0_2, .int .i64 a0_3, .int .i64 a0_4, .int .i64 a0_5, .int .i64 a0_6] 23 (0, 0))) ∧ (w'.heap[j9]? = some (.cells #[.bool a1_0, .int .i64 a1_1, .int .i64 a1_2, .int .i64 a1_3] 25 (0, 0))) ∧ (Below w.heap.size w w') ∧ (b 5 = true → Kd.R (Kd.int .i64) 3 w' w.heap.size (fun _ => True) l4 t204) ∧ (b 7 = true → Kd.R (Kd.int .i64) 3 w' w.heap.size (fun _ => True) l5 t207) ∧ (b 8 = true → Kd.R (Kd.int .i64) 3 w' w.heap.size (fun _ => True) h8 g8) ∧ (b 13 = true → b 15 = false → w'.heap[f5]? = some (.cells #[.bool false, .int .i64 0, .int .i64 0, .int .i64 0] 27 (0, 0))) ∧ (b 13 = true → w.heap.size ≤ f5) ∧ (b 13 = true → w.heap.size ≤ f5) ∧ (b 13 = true → h1 ≠ f5) ∧ (b 13 = true → f5 ≠ h1) ∧ (b 13 = true → j9 ≠ f5) ∧ (b 13 = true → f5 ≠ j9) ∧ (b 15 = true → w'.heap[f5]? = some (.cells #[.bool f8, .int .i64 f9, .int .i64 g0, .int .i64 g1] 27 (0, 0))) ∧ (b 5 = true → b 7 = true → ∀ k_, l5.ownBlock = some k_ → N_ l4 k_) ∧ (b 5 = true → b 8 = true → ∀ k_, h8.ownBlock = some k_ → N_ l4 k_) ∧ (b 7 = true → b 8 = true → ∀ k_, h8.ownBlock = some k_ → N_ l5 k_) ∧ (b 8 = true → (m8_ : Value) = .tuple #[h8, .agg #[.bool f8, .int .i64 f9, .int .i64 g0, .int .i64 g1], .bool i7]) ∧ (b 9 = true → (m9_ : Value) = .tuple #[h8, .agg #[.bool f8, .int .i64 f9, .int .i64 g0, .int .i64 g1], .bool i7]) ∧ (b 10 = true → (m10_ : Value) = h8) ∧ (b 13 = true → (m13_ : Value) = .pointer (some ⟨f5, 0, none⟩)) ∧ (b 14 = true → (m14_ : Value) = h8)) HT_.out HW_.out (by kernel_rfl) (by kernel_rfl) ?_ ?_ ?_
   ·exact ⟨.bool false, .bool false, .bool false, 0, .bool false, .bool false, .bool false, .bool false, .bool false, by simp only [putSel, Bool.false_eq_true, if_false], b0.out, b1.out, HB.out, fun h_ => absurd h_ (by decide), fun h_ => absurd h_ (by decide), fun h_ => absurd h_ (by decide), fun h_ => absurd h_ (by decide), fun h_ => absurd h_ (by decide), fun h_ => absurd h_ (by decide), fun h_ => absurd h_ (by decide), fun h_ => absurd h_ (by decide), fun h_ => absurd h_ (by decide), fun h_ => absurd h_ (by decide), fun h_ => absurd h_ (by decide), fun h_ => absurd h_ (by decide), fun h_ => absurd h_ (by decide), fun h_ => absurd h_ (by decide), fun h_ => absurd h_ (by decide), fun h_ => absurd h_ (by decide), fun h_ => absurd h_ (by decide), fun h_ => absurd h_ (by decide), fun h_ => absurd h_ (by decide)⟩
   ·skip
    clear b0 b1 HB
    refine steps_cons ?_ ?_
    ·rintro b a w' ⟨l4, l5, h8, f5, m8_, m9_, m10_, m13_, m14_, ha, c0, c4, i3, g9, h2, i1, d1, h3, h4, d4, d5, d6, d7, g4, b4, b6, b7, i8, i6, g3, e8, h9⟩ hb_ hon hoff
     refine ⟨_, rfl, fun K hK => ?_⟩
     have e4 : a.tmps[4]? = some (.pointer (some ⟨h1, 0, none⟩)) := by rw [ha]; exact (putSel_off rfl).trans rfl
     replace ha := Aside0.mk ha
     have b0 := Aside0.mk c0
     have b1 := Aside0.mk c4
     have HB := Aside0.mk i3
     have hc0_ : w'.cell? ⟨h1, 0, none⟩ = some (.int .i64 a0_0) := (blk_cell b0.out 0).trans rfl
     have hc1_ : w'.cell? ⟨h1, 1, none⟩ = some (.int .i64 a0_1) := (blk_cell b0.out 1).trans rfl
     have hc2_ : w'.cell? ⟨h1, 2, none⟩ = some (.int .i64 a0_2) := (blk_cell b0.out 2).trans rfl
     have hc3_ : w'.cell? ⟨h1, 3, none⟩ = some (.int .i64 a0_3) := (blk_cell b0.out 3).trans rfl
     have hc4_ : w'.cell? ⟨h1, 4, none⟩ = some (.int .i64 a0_4) := (blk_cell b0.out 4).trans rfl
     have hc5_ : w'.cell? ⟨h1, 5, none⟩ = some (.int .i64 a0_5) := (blk_cell b0.out 5).trans rfl
     have hc6_ : w'.cell? ⟨h1, 6, none⟩ = some (.int .i64 a0_6) := (blk_cell b0.out 6).trans rfl
     refine value_ (w1 := w') (v := .agg #[.int .i64 a0_0, .int .i64 a0_1, .int .i64 a0_2, .int .i64 a0_3, .int .i64 a0_4, .int .i64 a0_5, .int .i64 a0_6]) (by rfl) rfl ?_ ?_
     ·go_simp
      (try simp only [i64_w])
      try rfl
     refine hK.out _ _ ⟨l4, l5, h8, f5, m8_, m9_, m10_, m13_, m14_, (by rw [ha.out]; exact putSel_upk 0 hb_ rfl rfl rfl), c0, c4, i3, ab (hoff 5 (by kernel_rfl)) (by decide), ab (hoff 7 (by kernel_rfl)) (by decide), ab (hoff 8 (by kernel_rfl)) (by decide), d1, h3, h4, d4, d5, d6, d7, ab (hoff 15 (by kernel_rfl)) (by decide), fun h0_ _ => absurd ((hoff 5 (by kernel_rfl)).symm.trans h0_) (by decide), fun h0_ _ => absurd ((hoff 5 (by kernel_rfl)).symm.trans h0_) (by decide), fun h0_ _ => absurd ((hoff 7 (by kernel_rfl)).symm.trans h0_) (by decide), ab (hoff 8 (by kernel_rfl)) (by decide), ab (hoff 9 (by kernel_rfl)) (by decide), ab (hoff 10 (by kernel_rfl)) (by decide), e8, ab (hoff 14 (by kernel_rfl)) (by decide)⟩
    refine steps_cons ?_ ?_
    ·rintro b a w' ⟨l4, l5, h8, f5, m8_, m9_, m10_, m13_, m14_, ha, c0, c4, i3, g9, h2, i1, d1, h3, h4, d4, d5, d6, d7, g4, b4, b6, b7, i8, i6, g3, e8, h9⟩ hb_ hon hoff
     refine ⟨_, rfl, fun K hK => ?_⟩
     have e30 : a.tmps[30]? = some (.agg #[.int .i64 a0_0, .int .i64 a0_1, .int .i64 a0_2, .int .i64 a0_3, .int .i64 a0_4, .int .i64 a0_5, .int .i64 a0_6]) := by rw [ha]; exact putSel_on (e := (0, 30, .agg #[.int .i64 a0_0, .int .i64 a0_1, .int .i64 a0_2, .int .i64 a0_3, .int .i64 a0_4, .int .i64 a0_5, .int .i64 a0_6])) 0 rfl rfl (hon 0 (by kernel_rfl)) rfl
     replace ha := Aside0.mk ha
     have b0 := Aside0.mk c0
     have b1 := Aside0.mk c4
     have HB := Aside0.mk i3
     refine goes_ Try.func7 (by kernel_rfl) rfl #[.agg #[.int .i64 a0_0, .int .i64 a0_1, .int .i64 a0_2, .int .i64 a0_3, .int .i64 a0_4, .int .i64 a0_5, .int .i64 a0_6]] (by rfl) rfl rfl (by first | (simp only [List.map_toArray, List.map_cons, List.map_nil, Act.eval, Array.getD_eq_getD_getElem?, Option.getD_some, e30]; done) | (simp only [List.map_toArray, List.map_cons, List.map_nil, Act.eval, Array.getD_eq_getD_getElem?, Option.getD_some, e30]; rfl)) ?_
     with_reducible refine (laws_toLoop.calls a0_0 a0_1 a0_2 a0_3 a0_4 a0_5 a0_6 r7 r8 r9 t0 t1 t2 t3 _ Ya.out).mono ?_
     rintro e K6 ⟨rfl, hb⟩
     refine ⟨_, rfl, ?_⟩
     have n0_ := a_ (blk_below (pk b0.out) hb)
     have n1_ := a_ (blk_below (pk b1.out) hb)
     have n2_ := a_ (below_step (by repeat (with_reducible first | exact HB.out | refine bz ?_ (by assumption) | apply bA | apply bN | apply bD)) hb)
     have z_BK218 := fun (h0_ : b 13 = true) (h1_ : b 15 = false) => (show K6.heap[f5]? = some (.cells #[.bool false, .int .i64 0, .int .i64 0, .int .i64 0] 27 (0, 0)) from by first | exact (blk_below (g := f5) (o := .cells #[.bool false, .int .i64 0, .int .i64 0, .int .i64 0] 27 (0, 0)) (by refine pk ?_; exact (d1 h0_ h1_)) hb))
     clear b0
     clear b1
     clear HB
     have b0 := n0_
     have b1 := n1_
     have HB := n2_
     clear n0_ n1_ n2_
     (try clear hb)
     (try clear hb2)
     (try clear hk)
     (try clear hi)
     refine hK.out _ _ ⟨l4, l5, h8, f5, m8_, m9_, m10_, m13_, m14_, (by rw [ha.out]; exact putSel_upk 1 hb_ rfl rfl rfl), (pk b0.out), (pk b1.out), (by repeat (with_reducible first | exact HB.out | refine bz ?_ (by assumption) | apply bA | apply bN | apply bD)), ab (hoff 5 (by kernel_rfl)) (by decide), ab (hoff 7 (by kernel_rfl)) (by decide), ab (hoff 8 (by kernel_rfl)) (by decide), z_BK218, h3, h4, d4, d5, d6, d7, ab (hoff 15 (by kernel_rfl)) (by decide), fun h0_ _ => absurd ((hoff 5 (by kernel_rfl)).symm.trans h0_) (by decide), fun h0_ _ => absurd ((hoff 5 (by kernel_rfl)).symm.trans h0_) (by decide), fun h0_ _ => absurd ((hoff 7 (by kernel_rfl)).symm.trans h0_) (by decide), ab (hoff 8 (by kernel_rfl)) (by decide), ab (hoff 9 (by kernel_rfl)) (by decide), ab (hoff 10 (by kernel_rfl)) (by decide), e8, ab (hoff 14 (by kernel_rfl)) (by decide)⟩
    refine steps_cons ?_ ?_
    ·rintro b a w' ⟨l4, l5, h8, f5, m8_, m9_, m10_, m13_, m14_, ha, c0, c4, i3, g9, h2, i1, d1, h3, h4, d4, d5, d6, d7, g4, b4, b6, b7, i8, i6, g3, e8, h9⟩ hb_ hon hoff
     refine ⟨_, rfl, fun K hK => ?_⟩
     have e5 : a.tmps[5]? = some (.pointer (some ⟨j9, 0, none⟩)) := by rw [ha]; exact (putSel_off rfl).trans rfl
     replace ha := Aside0.mk ha
     have b0 := Aside0.mk c0
     have b1 := Aside0.mk c4
     have HB := Aside0.mk i3
     have hc0_ : w'.cell? ⟨j9, 0, none⟩ = some (.bool a1_0) := (blk_cell b1.out 0).trans rfl
     have hc1_ : w'.cell? ⟨j9, 1, none⟩ = some (.int .i64 a1_1) := (blk_cell b1.out 1).trans rfl
     have hc2_ : w'.cell? ⟨j9, 2, none⟩ = some (.int .i64 a1_2) := (blk_cell b1.out 2).trans rfl
     have hc3_ : w'.cell? ⟨j9, 3, none⟩ = some (.int .i64 a1_3) := (blk_cell b1.out 3).trans rfl
     refine value_ (w1 := w') (v := .agg #[.bool a1_0, .int .i64 a1_1, .int .i64 a1_2, .int .i64 a1_3]) (by rfl) rfl ?_ ?_
     ·go_simp
      (try simp only [i64_w])
      try rfl
     refine hK.out _ _ ⟨l4, l5, h8, f5, m8_, m9_, m10_, m13_, m14_, (by rw [ha.out]; exact putSel_upk 2 hb_ rfl rfl rfl), c0, c4, i3, ab (hoff 5 (by kernel_rfl)) (by decide), ab (hoff 7 (by kernel_rfl)) (by decide), ab (hoff 8 (by kernel_rfl)) (by decide), d1, h3, h4, d4, d5, d6, d7, ab (hoff 15 (by kernel_rfl)) (by decide), fun h0_ _ => absurd ((hoff 5 (by kernel_rfl)).symm.trans h0_) (by decide), fun h0_ _ => absurd ((hoff 5 (by kernel_rfl)).symm.trans h0_) (by decide), fun h0_ _ => absurd ((hoff 7 (by kernel_rfl)).symm.trans h0_) (by decide), ab (hoff 8 (by kernel_rfl)) (by decide), ab (hoff 9 (by kernel_rfl)) (by decide), ab (hoff 10 (by kernel_rfl)) (by decide), e8, ab (hoff 14 (by kernel_rfl)) (by decide)⟩
    refine steps_cons ?_ ?_
    ·rintro b a w' ⟨l4, l5, h8, f5, m8_, m9_, m10_, m13_, m14_, ha, c0, c4, i3, g9, h2, i1, d1, h3, h4, d4, d5, d6, d7, g4, b4, b6, b7, i8, i6, g3, e8, h9⟩ hb_ hon hoff
     refine ⟨_, rfl, fun K hK => ?_⟩
     have e32 : a.tmps[32]? = some (.agg #[.bool a1_0, .int .i64 a1_1, .int .i64 a1_2, .int .i64 a1_3]) := by rw [ha]; exact putSel_on (e := (2, 32, .agg #[.bool a1_0, .int .i64 a1_1, .int .i64 a1_2, .int .i64 a1_3])) 2 rfl rfl (hon 2 (by kernel_rfl)) rfl
     replace ha := Aside0.mk ha
     have b0 := Aside0.mk c0
     have b1 := Aside0.mk c4
     have HB := Aside0.mk i3
     refine goes_ Try.func8 (by kernel_rfl) rfl #[.agg #[.bool a1_0, .int .i64 a1_1, .int .i64 a1_2, .int .i64 a1_3]] (by rfl) rfl rfl (by first | (simp only [List.map_toArray, List.map_cons, List.map_nil, Act.eval, Array.getD_eq_getD_getElem?, Option.getD_some, e32]; done) | (simp only [List.map_toArray, List.map_cons, List.map_nil, Act.eval, Array.getD_eq_getD_getElem?, Option.getD_some, e32]; rfl)) ?_
     with_reducible refine (laws_toHold.calls a1_0 a1_1 a1_2 a1_3 u1 u2 u3 u4 _ Yb.out).mono ?_
     rintro e Yi ⟨rfl, hb⟩
     refine ⟨_, rfl, ?_⟩
     have n0_ := a_ (blk_below (pk b0.out) hb)
     have n1_ := a_ (blk_below (pk b1.out) hb)
     have n2_ := a_ (below_step (by repeat (with_reducible first | exact HB.out | refine bz ?_ (by assumption) | apply bA | apply bN | apply bD)) hb)
     have z_BK218 := fun (h0_ : b 13 = true) (h1_ : b 15 = false) => (show Yi.heap[f5]? = some (.cells #[.bool false, .int .i64 0, .int .i64 0, .int .i64 0] 27 (0, 0)) from by first | exact (blk_below (g := f5) (o := .cells #[.bool false, .int .i64 0, .int .i64 0, .int .i64 0] 27 (0, 0)) (by refine pk ?_; exact (d1 h0_ h1_)) hb))
     clear b0
     clear b1
     clear HB
     have b0 := n0_
     have b1 := n1_
     have HB := n2_
     clear n0_ n1_ n2_
     (try clear hb)
     (try clear hb2)
     (try clear hk)
     (try clear hi)
     refine hK.out _ _ ⟨l4, l5, h8, f5, m8_, m9_, m10_, m13_, m14_, (by rw [ha.out]; exact putSel_upk 3 hb_ rfl rfl rfl), (pk b0.out), (pk b1.out), (by repeat (with_reducible first | exact HB.out | refine bz ?_ (by assumption) | apply bA | apply bN | apply bD)), ab (hoff 5 (by kernel_rfl)) (by decide), ab (hoff 7 (by kernel_rfl)) (by decide), ab (hoff 8 (by kernel_rfl)) (by decide), z_BK218, h3, h4, d4, d5, d6, d7, ab (hoff 15 (by kernel_rfl)) (by decide), fun h0_ _ => absurd ((hoff 5 (by kernel_rfl)).symm.trans h0_) (by decide), fun h0_ _ => absurd ((hoff 5 (by kernel_rfl)).symm.trans h0_) (by decide), fun h0_ _ => absurd ((hoff 7 (by kernel_rfl)).symm.trans h0_) (by decide), ab (hoff 8 (by kernel_rfl)) (by decide), ab (hoff 9 (by kernel_rfl)) (by decide), ab (hoff 10 (by kernel_rfl)) (by decide), e8, ab (hoff 14 (by kernel_rfl)) (by decide)⟩
    refine steps_cons ?_ ?_
    ·rintro b a w' ⟨l4, l5, h8, f5, m8_, m9_, m10_, m13_, m14_, ha, c0, c4, i3, g9, h2, i1, d1, h3, h4, d4, d5, d6, d7, g4, b4, b6, b7, i8, i6, g3, e8, h9⟩ hb_ hon hoff
     refine ⟨_, rfl, fun K hK => ?_⟩
     have e34 : a.tmps[34]? = some (.slice A2 l2.length c2) := by rw [ha]; exact (putSel_off rfl).trans rfl
     replace ha := Aside0.mk ha
     have b0 := Aside0.mk c0
     have b1 := Aside0.mk c4
     have HB := Aside0.mk i3
     refine goes_ Try.func9 (by kernel_rfl) rfl #[.slice A2 l2.length c2] (by rfl) rfl rfl (by first | (simp only [List.map_toArray, List.map_cons, List.map_nil, Act.eval, Array.getD_eq_getD_getElem?, Option.getD_some, e34]; done) | (simp only [List.map_toArray, List.map_cons, List.map_nil, Act.eval, Array.getD_eq_getD_getElem?, Option.getD_some, e34]; rfl)) ?_
     with_reducible refine (laws_toIntS.calls k _ _ l2 t204 _ ?side1 ?side2 Yc.out).mono ?_
     (case side1 => exact Kd.C_below HR2.out (un HB.out))
     (case side2 => exact HC2.out)
     rintro e Yj ⟨l4, rfl, ho0, hb⟩
     refine ⟨_, rfl, ?_⟩
     have n0_ := a_ (Kd.R_lower ho0 (bs HB.out))
     have n1_ := a_ (blk_below (pk b0.out) hb)
     have n2_ := a_ (blk_below (pk b1.out) hb)
     have n3_ := a_ (below_step (by repeat (with_reducible first | exact HB.out | refine bz ?_ (by assumption) | apply bA | apply bN | apply bD)) hb)
     have z_BK218 := fun (h0_ : b 13 = true) (h1_ : b 15 = false) => (show Yj.heap[f5]? = some (.cells #[.bool false, .int .i64 0, .int .i64 0, .int .i64 0] 27 (0, 0)) from by first | exact (blk_below (g := f5) (o := .cells #[.bool false, .int .i64 0, .int .i64 0, .int .i64 0] 27 (0, 0)) (by refine pk ?_; exact (d1 h0_ h1_)) hb))
     clear b0
     clear b1
     clear HB
     have f0 := n0_
     have b0 := n1_
     have b1 := n2_
     have HB := n3_
     clear n0_ n1_ n2_ n3_
     (try clear hb)
     (try clear hb2)
     (try clear hk)
     (try clear hi)
     (try clear ho0)
     refine hK.out _ _ ⟨l4, l5, h8, f5, m8_, m9_, m10_, m13_, m14_, (by rw [ha.out]; exact putSel_upk 4 hb_ rfl rfl rfl), (pk b0.out), (pk b1.out), (by repeat (with_reducible first | exact HB.out | refine bz ?_ (by assumption) | apply bA | apply bN | apply bD)), fun _ => (rk (Kd.R_mono f0.out (fun _ _ => trivial))), ab (hoff 7 (by kernel_rfl)) (by decide), ab (hoff 8 (by kernel_rfl)) (by decide), z_BK218, h3, h4, d4, d5, d6, d7, ab (hoff 15 (by kernel_rfl)) (by decide), fun _ h1_ => absurd ((hoff 7 (by kernel_rfl)).symm.trans h1_) (by decide), fun _ h1_ => absurd ((hoff 8 (by kernel_rfl)).symm.trans h1_) (by decide), fun h0_ _ => absurd ((hoff 7 (by kernel_rfl)).symm.trans h0_) (by decide), ab (hoff 8 (by kernel_rfl)) (by decide), ab (hoff 9 (by kernel_rfl)) (by decide), ab (hoff 10 (by kernel_rfl)) (by decide), e8, ab (hoff 14 (by kernel_rfl)) (by decide)⟩
    refine steps_cons ?_ ?_
    ·rintro b a w' ⟨l4, l5, h8, f5, m8_, m9_, m10_, m13_, m14_, ha, c0, c4, i3, g9, h2, i1, d1, h3, h4, d4, d5, d6, d7, g4, b4, b6, b7, i8, i6, g3, e8, h9⟩ hb_ hon hoff
     refine ⟨_, rfl, fun K hK => ?_⟩
     have e36 : a.tmps[36]? = some (.slice A3 l3.length c3) := by rw [ha]; exact (putSel_off rfl).trans rfl
     replace ha := Aside0.mk ha
     have b0 := Aside0.mk c0
     have b1 := Aside0.mk c4
     have HB := Aside0.mk i3
     have f0 := a_ (g9 (hon 5 (by kernel_rfl)))
     refine goes_ Try.func9 (by kernel_rfl) rfl #[.slice A3 l3.length c3] (by rfl) rfl rfl (by first | (simp only [List.map_toArray, List.map_cons, List.map_nil, Act.eval, Array.getD_eq_getD_getElem?, Option.getD_some, e36]; done) | (simp only [List.map_toArray, List.map_cons, List.map_nil, Act.eval, Array.getD_eq_getD_getElem?, Option.getD_some, e36]; rfl)) ?_
     with_reducible refine (laws_toIntS.calls k _ _ l3 t207 _ ?side1 ?side2 Yd.out).mono ?_
     (case side1 => exact Kd.C_below HR3.out (un HB.out))
     (case side2 => exact HC3.out)
     rintro e Yk ⟨l5, rfl, ho0, hb⟩
     refine ⟨_, rfl, ?_⟩
     have n0_ := a_ (Kd.R_elder' (rk f0.out) (Kd.R_base ho0) hb)
     have n1_ := a_ (Kd.R_lower (nw ho0 f0.out) (bs HB.out))
     have n2_ := a_ (blk_below (pk b0.out) hb)
     have n3_ := a_ (blk_below (pk b1.out) hb)
     have n4_ := a_ (below_step (by repeat (with_reducible first | exact HB.out | refine bz ?_ (by assumption) | apply bA | apply bN | apply bD)) hb)
     have z_BK218 := fun (h0_ : b 13 = true) (h1_ : b 15 = false) => (show Yk.heap[f5]? = some (.cells #[.bool false, .int .i64 0, .int .i64 0, .int .i64 0] 27 (0, 0)) from by first | exact (blk_below (g := f5) (o := .cells #[.bool false, .int .i64 0, .int .i64 0, .int .i64 0] 27 (0, 0)) (by refine pk ?_; exact (d1 h0_ h1_)) hb))
     clear f0
     clear b0
     clear b1
     clear HB
     have f0 := n0_
     have f2 := n1_
     have b0 := n2_
     have b1 := n3_
     have HB := n4_
     clear n0_ n1_ n2_ n3_ n4_
     (try clear hb)
     (try clear hb2)
     (try clear hk)
     (try clear hi)
     (try clear ho0)
     refine hK.out _ _ ⟨l4, l5, h8, f5, m8_, m9_, m10_, m13_, m14_, (by rw [ha.out]; exact putSel_upk 5 hb_ rfl rfl rfl), (pk b0.out), (pk b1.out), (by repeat (with_reducible first | exact HB.out | refine bz ?_ (by assumption) | apply bA | apply bN | apply bD)), fun _ => (rk (Kd.R_mono f0.out (fun _ _ => trivial))), fun _ => (rk (Kd.R_mono f2.out (fun _ _ => trivial))), ab (hoff 8 (by kernel_rfl)) (by decide), z_BK218, h3, h4, d4, d5, d6, d7, ab (hoff 15 (by kernel_rfl)) (by decide), fun _ _ => (fun k_ hk_ => (by have h_ := f2.out.1 k_ hk_; first | exact h_.2 | exact h_.1.2 | exact h_.1.1.2 | exact h_.1.1.1.2 | exact h_.1.1.1.1.2 | exact h_.1.1.1.1.1.2 | exact h_)), fun _ h1_ => absurd ((hoff 8 (by kernel_rfl)).symm.trans h1_) (by decide), fun _ h1_ => absurd ((hoff 8 (by kernel_rfl)).symm.trans h1_) (by decide), ab (hoff 8 (by kernel_rfl)) (by decide), ab (hoff 9 (by kernel_rfl)) (by decide), ab (hoff 10 (by kernel_rfl)) (by decide), e8, ab (hoff 14 (by kernel_rfl)) (by decide)⟩
    refine steps_cons ?_ ?_
    ·rintro b a w' ⟨l4, l5, h8, f5, m8_, m9_, m10_, m13_, m14_, ha, c0, c4, i3, g9, h2, i1, d1, h3, h4, d4, d5, d6, d7, g4, b4, b6, b7, i8, i6, g3, e8, h9⟩ hb_ hon hoff
     refine ⟨_, rfl, fun K hK => ?_⟩
     have e31 : a.tmps[31]? = some (.agg #[.int .i64 r7, .int .i64 r8, .int .i64 r9, .int .i64 t0, .int .i64 t1, .int .i64 t2, .int .i64 t3]) := by rw [ha]; exact putSel_on (e := (1, 31, .agg #[.int .i64 r7, .int .i64 r8, .int .i64 r9, .int .i64 t0, .int .i64 t1, .int .i64 t2, .int .i64 t3])) 1 rfl rfl (hon 1 (by kernel_rfl)) rfl
     have e33 : a.tmps[33]? = some (.agg #[.bool u1, .int .i64 u2, .int .i64 u3, .int .i64 u4]) := by rw [ha]; exact putSel_on (e := (3, 33, .agg #[.bool u1, .int .i64 u2, .int .i64 u3, .int .i64 u4])) 3 rfl rfl (hon 3 (by kernel_rfl)) rfl
     have e35 : a.tmps[35]? = some (l4) := by rw [ha]; exact putSel_on (e := (5, 35, l4)) 4 rfl rfl (hon 5 (by kernel_rfl)) rfl
     have e37 : a.tmps[37]? = some (l5) := by rw [ha]; exact putSel_on (e := (7, 37, l5)) 5 rfl rfl (hon 7 (by kernel_rfl)) rfl
     replace ha := Aside0.mk ha
     have b0 := Aside0.mk c0
     have b1 := Aside0.mk c4
     have HB := Aside0.mk i3
     have f0 := a_ (g9 (hon 5 (by kernel_rfl)))
     have f2 := a_ (h2 (hon 7 (by kernel_rfl)))
     have PA_HO206_HO209 := a_ (b4 (hon 5 (by kernel_rfl)) (hon 7 (by kernel_rfl)))
     obtain ⟨K7, K8, K9⟩ := Kd.R_slice f0.out
     (first | subst K9 | (injection K9 with f1_ f2_ f3_; obtain rfl := f1_.symm; obtain rfl := f3_.symm))
     obtain ⟨L0, L1, L2⟩ := Kd.R_slice f2.out
     (first | subst L2 | (injection L2 with f1_ f2_ f3_; obtain rfl := f1_.symm; obtain rfl := f3_.symm))
     refine goes_ Try.func6 (by kernel_rfl) rfl #[.agg #[.int .i64 r7, .int .i64 r8, .int .i64 r9, .int .i64 t0, .int .i64 t1, .int .i64 t2, .int .i64 t3], .agg #[.bool u1, .int .i64 u2, .int .i64 u3, .int .i64 u4], .slice K7 t204.length K8, .slice L0 t207.length L1] (by rfl) rfl rfl (by first | (simp only [List.map_toArray, List.map_cons, List.map_nil, Act.eval, Array.getD_eq_getD_getElem?, Option.getD_some, e31, e33, e35, e37]; done) | (simp only [List.map_toArray, List.map_cons, List.map_nil, Act.eval, Array.getD_eq_getD_getElem?, Option.getD_some, e31, e33, e35, e37]; rfl)) ?_
     with_reducible refine (spec_RunHold.calls k r7 r8 r9 t0 t1 t2 t3 u1 u2 u3 u4 _ _ t204 _ _ t207 g8 f8 f9 g0 g1 i7 _ ?side1 ?side2 ?side3 ?side4 Ye.out).mono ?_
     (case side1 => exact cu (Kd.R_reads' f0.out).2.2)
     (case side2 => exact (Kd.R_reads' f0.out).2.1)
     (case side3 => exact cu (Kd.R_reads' f2.out).2.2)
     (case side4 => exact (Kd.R_reads' f2.out).2.1)
     rintro e Yl ⟨h8, rfl, ho0, hb⟩
     refine ⟨_, rfl, ?_⟩
     have n0_ := a_ (Kd.R_elder' (rk f0.out) (Kd.R_base ho0) hb)
     have n1_ := a_ (Kd.R_elder' (rk f2.out) (Kd.R_base ho0) hb)
     have n2_ := a_ (Kd.R_lower (nw (nw ho0 f0.out) f2.out) (bs HB.out))
     have n3_ := a_ (blk_below (pk b0.out) hb)
     have n4_ := a_ (blk_below (pk b1.out) hb)
     have n5_ := a_ (below_step (by repeat (with_reducible first | exact HB.out | refine bz ?_ (by assumption) | apply bA | apply bN | apply bD)) hb)
     have z_BK218 := fun (h0_ : b 13 = true) (h1_ : b 15 = false) => (show Yl.heap[f5]? = some (.cells #[.bool false, .int .i64 0, .int .i64 0, .int .i64 0] 27 (0, 0)) from by first | exact (blk_below (g := f5) (o := .cells #[.bool false, .int .i64 0, .int .i64 0, .int .i64 0] 27 (0, 0)) (by refine pk ?_; exact (d1 h0_ h1_)) hb))
     clear f0
     clear f2
     clear b0
     clear b1
     clear HB
     have f0 := n0_
     have f2 := n1_
     have e9 := n2_
     have b0 := n3_
     have b1 := n4_
     have HB := n5_
     clear n0_ n1_ n2_ n3_ n4_ n5_
     (try clear hb)
     (try clear hb2)
     (try clear hk)
     (try clear hi)
     (try clear ho0)
     refine hK.out _ _ ⟨.slice K7 t204.length K8, .slice L0 t207.length L1, h8, f5, (.tuple #[h8, .agg #[.bool f8, .int .i64 f9, .int .i64 g0, .int .i64 g1], .bool i7]), m9_, m10_, m13_, m14_, (by rw [ha.out]; exact putSel_upk 6 hb_ rfl rfl rfl), (pk b0.out), (pk b1.out), (by repeat (with_reducible first | exact HB.out | refine bz ?_ (by assumption) | apply bA | apply bN | apply bD)), fun _ => (rk (Kd.R_mono f0.out (fun _ _ => trivial))), fun _ => (rk (Kd.R_mono f2.out (fun _ _ => trivial))), fun _ => (rk (Kd.R_mono e9.out (fun _ _ => trivial))), z_BK218, h3, h4, d4, d5, d6, d7, ab (hoff 15 (by kernel_rfl)) (by decide), b4, fun _ _ => (fun k_ hk_ => (by have h_ := e9.out.1 k_ hk_; first | exact h_.2 | exact h_.1.2 | exact h_.1.1.2 | exact h_.1.1.1.2 | exact h_.1.1.1.1.2 | exact h_.1.1.1.1.1.2 | exact h_)), fun _ _ => (fun k_ hk_ => (by have h_ := e9.out.1 k_ hk_; first | exact h_.2 | exact h_.1.2 | exact h_.1.1.2 | exact h_.1.1.1.2 | exact h_.1.1.1.1.2 | exact h_.1.1.1.1.1.2 | exact h_)), fun _ => rfl, ab (hoff 9 (by kernel_rfl)) (by decide), ab (hoff 10 (by kernel_rfl)) (by decide), e8, ab (hoff 14 (by kernel_rfl)) (by decide)⟩
    refine steps_cons ?_ ?_
    ·rintro b a w' ⟨l4, l5, h8, f5, m8_, m9_, m10_, m13_, m14_, ha, c0, c4, i3, g9, h2, i1, d1, h3, h4, d4, d5, d6, d7, g4, b4, b6, b7, i8, i6, g3, e8, h9⟩ hb_ hon hoff
     refine ⟨_, rfl, fun K hK => ?_⟩
     have e38 : a.tmps[38]? = some (m8_) := by rw [ha]; exact putSel_on (e := (8, 38, m8_)) 6 rfl rfl (hon 8 (by kernel_rfl)) rfl
     rw [i8 (hon 8 (by kernel_rfl))] at e38
     replace ha := Aside0.mk ha
     have b0 := Aside0.mk c0
     have b1 := Aside0.mk c4
     have HB := Aside0.mk i3
     have f0 := a_ (g9 (hon 5 (by kernel_rfl)))
     have f2 := a_ (h2 (hon 7 (by kernel_rfl)))
     have e9 := a_ (i1 (hon 8 (by kernel_rfl)))
     have PA_HO206_HO209 := a_ (b4 (hon 5 (by kernel_rfl)) (hon 7 (by kernel_rfl)))
     have PA_HO206_HO212 := a_ (b6 (hon 5 (by kernel_rfl)) (hon 8 (by kernel_rfl)))
     have PA_HO209_HO212 := a_ (b7 (hon 7 (by kernel_rfl)) (hon 8 (by kernel_rfl)))
     refine value_ (w1 := w') (v := .tuple #[h8, .agg #[.bool f8, .int .i64 f9, .int .i64 g0, .int .i64 g1], .bool i7]) (by rfl) rfl ?_ ?_
     ·go_simp
      (try simp only [i64_w])
      try rfl
     refine hK.out _ _ ⟨l4, l5, h8, f5, m8_, (.tuple #[h8, .agg #[.bool f8, .int .i64 f9, .int .i64 g0, .int .i64 g1], .bool i7]), m10_, m13_, m14_, (by rw [ha.out]; exact putSel_upk 7 hb_ rfl rfl rfl), c0, c4, i3, g9, h2, i1, d1, h3, h4, d4, d5, d6, d7, ab (hoff 15 (by kernel_rfl)) (by decide), b4, b6, b7, i8, fun _ => rfl, ab (hoff 10 (by kernel_rfl)) (by decide), e8, ab (hoff 14 (by kernel_rfl)) (by decide)⟩
    refine steps_cons ?_ ?_
    ·rintro b a w' ⟨l4, l5, h8, f5, m8_, m9_, m10_, m13_, m14_, ha, c0, c4, i3, g9, h2, i1, d1, h3, h4, d4, d5, d6, d7, g4, b4, b6, b7, i8, i6, g3, e8, h9⟩ hb_ hon hoff
     refine ⟨_, rfl, fun K hK => ?_⟩
     have e29 : a.tmps[29]? = some (m9_) := by rw [ha]; exact putSel_on (e := (9, 29, m9_)) 7 rfl rfl (hon 9 (by kernel_rfl)) rfl
     rw [i6 (hon 9 (by kernel_rfl))] at e29
     replace ha := Aside0.mk ha
     have b0 := Aside0.mk c0
     have b1 := Aside0.mk c4
     have HB := Aside0.mk i3
     have f0 := a_ (g9 (hon 5 (by kernel_rfl)))
     have f2 := a_ (h2 (hon 7 (by kernel_rfl)))
     have e9 := a_ (i1 (hon 8 (by kernel_rfl)))
     have PA_HO206_HO209 := a_ (b4 (hon 5 (by kernel_rfl)) (hon 7 (by kernel_rfl)))
     have PA_HO206_HO212 := a_ (b6 (hon 5 (by kernel_rfl)) (hon 8 (by kernel_rfl)))
     have PA_HO209_HO212 := a_ (b7 (hon 7 (by kernel_rfl)) (hon 8 (by kernel_rfl)))
     obtain ⟨o8, co10_0, eo_⟩ := Kd.R_slice e9.out
     subst eo_
     refine value_ (w1 := w') (v := .slice o8 g8.length co10_0) (by rfl) rfl ?_ ?_
     ·go_simp
      (try simp only [i64_w])
      try rfl
     refine hK.out _ _ ⟨l4, l5, .slice o8 g8.length co10_0, f5, m8_, m9_, (.slice o8 g8.length co10_0), m13_, m14_, (by rw [ha.out]; exact putSel_upk 8 hb_ rfl rfl rfl), c0, c4, i3, g9, h2, i1, d1, h3, h4, d4, d5, d6, d7, ab (hoff 15 (by kernel_rfl)) (by decide), b4, b6, b7, i8, i6, fun _ => rfl, e8, ab (hoff 14 (by kernel_rfl)) (by decide)⟩
    refine steps_cons ?_ ?_
    ·rintro b a w' ⟨l4, l5, h8, f5, m8_, m9_, m10_, m13_, m14_, ha, c0, c4, i3, g9, h2, i1, d1, h3, h4, d4, d5, d6, d7, g4, b4, b6, b7, i8, i6, g3, e8, h9⟩ hb_ hon hoff
     refine ⟨_, rfl, fun K hK => ?_⟩
     have e29 : a.tmps[29]? = some (m9_) := by rw [ha]; exact putSel_on (e := (9, 29, m9_)) 7 rfl rfl (hon 9 (by kernel_rfl)) rfl
     rw [i6 (hon 9 (by kernel_rfl))] at e29
     replace ha := Aside0.mk ha
     have b0 := Aside0.mk c0
     have b1 := Aside0.mk c4
     have HB := Aside0.mk i3
     have f0 := a_ (g9 (hon 5 (by kernel_rfl)))
     have f2 := a_ (h2 (hon 7 (by kernel_rfl)))
     have e9 := a_ (i1 (hon 8 (by kernel_rfl)))
     have PA_HO206_HO209 := a_ (b4 (hon 5 (by kernel_rfl)) (hon 7 (by kernel_rfl)))
     have PA_HO206_HO212 := a_ (b6 (hon 5 (by kernel_rfl)) (hon 8 (by kernel_rfl)))
     have PA_HO209_HO212 := a_ (b7 (hon 7 (by kernel_rfl)) (hon 8 (by kernel_rfl)))
     obtain ⟨u5, co11_0, eo_⟩ := Kd.R_slice e9.out
     subst eo_
     refine value_ (w1 := w') (v := .agg #[.bool f8, .int .i64 f9, .int .i64 g0, .int .i64 g1]) (by rfl) rfl ?_ ?_
     ·go_simp
      (try simp only [i64_w])
      try rfl
     refine hK.out _ _ ⟨l4, l5, .slice u5 g8.length co11_0, f5, m8_, m9_, m10_, m13_, m14_, (by rw [ha.out]; exact putSel_upk 9 hb_ rfl rfl rfl), c0, c4, i3, g9, h2, i1, d1, h3, h4, d4, d5, d6, d7, ab (hoff 15 (by kernel_rfl)) (by decide), b4, b6, b7, i8, i6, g3, e8, h9⟩
    refine steps_cons ?_ ?_
    ·rintro b a w' ⟨l4, l5, h8, f5, m8_, m9_, m10_, m13_, m14_, ha, c0, c4, i3, g9, h2, i1, d1, h3, h4, d4, d5, d6, d7, g4, b4, b6, b7, i8, i6, g3, e8, h9⟩ hb_ hon hoff
     refine ⟨_, rfl, fun K hK => ?_⟩
     have e29 : a.tmps[29]? = some (m9_) := by rw [ha]; exact putSel_on (e := (9, 29, m9_)) 7 rfl rfl (hon 9 (by kernel_rfl)) rfl
     rw [i6 (hon 9 (by kernel_rfl))] at e29
     replace ha := Aside0.mk ha
     have b0 := Aside0.mk c0
     have b1 := Aside0.mk c4
     have HB := Aside0.mk i3
     have f0 := a_ (g9 (hon 5 (by kernel_rfl)))
     have f2 := a_ (h2 (hon 7 (by kernel_rfl)))
     have e9 := a_ (i1 (hon 8 (by kernel_rfl)))
     have PA_HO206_HO209 := a_ (b4 (hon 5 (by kernel_rfl)) (hon 7 (by kernel_rfl)))
     have PA_HO206_HO212 := a_ (b6 (hon 5 (by kernel_rfl)) (hon 8 (by kernel_rfl)))
     have PA_HO209_HO212 := a_ (b7 (hon 7 (by kernel_rfl)) (hon 8 (by kernel_rfl)))
     obtain ⟨u6, co12_0, eo_⟩ := Kd.R_slice e9.out
     subst eo_
     refine value_ (w1 := w') (v := .bool i7) (by rfl) rfl ?_ ?_
     ·go_simp
      (try simp only [i64_w])
      try rfl
     refine hK.out _ _ ⟨l4, l5, .slice u6 g8.length co12_0, f5, m8_, m9_, m10_, m13_, m14_, (by rw [ha.out]; exact putSel_upk 10 hb_ rfl rfl rfl), c0, c4, i3, g9, h2, i1, d1, h3, h4, d4, d5, d6, d7, g4, b4, b6, b7, i8, i6, g3, e8, h9⟩
    refine steps_cons ?_ ?_
    ·rintro b a w' ⟨l4, l5, h8, f5, m8_, m9_, m10_, m13_, m14_, ha, c0, c4, i3, g9, h2, i1, d1, h3, h4, d4, d5, d6, d7, g4, b4, b6, b7, i8, i6, g3, e8, h9⟩ hb_ hon hoff
     refine ⟨_, rfl, fun K hK => ?_⟩
     replace ha := Aside0.mk ha
     have b0 := Aside0.mk c0
     have b1 := Aside0.mk c4
     have HB := Aside0.mk i3
     refine box_step ?hg (N := 10) ?hd (cs := #[.bool false, .int .i64 0, .int .i64 0, .int .i64 0]) (t := 27) ?hr ?_; (case hd => rfl); (case hg => rfl); (case hr => first | (go_simp; done) | (go_simp; rfl))
     intro f5 hg K6 hbox hb
     have n0_ := a_ (blk_below (pk b0.out) hb)
     have n1_ := a_ (blk_below (pk b1.out) hb)
     have n2_ := a_ (below_step (by repeat (with_reducible first | exact HB.out | refine bz ?_ (by assumption) | apply bA | apply bN | apply bD)) hb)
     have n3_ := a_ (hbox)
     have n4_ := a_ (bsg hg HB.out)
     have n5_ := a_ (bsg hg HB.out)
     have n6_ := a_ (nel hg b0.out)
     have n7_ := a_ (nle hg b0.out)
     have n8_ := a_ (nel hg b1.out)
     have n9_ := a_ (nle hg b1.out)
     have z_HO206 := fun (h0_ : b 5 = true) => (show Kd.R (Kd.int .i64) 3 K6 w.heap.size (fun _ => True) l4 t204 from by first | exact (Kd.R_below (rk (g9 h0_)) hb) | exact Kd.R_mono (Kd.R_below (rk (g9 h0_)) hb) (fun _ h_ => by first | trivial | exact h_ | exact h_.1))
     have z_HO209 := fun (h0_ : b 7 = true) => (show Kd.R (Kd.int .i64) 3 K6 w.heap.size (fun _ => True) l5 t207 from by first | exact (Kd.R_below (rk (h2 h0_)) hb) | exact Kd.R_mono (Kd.R_below (rk (h2 h0_)) hb) (fun _ h_ => by first | trivial | exact h_ | exact h_.1))
     have z_HO212 := fun (h0_ : b 8 = true) => (show Kd.R (Kd.int .i64) 3 K6 w.heap.size (fun _ => True) h8 g8 from by first | exact (Kd.R_below (rk (i1 h0_)) hb) | exact Kd.R_mono (Kd.R_below (rk (i1 h0_)) hb) (fun _ h_ => by first | trivial | exact h_ | exact h_.1))
     clear b0
     clear b1
     clear HB
     have b0 := n0_
     have b1 := n1_
     have HB := n2_
     have b2 := n3_
     have q8 := n4_
     have q9 := n5_
     have j3 := n6_
     have k2 := n7_
     have j4 := n8_
     have k3 := n9_
     clear n0_ n1_ n2_ n3_ n4_ n5_ n6_ n7_ n8_ n9_
     clear hb hbox hg
     refine hK.out _ _ ⟨l4, l5, h8, f5, m8_, m9_, m10_, (.pointer (some ⟨f5, 0, none⟩)), m14_, (by rw [ha.out]; exact putSel_upk 11 hb_ rfl rfl rfl), (pk b0.out), (pk b1.out), (by repeat (with_reducible first | exact HB.out | refine bz ?_ (by assumption) | apply bA | apply bN | apply bD)), z_HO206, z_HO209, z_HO212, fun _ _ => (pk b2.out), fun _ => q8.out, fun _ => q9.out, fun _ => j3.out, fun _ => k2.out, fun _ => j4.out, fun _ => k3.out, ab (hoff 15 (by kernel_rfl)) (by decide), b4, b6, b7, i8, i6, g3, fun _ => rfl, ab (hoff 14 (by kernel_rfl)) (by decide)⟩
    refine steps_cons ?_ ?_
    ·rintro b a w' ⟨l4, l5, h8, f5, m8_, m9_, m10_, m13_, m14_, ha, c0, c4, i3, g9, h2, i1, d1, h3, h4, d4, d5, d6, d7, g4, b4, b6, b7, i8, i6, g3, e8, h9⟩ hb_ hon hoff
     refine ⟨_, rfl, fun K hK => ?_⟩
     have e39 : a.tmps[39]? = some (m10_) := by rw [ha]; exact putSel_on (e := (10, 39, m10_)) 8 rfl rfl (hon 10 (by kernel_rfl)) rfl
     rw [g3 (hon 10 (by kernel_rfl))] at e39
     replace ha := Aside0.mk ha
     have b0 := Aside0.mk c0
     have b1 := Aside0.mk c4
     have HB := Aside0.mk i3
     have f0 := a_ (g9 (hon 5 (by kernel_rfl)))
     have f2 := a_ (h2 (hon 7 (by kernel_rfl)))
     have e9 := a_ (i1 (hon 8 (by kernel_rfl)))
     have b2 := a_ (d1 (hon 13 (by kernel_rfl)) (hoff 15 (by kernel_rfl)))
     have q8 := a_ (h3 (hon 13 (by kernel_rfl)))
     have q9 := a_ (h4 (hon 13 (by kernel_rfl)))
     have j3 := a_ (d4 (hon 13 (by kernel_rfl)))
     have k2 := a_ (d5 (hon 13 (by kernel_rfl)))
     have j4 := a_ (d6 (hon 13 (by kernel_rfl)))
     have k3 := a_ (d7 (hon 13 (by kernel_rfl)))
     have PA_HO206_HO209 := a_ (b4 (hon 5 (by kernel_rfl)) (hon 7 (by kernel_rfl)))
     have PA_HO206_HO212 := a_ (b6 (hon 5 (by kernel_rfl)) (hon 8 (by kernel_rfl)))
     have PA_HO209_HO212 := a_ (b7 (hon 7 (by kernel_rfl)) (hon 8 (by kernel_rfl)))
     refine value_ (w1 := w') (v := h8) (by rfl) rfl ?_ ?_
     ·go_simp
      (try simp only [i64_w])
      try rfl
     refine hK.out _ _ ⟨l4, l5, h8, f5, m8_, m9_, m10_, m13_, (h8), (by rw [ha.out]; exact putSel_upk 12 hb_ rfl rfl rfl), c0, c4, i3, g9, h2, i1, d1, h3, h4, d4, d5, d6, d7, ab (hoff 15 (by kernel_rfl)) (by decide), b4, b6, b7, i8, i6, g3, e8, fun _ => rfl⟩
    refine steps_cons ?_ ?_
    ·rintro b a w' ⟨l4, l5, h8, f5, m8_, m9_, m10_, m13_, m14_, ha, c0, c4, i3, g9, h2, i1, d1, h3, h4, d4, d5, d6, d7, g4, b4, b6, b7, i8, i6, g3, e8, h9⟩ hb_ hon hoff
     refine ⟨_, rfl, fun K hK => ?_⟩
     have e10 : a.tmps[10]? = some (m13_) := by rw [ha]; exact putSel_on (e := (13, 10, m13_)) 11 rfl rfl (hon 13 (by kernel_rfl)) rfl
     rw [e8 (hon 13 (by kernel_rfl))] at e10
     have e40 : a.tmps[40]? = some (.agg #[.bool f8, .int .i64 f9, .int .i64 g0, .int .i64 g1]) := by rw [ha]; exact putSel_on (e := (11, 40, .agg #[.bool f8, .int .i64 f9, .int .i64 g0, .int .i64 g1])) 9 rfl rfl (hon 11 (by kernel_rfl)) rfl
     replace ha := Aside0.mk ha
     have b0 := Aside0.mk c0
     have b1 := Aside0.mk c4
     have HB := Aside0.mk i3
     have f0 := a_ (g9 (hon 5 (by kernel_rfl)))
     have f2 := a_ (h2 (hon 7 (by kernel_rfl)))
     have e9 := a_ (i1 (hon 8 (by kernel_rfl)))
     have b2 := a_ (d1 (hon 13 (by kernel_rfl)) hb_)
     have q8 := a_ (h3 (hon 13 (by kernel_rfl)))
     have q9 := a_ (h4 (hon 13 (by kernel_rfl)))
     have j3 := a_ (d4 (hon 13 (by kernel_rfl)))
     have k2 := a_ (d5 (hon 13 (by kernel_rfl)))
     have j4 := a_ (d6 (hon 13 (by kernel_rfl)))
     have k3 := a_ (d7 (hon 13 (by kernel_rfl)))
     have PA_HO206_HO209 := a_ (b4 (hon 5 (by kernel_rfl)) (hon 7 (by kernel_rfl)))
     have PA_HO206_HO212 := a_ (b6 (hon 5 (by kernel_rfl)) (hon 8 (by kernel_rfl)))
     have PA_HO209_HO212 := a_ (b7 (hon 7 (by kernel_rfl)) (hon 8 (by kernel_rfl)))
     have hs34 : w'.cell? ⟨f5, 0, none⟩ = some (.bool false) := (blk_cell b2.out 0).trans rfl
     have hfs34 := blk_frozen b2.out 0
     have hns34_0 := j3.out
     have hns34_1 := j4.out
     have hms34_0 := k2.out
     have hms34_1 := k3.out
     have hs35 : w'.cell? ⟨f5, 1, none⟩ = some (.int .i64 0) := (blk_cell b2.out 1).trans rfl
     have hfs35 := blk_frozen b2.out 1
     have hns35_0 := j3.out
     have hns35_1 := j4.out
     have hms35_0 := k2.out
     have hms35_1 := k3.out
     have hs36 : w'.cell? ⟨f5, 2, none⟩ = some (.int .i64 0) := (blk_cell b2.out 2).trans rfl
     have hfs36 := blk_frozen b2.out 2
     have hns36_0 := j3.out
     have hns36_1 := j4.out
     have hms36_0 := k2.out
     have hms36_1 := k3.out
     have hs37 : w'.cell? ⟨f5, 3, none⟩ = some (.int .i64 0) := (blk_cell b2.out 3).trans rfl
     have hfs37 := blk_frozen b2.out 3
     have hns37_0 := j3.out
     have hns37_1 := j4.out
     have hms37_0 := k2.out
     have hms37_1 := k3.out
     refine skip_ (w1 := ?_) ?_ ?_ ?_ ?_
     rotate_left
     ·rfl
     ·rfl
     ·go_simp
      rfl
     refine hK.out _ _ ⟨l4, l5, h8, f5, m8_, m9_, m10_, m13_, m14_, (by rw [ha.out]; exact putSel_none (v := undef) rfl), (by refine pk ?_; refine blk_far ?_ j3.out _; refine pk ?_; refine blk_far ?_ j3.out _; refine pk ?_; refine blk_far ?_ j3.out _; refine pk ?_; refine blk_far ?_ j3.out _; refine pk ?_; exact b0.out), (by refine pk ?_; refine blk_far ?_ j4.out _; refine pk ?_; refine blk_far ?_ j4.out _; refine pk ?_; refine blk_far ?_ j4.out _; refine pk ?_; refine blk_far ?_ j4.out _; refine pk ?_; exact b1.out), (by repeat (with_reducible first | exact HB.out | refine bz ?_ (by assumption) | apply bA | apply bN | apply bD)), fun _ => (rk (Kd.R_mono (fr4 f0.out b2.out (by decide) 0 (.bool f8) 1 (.int .i64 f9) 2 (.int .i64 g0) 3 (.int .i64 g1)) (fun _ hk => hk.1))), fun _ => (rk (Kd.R_mono (fr4 f2.out b2.out (by decide) 0 (.bool f8) 1 (.int .i64 f9) 2 (.int .i64 g0) 3 (.int .i64 g1)) (fun _ hk => hk.1))), fun _ => (rk (Kd.R_mono (fr4 e9.out b2.out (by decide) 0 (.bool f8) 1 (.int .i64 f9) 2 (.int .i64 g0) 3 (.int .i64 g1)) (fun _ hk => hk.1))), fun _ h1_ => absurd ((up_self b 15).symm.trans h1_) (by decide), fun _ => q8.out, fun _ => q9.out, fun _ => j3.out, fun _ => k2.out, fun _ => j4.out, fun _ => k3.out, fun _ => (by refine pk ?_; refine blk_put (cs := #[.bool f8, .int .i64 f9, .int .i64 g0, .int .i64 0]) ?_ 3 _ rfl; refine pk ?_; refine blk_put (cs := #[.bool f8, .int .i64 f9, .int .i64 0, .int .i64 0]) ?_ 2 _ rfl; refine pk ?_; refine blk_put (cs := #[.bool f8, .int .i64 0, .int .i64 0, .int .i64 0]) ?_ 1 _ rfl; refine pk ?_; refine blk_put (cs := #[.bool false, .int .i64 0, .int .i64 0, .int .i64 0]) ?_ 0 _ rfl; refine pk ?_; exact b2.out), b4, b6, b7, i8, i6, g3, e8, h9⟩
    refine steps_cons ?_ ?_
    ·rintro b a w' ⟨l4, l5, h8, f5, m8_, m9_, m10_, m13_, m14_, ha, c0, c4, i3, g9, h2, i1, d1, h3, h4, d4, d5, d6, d7, g4, b4, b6, b7, i8, i6, g3, e8, h9⟩ hb_ hon hoff
     refine ⟨_, rfl, fun K hK => ?_⟩
     have e41 : a.tmps[41]? = some (.bool i7) := by rw [ha]; exact putSel_on (e := (12, 41, .bool i7)) 10 rfl rfl (hon 12 (by kernel_rfl)) rfl
     replace ha := Aside0.mk ha
     have b0 := Aside0.mk c0
     have b1 := Aside0.mk c4
     have HB := Aside0.mk i3
     have f0 := a_ (g9 (hon 5 (by kernel_rfl)))
     have f2 := a_ (h2 (hon 7 (by kernel_rfl)))
     have e9 := a_ (i1 (hon 8 (by kernel_rfl)))
     have q8 := a_ (h3 (hon 13 (by kernel_rfl)))
     have q9 := a_ (h4 (hon 13 (by kernel_rfl)))
     have j3 := a_ (d4 (hon 13 (by kernel_rfl)))
     have k2 := a_ (d5 (hon 13 (by kernel_rfl)))
     have j4 := a_ (d6 (hon 13 (by kernel_rfl)))
     have k3 := a_ (d7 (hon 13 (by kernel_rfl)))
     have b2 := a_ (g4 (hon 15 (by kernel_rfl)))
     have PA_HO206_HO209 := a_ (b4 (hon 5 (by kernel_rfl)) (hon 7 (by kernel_rfl)))
     have PA_HO206_HO212 := a_ (b6 (hon 5 (by kernel_rfl)) (hon 8 (by kernel_rfl)))
     have PA_HO209_HO212 := a_ (b7 (hon 7 (by kernel_rfl)) (hon 8 (by kernel_rfl)))
     refine value_ (w1 := w') (v := .bool i7) (by rfl) rfl ?_ ?_
     ·go_simp
      (try simp only [i64_w])
      try rfl
     refine hK.out _ _ ⟨l4, l5, h8, f5, m8_, m9_, m10_, m13_, m14_, (by rw [ha.out]; exact putSel_upk 13 hb_ rfl rfl rfl), c0, c4, i3, g9, h2, i1, fun _ h1_ => absurd ((hon 15 (by kernel_rfl)).symm.trans h1_) (by decide), h3, h4, d4, d5, d6, d7, g4, b4, b6, b7, i8, i6, g3, e8, h9⟩
    exact steps_nil
   rintro b a Zj hall ⟨l4, l5, h8, f5, m8_, m9_, m10_, m13_, m14_, ha, c0, c4, i3, g9, h2, i1, d1, h3, h4, d4, d5, d6, d7, g4, b4, b6, b7, i8, i6, g3, e8, h9⟩
   clear b0 b1 HB
   have hb0_ := hall 0 (by kernel_rfl)
   have hb1_ := hall 1 (by kernel_rfl)
   have hb2_ := hall 2 (by kernel_rfl)
   have hb3_ := hall 3 (by kernel_rfl)
   have hb5_ := hall 5 (by kernel_rfl)
   have hb7_ := hall 7 (by kernel_rfl)
   have hb8_ := hall 8 (by kernel_rfl)
   have hb9_ := hall 9 (by kernel_rfl)
   have hb10_ := hall 10 (by kernel_rfl)
   have hb11_ := hall 11 (by kernel_rfl)
   have hb12_ := hall 12 (by kernel_rfl)
   have hb13_ := hall 13 (by kernel_rfl)
   have hb14_ := hall 14 (by kernel_rfl)
   have hb15_ := hall 15 (by kernel_rfl)
   have hb16_ := hall 16 (by kernel_rfl)
   subst ha
   obtain rfl := i8 hb8_
   obtain rfl := i6 hb9_
   obtain rfl := (g3 hb10_).symm
   obtain rfl := e8 hb13_
   obtain rfl := (h9 hb14_).symm
   simp only [putSel, hb0_, hb1_, hb2_, hb3_, hb5_, hb7_, hb8_, hb9_, hb10_, hb11_, hb12_, hb13_, hb14_, hb15_, hb16_, if_true, Act.put, sB, sC, sD]
   have b0 := Aside0.mk c0
   clear c0
   have b1 := Aside0.mk c4
   clear c4
   have HB := Aside0.mk i3
   clear i3
   have f0 := a_ (g9 hb5_)
   clear g9
   have f2 := a_ (h2 hb7_)
   clear h2
   have e9 := a_ (i1 hb8_)
   clear i1
   clear d1
   have q8 := a_ (h3 hb13_)
   clear h3
   have q9 := a_ (h4 hb13_)
   clear h4
   have j3 := a_ (d4 hb13_)
   clear d4
   have k2 := a_ (d5 hb13_)
   clear d5
   have j4 := a_ (d6 hb13_)
   clear d6
   have k3 := a_ (d7 hb13_)
   clear d7
   have b2 := a_ (g4 hb15_)
   clear g4
   have PA_HO206_HO209 := a_ (b4 hb5_ hb7_)
   clear b4
   have PA_HO206_HO212 := a_ (b6 hb5_ hb8_)
   clear b6
   have PA_HO209_HO212 := a_ (b7 hb7_ hb8_)
   clear b7
   clear hall hb0_ hb1_ hb2_ hb3_ hb5_ hb7_ hb8_ hb9_ hb10_ hb11_ hb12_ hb13_ hb14_ hb15_ hb16_
   have n_ := a_ (Kd.R_reok rfl (ok := fun k_ => (N_ l5 k_ ∧ N_ h8 k_)) f0.out (fun k_ hk_ => (by have hx_ := f0.out.1 k_ hk_; repeat' first | trivial | exact (fun e_ => PA_HO206_HO209.out _ e_.symm hk_.symm) | exact (fun e_ => PA_HO206_HO212.out _ e_.symm hk_.symm) | exact hx_ | exact hx_.1 | exact hx_.2 | exact hx_.2.1 | exact hx_.2.2 | exact hx_.2.2.1 | exact hx_.2.2.2 | refine And.intro ?_ ?_)))
   clear f0
   have f0 := n_
   clear n_
   have n_ := a_ (Kd.R_reok rfl (ok := fun k_ => (N_ l4 k_ ∧ N_ h8 k_)) f2.out (fun k_ hk_ => (by have hx_ := f2.out.1 k_ hk_; repeat' first | trivial | exact PA_HO206_HO209.out k_ hk_ | exact (fun e_ => PA_HO209_HO212.out _ e_.symm hk_.symm) | exact hx_ | exact hx_.1 | exact hx_.2 | exact hx_.2.1 | exact hx_.2.2 | exact hx_.2.2.1 | exact hx_.2.2.2 | refine And.intro ?_ ?_)))
   clear f2
   have f2 := n_
   clear n_
   have n_ := a_ (Kd.R_reok rfl (ok := fun k_ => (N_ l4 k_ ∧ N_ l5 k_)) e9.out (fun k_ hk_ => (by have hx_ := e9.out.1 k_ hk_; repeat' first | trivial | exact PA_HO206_HO212.out k_ hk_ | exact PA_HO209_HO212.out k_ hk_ | exact hx_ | exact hx_.1 | exact hx_.2 | exact hx_.2.1 | exact hx_.2.2 | exact hx_.2.2.1 | exact hx_.2.2.2 | refine And.intro ?_ ?_)))
   clear e9
   have e9 := n_
   clear n_
   try go_wp2_with (first | ((with_reducible refine gate_callee (f := 9) rfl ?_); refine goesL_ (some 43) rfl rfl Try.func9 (by kernel_rfl) rfl #[.slice A2 l2.length c2] rfl (by (try simp only [lA, lB, lC]); first | done | rfl | (simp only [lD, lE]; rfl)) ?_; (with_reducible refine (laws_toIntS.calls k _ _ l2 t219 _ ?side1 ?side2 Yf.out).mono ?_); (case side1 => exact Kd.C_below HR2.out (un HB.out)); (case side2 => exact HC2.out); rintro e Zk ⟨Ym, rfl, ho0, hb⟩; refine ⟨_, rfl, ?_⟩; have g7 := a_ (Kd.R_lower (nw (nw (nw ho0 f0.out) f2.out) e9.out) (bs HB.out)); replace f0 := a_ (Kd.R_elder' (rk f0.out) (Kd.R_base ho0) hb); replace f2 := a_ (Kd.R_elder' (rk f2.out) (Kd.R_base ho0) hb); replace e9 := a_ (Kd.R_elder' (rk e9.out) (Kd.R_base ho0) hb); replace b0 := a_ (blk_below (pk b0.out) hb); replace b1 := a_ (blk_below (pk b1.out) hb); replace b2 := a_ (blk_below (pk b2.out) hb); replace HB := a_ (below_step (by repeat (with_reducible first | exact HB.out | refine bz ?_ (by assumption) | apply bA | apply bN | apply bD)) hb); clear hb ho0) | ((with_reducible refine gate_callee (f := 9) rfl ?_); refine goesL_ (some 45) rfl rfl Try.func9 (by kernel_rfl) rfl #[.slice A3 l3.length c3] rfl (by (try simp only [lA, lB, lC]); first | done | rfl | (simp only [lD, lE]; rfl)) ?_; (with_reducible refine (laws_toIntS.calls k _ _ l3 t222 _ ?side1 ?side2 Yg.out).mono ?_); (case side1 => exact Kd.C_below HR3.out (un HB.out)); (case side2 => exact HC3.out); rintro e Yn ⟨Yo, rfl, ho0, hb⟩; refine ⟨_, rfl, ?_⟩; have i0 := a_ (Kd.R_lower (nw (nw (nw (nw ho0 f0.out) f2.out) e9.out) g7.out) (bs HB.out)); replace f0 := a_ (Kd.R_elder' (rk f0.out) (Kd.R_base ho0) hb); replace f2 := a_ (Kd.R_elder' (rk f2.out) (Kd.R_base ho0) hb); replace e9 := a_ (Kd.R_elder' (rk e9.out) (Kd.R_base ho0) hb); replace g7 := a_ (Kd.R_elder' (rk g7.out) (Kd.R_base ho0) hb); replace b0 := a_ (blk_below (pk b0.out) hb); replace b1 := a_ (blk_below (pk b1.out) hb); replace b2 := a_ (blk_below (pk b2.out) hb); replace HB := a_ (below_step (by repeat (with_reducible first | exact HB.out | refine bz ?_ (by assumption) | apply bA | apply bN | apply bD)) hb); clear hb ho0; obtain ⟨m8, m9, P3⟩ := Kd.R_slice g7.out; subst P3; obtain ⟨n0, n1, P4⟩ := Kd.R_slice i0.out; subst P4))
   replace f0 := a_ (Kd.R_drew f0.out)
   replace f2 := a_ (Kd.R_drew f2.out)
   replace e9 := a_ (Kd.R_drew e9.out)
   replace g7 := a_ (Kd.R_drew g7.out)
   replace i0 := a_ (Kd.R_drew i0.out)
   replace b0 := a_ (blk_drew b0.out)
   replace b1 := a_ (blk_drew b1.out)
   replace b2 := a_ (blk_drew b2.out)
   replace HB := a_ (below_drew1 HB.out)
   refine start_ (n := 15) (S := fun w' => w'.cell? ⟨h1, 0, none⟩ = some (.int .i64 a0_0) ∧ w'.cell? ⟨h1, 1, none⟩ = some (.int .i64 a0_1) ∧ w'.cell? ⟨h1, 2, none⟩ = some (.int .i64 a0_2) ∧ w'.cell? ⟨h1, 3, none⟩ = some (.int .i64 a0_3) ∧ w'.cell? ⟨h1, 4, none⟩ = some (.int .i64 a0_4) ∧ w'.cell? ⟨h1, 5, none⟩ = some (.int .i64 a0_5) ∧ w'.cell? ⟨h1, 6, none⟩ = some (.int .i64 a0_6) ∧ w'.cell? ⟨j9, 0, none⟩ = some (.bool a1_0) ∧ w'.cell? ⟨j9, 1, none⟩ = some (.int .i64 a1_1) ∧ w'.cell? ⟨j9, 2, none⟩ = some (.int .i64 a1_2) ∧ w'.cell? ⟨j9, 3, none⟩ = some (.int .i64 a1_3)) (ds := []) #[false, false, false, false, false, false, false, false, false, false, false, false, false, false, false] (by kernel_rfl) rfl rfl ⟨(blk_cell b0.out 0).trans rfl, (blk_cell b0.out 1).trans rfl, (blk_cell b0.out 2).trans rfl, (blk_cell b0.out 3).trans rfl, (blk_cell b0.out 4).trans rfl, (blk_cell b0.out 5).trans rfl, (blk_cell b0.out 6).trans rfl, (blk_cell b1.out 0).trans rfl, (blk_cell b1.out 1).trans rfl, (blk_cell b1.out 2).trans rfl, (blk_cell b1.out 3).trans rfl⟩ (fun l0 => ?_); refine with_tabW laws_FnExactRunHold.tab8 laws_FnExactRunHold.bits8 (fun HT_ HW_ => ?_)
   generalize Yn.drew = Zl at f0 f2 e9 g7 i0 b0 b1 b2 HB l0 ⊢
   refine pure_ (i := 4) (N := some 51) (v := ?_) (a' := ?_) #[false, false, false, false, true, false, false, false, false, false, false, false, false, false, false] rfl rfl (any_of HT_.out (by kernel_rfl)) (fun _ _ _ h => h) (Or.inl ⟨by rfl, ?_⟩) ?_ ?_
   rotate_left
   ·intro w'
    go_simp
    with_reducible rfl
   rotate_left
   ·simp only [Act.put, sB, sC, sD, i64_w, i32_w]
    rfl
   refine pure_ (i := 5) (N := some 52) (v := ?_) (a' := ?_) #[false, false, false, false, true, true, false, false, false, false, false, false, false, false, false] rfl rfl (any_of HT_.out (by kernel_rfl)) (fun _ _ _ h => h) (Or.inl ⟨by rfl, ?_⟩) ?_ ?_
   rotate_left
   ·intro w'
    go_simp
    with_reducible rfl
   rotate_left
   ·simp only [Act.put, sB, sC, sD, i64_w, i32_w]
    rfl
   refine take_ (i := 0) (N := some 47) (v := ?_) (a' := ?_) #[true, false, false, false, true, true, false, false, false, false, false, false, false, false, false] rfl rfl (take_ofW HT_.out HW_.out (by kernel_rfl)) (fun _ _ _ h => h) (Or.inl ⟨by rfl, ?_⟩) l0 ?_ ?_
   rotate_left
   ·rintro w' ⟨s0, s1, s2, s3, s4, s5, s6, s7, s8, s9, s10⟩
    go_simp
    with_reducible rfl
   rotate_left
   ·simp only [Act.put, sB, sC, sD, i64_w, i32_w]
    rfl
   refine take_ (i := 2) (N := some 49) (v := ?_) (a' := ?_) #[true, false, true, false, true, true, false, false, false, false, false, false, false, false, false] rfl rfl (take_ofW HT_.out HW_.out (by kernel_rfl)) (fun _ _ _ h => h) (Or.inl ⟨by rfl, ?_⟩) l0 ?_ ?_
   rotate_left
   ·rintro w' ⟨s0, s1, s2, s3, s4, s5, s6, s7, s8, s9, s10⟩
    go_simp
    with_reducible rfl
   rotate_left
   ·simp only [Act.put, sB, sC, sD, i64_w, i32_w]
    rfl
   refine join_ (σ := Value × Nat) 3 #[true, true, true, true, true, true, true, true, true, true, true, true, false, false, false] (fun s_ => [(48, .agg #[.int .i64 p0, .int .i64 p1, .int .i64 p3, .int .i64 p4, .int .i64 p5, .int .i64 p6, .int .i64 p7]), (50, .agg #[.bool p8, .int .i64 p9, .int .i64 q0, .int .i64 q1]), (53, .tuple #[s_.1, .agg #[.bool j5, .int .i64 j8, .int .i64 k0, .int .i64 k1], .bool n7]), (15, .pointer (some ⟨s_.2, 0, none⟩)), (46, .tuple #[s_.1, .agg #[.bool j5, .int .i64 j8, .int .i64 k0, .int .i64 k1], .bool n7]), (54, s_.1), (55, .agg #[.bool j5, .int .i64 j8, .int .i64 k0, .int .i64 k1]), (56, .bool n7)]) (fun s_ w' => (w'.cell? ⟨h1, 0, none⟩ = some (.int .i64 a0_0) ∧ w'.cell? ⟨h1, 1, none⟩ = some (.int .i64 a0_1) ∧ w'.cell? ⟨h1, 2, none⟩ = some (.int .i64 a0_2) ∧ w'.cell? ⟨h1, 3, none⟩ = some (.int .i64 a0_3) ∧ w'.cell? ⟨h1, 4, none⟩ = some (.int .i64 a0_4) ∧ w'.cell? ⟨h1, 5, none⟩ = some (.int .i64 a0_5) ∧ w'.cell? ⟨h1, 6, none⟩ = some (.int .i64 a0_6) ∧ w'.cell? ⟨j9, 0, none⟩ = some (.bool a1_0) ∧ w'.cell? ⟨j9, 1, none⟩ = some (.int .i64 a1_1) ∧ w'.cell? ⟨j9, 2, none⟩ = some (.int .i64 a1_2) ∧ w'.cell? ⟨j9, 3, none⟩ = some (.int .i64 a1_3)) ∧ (Kd.R (Kd.int .i64) 3 w' w.heap.size (fun k_ => N_ l5 k_ ∧ N_ h8 k_ ∧ N_ (.slice m8 t219.length m9) k_ ∧ N_ (.slice n0 t222.length n1) k_ ∧ some k_ ≠ (s_.1 : Value).ownBlock) l4 t204) ∧ (Kd.R (Kd.int .i64) 3 w' w.heap.size (fun k_ => N_ l4 k_ ∧ N_ h8 k_ ∧ N_ (.slice m8 t219.length m9) k_ ∧ N_ (.slice n0 t222.length n1) k_ ∧ some k_ ≠ (s_.1 : Value).ownBlock) l5 t207) ∧ (Kd.R (Kd.int .i64) 3 w' w.heap.size (fun k_ => N_ l4 k_ ∧ N_ l5 k_ ∧ N_ (.slice m8 t219.length m9) k_ ∧ N_ (.slice n0 t222.length n1) k_ ∧ some k_ ≠ (s_.1 : Value).ownBlock) h8 g8) ∧ (Kd.R (Kd.int .i64) 3 w' w.heap.size (fun k_ => N_ l4 k_ ∧ N_ l5 k_ ∧ N_ h8 k_ ∧ N_ (.slice n0 t222.length n1) k_ ∧ some k_ ≠ (s_.1 : Value).ownBlock) (.slice m8 t219.length m9) t219) ∧ (Kd.R (Kd.int .i64) 3 w' w.heap.size (fun k_ => N_ l4 k_ ∧ N_ l5 k_ ∧ N_ h8 k_ ∧ N_ (.slice m8 t219.length m9) k_ ∧ some k_ ≠ (s_.1 : Value).ownBlock) (.slice n0 t222.length n1) t222) ∧ (Kd.R (Kd.int .i64) 3 w' w.heap.size (fun k_ => N_ l4 k_ ∧ N_ l5 k_ ∧ N_ h8 k_ ∧ N_ (.slice m8 t219.length m9) k_ ∧ N_ (.slice n0 t222.length n1) k_) s_.1 i5) ∧ (w'.heap[h1]? = some (.cells #[.int .i64 a0_0, .int .i64 a0_1, .int .i64 a0_2, .int .i64 a0_3, .int .i64 a0_4, .int .i64 a0_5, .int .i64 a0_6] 23 (0, 0))) ∧ (w'.heap[j9]? = some (.cells #[.bool a1_0, .int .i64 a1_1, .int .i64 a1_2, .int .i64 a1_3] 25 (0, 0))) ∧ (w'.heap[f5]? = some (.cells #[.bool f8, .int .i64 f9, .int .i64 g0, .int .i64 g1] 27 (0, 0))) ∧ (w'.heap[s_.2]? = some (.cells #[.bool false, .int .i64 0, .int .i64 0, .int .i64 0] 27 (0, 0))) ∧ (w.heap.size ≤ s_.2) ∧ (w.heap.size ≤ s_.2) ∧ (h1 ≠ s_.2) ∧ (s_.2 ≠ h1) ∧ (j9 ≠ s_.2) ∧ (s_.2 ≠ j9) ∧ (f5 ≠ s_.2) ∧ (s_.2 ≠ f5) ∧ (Below w.heap.size w w')) ?_ ?_
   rotate_left
   ·intro hCont
    refine two_ (i := 1) (j := 11) (Ni := some 48) (Nj := some 15) #[true, true, true, false, true, true, false, false, false, false, false, false, false, false, false] #[true, false, true, false, true, true, false, false, false, false, false, true, false, false, false] rfl rfl rfl rfl (two_of HT_.out (by kernel_rfl)) (by decide) (by decide) (fun K hK => ?_) (fun K hK => ?_)
    ·skip
     refine goes_ Try.func7 (by kernel_rfl) rfl #[.agg #[.int .i64 a0_0, .int .i64 a0_1, .int .i64 a0_2, .int .i64 a0_3, .int .i64 a0_4, .int .i64 a0_5, .int .i64 a0_6]] (by rfl) rfl rfl (by (try simp only [lA, lB, lC]); first | done | rfl | (simp only [lD, lE]; rfl)) ?_
     with_reducible refine (laws_toLoop.calls a0_0 a0_1 a0_2 a0_3 a0_4 a0_5 a0_6 p0 p1 p3 p4 p5 p6 p7 _ Z1.out).mono ?_
     rintro e Yp ⟨rfl, hb⟩
     refine ⟨_, rfl, ?_⟩
     replace f0 := a_ (Kd.R_below (rk f0.out) hb)
     replace f2 := a_ (Kd.R_below (rk f2.out) hb)
     replace e9 := a_ (Kd.R_below (rk e9.out) hb)
     replace g7 := a_ (Kd.R_below (rk g7.out) hb)
     replace i0 := a_ (Kd.R_below (rk i0.out) hb)
     replace b0 := a_ (blk_below (pk b0.out) hb)
     replace b1 := a_ (blk_below (pk b1.out) hb)
     replace b2 := a_ (blk_below (pk b2.out) hb)
     replace HB := a_ (below_step (by repeat (with_reducible first | exact HB.out | refine bz ?_ (by assumption) | apply bA | apply bN | apply bD)) hb)
     (try clear hb)
     (try clear hb2)
     (try clear hk)
     (try clear hi)
     refine hK.out _ _ ⟨(blk_cell b0.out 0).trans rfl, (blk_cell b0.out 1).trans rfl, (blk_cell b0.out 2).trans rfl, (blk_cell b0.out 3).trans rfl, (blk_cell b0.out 4).trans rfl, (blk_cell b0.out 5).trans rfl, (blk_cell b0.out 6).trans rfl, (blk_cell b1.out 0).trans rfl, (blk_cell b1.out 1).trans rfl, (blk_cell b1.out 2).trans rfl, (blk_cell b1.out 3).trans rfl⟩ (fun l0 => ?_)
     clear hK K
     refine norm_ (a' := ?_) ?_ ?_
     rotate_left
     ·show Act.put _ (some 48) _ = _
      simp only [Act.put, sB, sC, sD, i64_w, i32_w]
      rfl
     refine two_ (i := 3) (j := 11) (Ni := some 50) (Nj := some 15) #[true, true, true, true, true, true, false, false, false, false, false, false, false, false, false] #[true, true, true, false, true, true, false, false, false, false, false, true, false, false, false] rfl rfl rfl rfl (two_of HT_.out (by kernel_rfl)) (by decide) (by decide) (fun K hK => ?_) (fun K hK => ?_)
     ·skip
      refine goes_ Try.func8 (by kernel_rfl) rfl #[.agg #[.bool a1_0, .int .i64 a1_1, .int .i64 a1_2, .int .i64 a1_3]] (by rfl) rfl rfl (by (try simp only [lA, lB, lC]); first | done | rfl | (simp only [lD, lE]; rfl)) ?_
      with_reducible refine (laws_toHold.calls a1_0 a1_1 a1_2 a1_3 p8 p9 q0 q1 _ P2.out).mono ?_
      rintro e Z2 ⟨rfl, hb⟩
      refine ⟨_, rfl, ?_⟩
      replace f0 := a_ (Kd.R_below (rk f0.out) hb)
      replace f2 := a_ (Kd.R_below (rk f2.out) hb)
      replace e9 := a_ (Kd.R_below (rk e9.out) hb)
      replace g7 := a_ (Kd.R_below (rk g7.out) hb)
      replace i0 := a_ (Kd.R_below (rk i0.out) hb)
      replace b0 := a_ (blk_below (pk b0.out) hb)
      replace b1 := a_ (blk_below (pk b1.out) hb)
      replace b2 := a_ (blk_below (pk b2.out) hb)
      replace HB := a_ (below_step (by repeat (with_reducible first | exact HB.out | refine bz ?_ (by assumption) | apply bA | apply bN | apply bD)) hb)
      (try clear hb)
      (try clear hb2)
      (try clear hk)
      (try clear hi)
      refine hK.out _ _ ⟨(blk_cell b0.out 0).trans rfl, (blk_cell b0.out 1).trans rfl, (blk_cell b0.out 2).trans rfl, (blk_cell b0.out 3).trans rfl, (blk_cell b0.out 4).trans rfl, (blk_cell b0.out 5).trans rfl, (blk_cell b0.out 6).trans rfl, (blk_cell b1.out 0).trans rfl, (blk_cell b1.out 1).trans rfl, (blk_cell b1.out 2).trans rfl, (blk_cell b1.out 3).trans rfl⟩ (fun l0 => ?_)
      clear hK K
      refine norm_ (a' := ?_) ?_ ?_
      rotate_left
      ·show Act.put _ (some 50) _ = _
       simp only [Act.put, sB, sC, sD, i64_w, i32_w]
       rfl
      refine two_ (i := 6) (j := 11) (Ni := some 53) (Nj := some 15) #[true, true, true, true, true, true, true, false, false, false, false, false, false, false, false] #[true, true, true, true, true, true, false, false, false, false, false, true, false, false, false] rfl rfl rfl rfl (two_of HT_.out (by kernel_rfl)) (by decide) (by decide) (fun K hK => ?_) (fun K hK => ?_)
      ·skip
       refine goes_ Try.func10 (by kernel_rfl) rfl #[.agg #[.int .i64 p0, .int .i64 p1, .int .i64 p3, .int .i64 p4, .int .i64 p5, .int .i64 p6, .int .i64 p7], .agg #[.bool p8, .int .i64 p9, .int .i64 q0, .int .i64 q1], .slice m8 t219.length m9, .slice n0 t222.length n1] (by rfl) rfl rfl (by (try simp only [lA, lB, lC]); first | done | rfl | (simp only [lD, lE]; rfl)) ?_
       with_reducible refine (impl_RunHold.calls k p0 p1 p3 p4 p5 p6 p7 p8 p9 q0 q1 _ _ t219 _ _ t222 i5 j5 j8 k0 k1 n7 _ ?side1 ?side2 ?side3 ?side4 O7.out).mono ?_
       (case side1 => exact cu (Kd.R_reads' g7.out).2.2)
       (case side2 => exact (Kd.R_reads' g7.out).2.1)
       (case side3 => exact cu (Kd.R_reads' i0.out).2.2)
       (case side4 => exact (Kd.R_reads' i0.out).2.1)
       rintro e P5 ⟨n8, rfl, ho0, hb⟩
       refine ⟨_, rfl, ?_⟩
       have m7 := a_ (Kd.R_lower (nw (nw (nw (nw (nw ho0 f0.out) f2.out) e9.out) g7.out) i0.out) (bs HB.out))
       replace f0 := a_ (Kd.R_elder' (rk f0.out) (Kd.R_base ho0) hb)
       replace f2 := a_ (Kd.R_elder' (rk f2.out) (Kd.R_base ho0) hb)
       replace e9 := a_ (Kd.R_elder' (rk e9.out) (Kd.R_base ho0) hb)
       replace g7 := a_ (Kd.R_elder' (rk g7.out) (Kd.R_base ho0) hb)
       replace i0 := a_ (Kd.R_elder' (rk i0.out) (Kd.R_base ho0) hb)
       replace b0 := a_ (blk_below (pk b0.out) hb)
       replace b1 := a_ (blk_below (pk b1.out) hb)
       replace b2 := a_ (blk_below (pk b2.out) hb)
       replace HB := a_ (below_step (by repeat (with_reducible first | exact HB.out | refine bz ?_ (by assumption) | apply bA | apply bN | apply bD)) hb)
       (try clear hb)
       (try clear hb2)
       (try clear hk)
       (try clear hi)
       (try clear ho0)
       refine hK.out _ _ ⟨(blk_cell b0.out 0).trans rfl, (blk_cell b0.out 1).trans rfl, (blk_cell b0.out 2).trans rfl, (blk_cell b0.out 3).trans rfl, (blk_cell b0.out 4).trans rfl, (blk_cell b0.out 5).trans rfl, (blk_cell b0.out 6).trans rfl, (blk_cell b1.out 0).trans rfl, (blk_cell b1.out 1).trans rfl, (blk_cell b1.out 2).trans rfl, (blk_cell b1.out 3).trans rfl⟩ (fun l0 => ?_)
       clear hK K
       refine norm_ (a' := ?_) ?_ ?_
       rotate_left
       ·show Act.put _ (some 53) _ = _
        simp only [Act.put, sB, sC, sD, i64_w, i32_w]
        rfl
       refine pure_ (i := 7) (N := some 46) (v := ?_) (a' := ?_) #[true, true, true, true, true, true, true, true, false, false, false, false, false, false, false] rfl rfl (any_of HT_.out (by kernel_rfl)) (fun _ _ _ h => h) (Or.inl ⟨by rfl, ?_⟩) ?_ ?_
       rotate_left
       ·intro w'
        go_simp
        with_reducible rfl
       rotate_left
       ·simp only [Act.put, sB, sC, sD, i64_w, i32_w]
        rfl
       refine pure_ (i := 8) (N := some 54) (v := ?_) (a' := ?_) #[true, true, true, true, true, true, true, true, true, false, false, false, false, false, false] rfl rfl (any_of HT_.out (by kernel_rfl)) (fun _ _ _ h => h) (Or.inl ⟨by rfl, ?_⟩) ?_ ?_
       rotate_left
       ·intro w'
        go_simp
        with_reducible rfl
       rotate_left
       ·simp only [Act.put, sB, sC, sD, i64_w, i32_w]
        rfl
       refine pure_ (i := 9) (N := some 55) (v := ?_) (a' := ?_) #[true, true, true, true, true, true, true, true, true, true, false, false, false, false, false] rfl rfl (any_of HT_.out (by kernel_rfl)) (fun _ _ _ h => h) (Or.inl ⟨by rfl, ?_⟩) ?_ ?_
       rotate_left
       ·intro w'
        go_simp
        with_reducible rfl
       rotate_left
       ·simp only [Act.put, sB, sC, sD, i64_w, i32_w]
        rfl
       refine pure_ (i := 10) (N := some 56) (v := ?_) (a' := ?_) #[true, true, true, true, true, true, true, true, true, true, true, false, false, false, false] rfl rfl (any_of HT_.out (by kernel_rfl)) (fun _ _ _ h => h) (Or.inl ⟨by rfl, ?_⟩) ?_ ?_
       rotate_left
       ·intro w'
        go_simp
        with_reducible rfl
       rotate_left
       ·simp only [Act.put, sB, sC, sD, i64_w, i32_w]
        rfl
       refine one_ (i := 11) (N := some 15) #[true, true, true, true, true, true, true, true, true, true, true, true, false, false, false] rfl rfl (one_of HT_.out (by kernel_rfl)) (by decide) (fun K hK => ?_)
       refine box_step ?hg (N := 15) ?hd (cs := #[.bool false, .int .i64 0, .int .i64 0, .int .i64 0]) (t := 27) ?hr ?_; (case hd => rfl); (case hg => rfl); (case hr => first | (go_simp; done) | (go_simp; rfl))
       intro f1 hg P6 hbox hb
       replace f0 := a_ (Kd.R_below (rk f0.out) hb)
       replace f2 := a_ (Kd.R_below (rk f2.out) hb)
       replace e9 := a_ (Kd.R_below (rk e9.out) hb)
       replace g7 := a_ (Kd.R_below (rk g7.out) hb)
       replace i0 := a_ (Kd.R_below (rk i0.out) hb)
       replace m7 := a_ (Kd.R_below (rk m7.out) hb)
       have b3 := a_ (hbox)
       have q2 := a_ (bsg hg HB.out)
       have q3 := a_ (bsg hg HB.out)
       replace HB := a_ (below_step (by repeat (with_reducible first | exact HB.out | refine bz ?_ (by assumption) | apply bA | apply bN | apply bD)) hb)
       have d0 := a_ (nel hg b0.out)
       have k4 := a_ (nle hg b0.out)
       replace b0 := a_ (blk_below (pk b0.out) hb)
       have d3 := a_ (nel hg b1.out)
       have k5 := a_ (nle hg b1.out)
       replace b1 := a_ (blk_below (pk b1.out) hb)
       have f4 := a_ (nel hg b2.out)
       have j7 := a_ (nle hg b2.out)
       replace b2 := a_ (blk_below (pk b2.out) hb)
       clear hb hbox hg
       refine hK.out _ _ ⟨(blk_cell b0.out 0).trans rfl, (blk_cell b0.out 1).trans rfl, (blk_cell b0.out 2).trans rfl, (blk_cell b0.out 3).trans rfl, (blk_cell b0.out 4).trans rfl, (blk_cell b0.out 5).trans rfl, (blk_cell b0.out 6).trans rfl, (blk_cell b1.out 0).trans rfl, (blk_cell b1.out 1).trans rfl, (blk_cell b1.out 2).trans rfl, (blk_cell b1.out 3).trans rfl⟩ (fun l0 => ?_)
       clear hK K
       refine norm_ (a' := ?_) ?_ ?_
       rotate_left
       ·show Act.put _ (some 15) _ = _
        simp only [Act.put, sB, sC, sD, i64_w, i32_w]
        rfl
       exact norm_ (by simp only [putAll, Act.put, sB, sC, sD]) (hCont (n8, f1) _ ⟨l0, (rk (Kd.R_mono f0.out (fun _ hk => ⟨hk.1.1.1.1, hk.1.1.1.2, hk.1.1.2, hk.1.2, hk.2⟩))), (rk (Kd.R_mono f2.out (fun _ hk => ⟨hk.1.1.1.1, hk.1.1.1.2, hk.1.1.2, hk.1.2, hk.2⟩))), (rk (Kd.R_mono e9.out (fun _ hk => ⟨hk.1.1.1.1, hk.1.1.1.2, hk.1.1.2, hk.1.2, hk.2⟩))), (rk (Kd.R_mono g7.out (fun _ hk => ⟨hk.1.1.1.1.2, hk.1.1.1.2, hk.1.1.2, hk.1.2, hk.2⟩))), (rk (Kd.R_mono i0.out (fun _ hk => ⟨hk.1.1.1.1.2, hk.1.1.1.2, hk.1.1.2, hk.1.2, hk.2⟩))), (rk (Kd.R_mono m7.out (fun _ hk => ⟨hk.1.1.1.1.2, hk.1.1.1.2, hk.1.1.2, hk.1.2, hk.2⟩))), (pk b0.out), (pk b1.out), (pk b2.out), (pk b3.out), q2.out, q3.out, d0.out, k4.out, d3.out, k5.out, f4.out, j7.out, (by repeat (with_reducible first | exact HB.out | refine bz ?_ (by assumption) | apply bA | apply bN | apply bD))⟩)
      ·skip
       refine box_step ?hg (N := 15) ?hd (cs := #[.bool false, .int .i64 0, .int .i64 0, .int .i64 0]) (t := 27) ?hr ?_; (case hd => rfl); (case hg => rfl); (case hr => first | (go_simp; done) | (go_simp; rfl))
       intro f1 hg P5 hbox hb
       replace f0 := a_ (Kd.R_below (rk f0.out) hb)
       replace f2 := a_ (Kd.R_below (rk f2.out) hb)
       replace e9 := a_ (Kd.R_below (rk e9.out) hb)
       replace g7 := a_ (Kd.R_below (rk g7.out) hb)
       replace i0 := a_ (Kd.R_below (rk i0.out) hb)
       have b3 := a_ (hbox)
       have q2 := a_ (bsg hg HB.out)
       have q3 := a_ (bsg hg HB.out)
       replace HB := a_ (below_step (by repeat (with_reducible first | exact HB.out | refine bz ?_ (by assumption) | apply bA | apply bN | apply bD)) hb)
       have d0 := a_ (nel hg b0.out)
       have k4 := a_ (nle hg b0.out)
       replace b0 := a_ (blk_below (pk b0.out) hb)
       have d3 := a_ (nel hg b1.out)
       have k5 := a_ (nle hg b1.out)
       replace b1 := a_ (blk_below (pk b1.out) hb)
       have f4 := a_ (nel hg b2.out)
       have j7 := a_ (nle hg b2.out)
       replace b2 := a_ (blk_below (pk b2.out) hb)
       clear hb hbox hg
       refine hK.out _ _ ⟨(blk_cell b0.out 0).trans rfl, (blk_cell b0.out 1).trans rfl, (blk_cell b0.out 2).trans rfl, (blk_cell b0.out 3).trans rfl, (blk_cell b0.out 4).trans rfl, (blk_cell b0.out 5).trans rfl, (blk_cell b0.out 6).trans rfl, (blk_cell b1.out 0).trans rfl, (blk_cell b1.out 1).trans rfl, (blk_cell b1.out 2).trans rfl, (blk_cell b1.out 3).trans rfl⟩ (fun l0 => ?_)
       clear hK K
       refine norm_ (a' := ?_) ?_ ?_
       rotate_left
       ·show Act.put _ (some 15) _ = _
        simp only [Act.put, sB, sC, sD, i64_w, i32_w]
        rfl
       refine one_ (i := 6) (N := some 53) #[true, true, true, true, true, true, true, false, false, false, false, true, false, false, false] rfl rfl (one_of HT_.out (by kernel_rfl)) (by decide) (fun K hK => ?_)
       refine goes_ Try.func10 (by kernel_rfl) rfl #[.agg #[.int .i64 p0, .int .i64 p1, .int .i64 p3, .int .i64 p4, .int .i64 p5, .int .i64 p6, .int .i64 p7], .agg #[.bool p8, .int .i64 p9, .int .i64 q0, .int .i64 q1], .slice m8 t219.length m9, .slice n0 t222.length n1] (by rfl) rfl rfl (by (try simp only [lA, lB, lC]); first | done | rfl | (simp only [lD, lE]; rfl)) ?_
       with_reducible refine (impl_RunHold.calls k p0 p1 p3 p4 p5 p6 p7 p8 p9 q0 q1 _ _ t219 _ _ t222 i5 j5 j8 k0 k1 n7 _ ?side1 ?side2 ?side3 ?side4 O7.out).mono ?_
       (case side1 => exact cu (Kd.R_reads' g7.out).2.2)
       (case side2 => exact (Kd.R_reads' g7.out).2.1)
       (case side3 => exact cu (Kd.R_reads' i0.out).2.2)
       (case side4 => exact (Kd.R_reads' i0.out).2.1)
       rintro e P6 ⟨n8, rfl, ho0, hb⟩
       refine ⟨_, rfl, ?_⟩
       have m7 := a_ (Kd.R_lower (nw (nw (nw (nw (nw ho0 f0.out) f2.out) e9.out) g7.out) i0.out) (bs HB.out))
       replace f0 := a_ (Kd.R_elder' (rk f0.out) (Kd.R_base ho0) hb)
       replace f2 := a_ (Kd.R_elder' (rk f2.out) (Kd.R_base ho0) hb)
       replace e9 := a_ (Kd.R_elder' (rk e9.out) (Kd.R_base ho0) hb)
       replace g7 := a_ (Kd.R_elder' (rk g7.out) (Kd.R_base ho0) hb)
       replace i0 := a_ (Kd.R_elder' (rk i0.out) (Kd.R_base ho0) hb)
       replace b0 := a_ (blk_below (pk b0.out) hb)
       replace b1 := a_ (blk_below (pk b1.out) hb)
       replace b2 := a_ (blk_below (pk b2.out) hb)
       replace b3 := a_ (blk_below (pk b3.out) hb)
       replace HB := a_ (below_step (by repeat (with_reducible first | exact HB.out | refine bz ?_ (by assumption) | apply bA | apply bN | apply bD)) hb)
       (try clear hb)
       (try clear hb2)
       (try clear hk)
       (try clear hi)
       (try clear ho0)
       refine hK.out _ _ ⟨(blk_cell b0.out 0).trans rfl, (blk_cell b0.out 1).trans rfl, (blk_cell b0.out 2).trans rfl, (blk_cell b0.out 3).trans rfl, (blk_cell b0.out 4).trans rfl, (blk_cell b0.out 5).trans rfl, (blk_cell b0.out 6).trans rfl, (blk_cell b1.out 0).trans rfl, (blk_cell b1.out 1).trans rfl, (blk_cell b1.out 2).trans rfl, (blk_cell b1.out 3).trans rfl⟩ (fun l0 => ?_)
       clear hK K
       refine norm_ (a' := ?_) ?_ ?_
       rotate_left
       ·show Act.put _ (some 53) _ = _
        simp only [Act.put, sB, sC, sD, i64_w, i32_w]
        rfl
       refine pure_ (i := 7) (N := some 46) (v := ?_) (a' := ?_) #[true, true, true, true, true, true, true, true, false, false, false, true, false, false, false] rfl rfl (any_of HT_.out (by kernel_rfl)) (fun _ _ _ h => h) (Or.inl ⟨by rfl, ?_⟩) ?_ ?_
       rotate_left
       ·intro w'
        go_simp
        with_reducible rfl
       rotate_left
       ·simp only [Act.put, sB, sC, sD, i64_w, i32_w]
        rfl
       refine pure_ (i := 8) (N := some 54) (v := ?_) (a' := ?_) #[true, true, true, true, true, true, true, true, true, false, false, true, false, false, false] rfl rfl (any_of HT_.out (by kernel_rfl)) (fun _ _ _ h => h) (Or.inl ⟨by rfl, ?_⟩) ?_ ?_
       rotate_left
       ·intro w'
        go_simp
        with_reducible rfl
       rotate_left
       ·simp only [Act.put, sB, sC, sD, i64_w, i32_w]
        rfl
       refine pure_ (i := 9) (N := some 55) (v := ?_) (a' := ?_) #[true, true, true, true, true, true, true, true, true, true, false, true, false, false, false] rfl rfl (any_of HT_.out (by kernel_rfl)) (fun _ _ _ h => h) (Or.inl ⟨by rfl, ?_⟩) ?_ ?_
       rotate_left
       ·intro w'
        go_simp
        with_reducible rfl
       rotate_left
       ·simp only [Act.put, sB, sC, sD, i64_w, i32_w]
        rfl
       refine pure_ (i := 10) (N := some 56) (v := ?_) (a' := ?_) #[true, true, true, true, true, true, true, true, true, true, true, true, false, false, false] rfl rfl (any_of HT_.out (by kernel_rfl)) (fun _ _ _ h => h) (Or.inl ⟨by rfl, ?_⟩) ?_ ?_
       rotate_left
       ·intro w'
        go_simp
        with_reducible rfl
       rotate_left
       ·simp only [Act.put, sB, sC, sD, i64_w, i32_w]
        rfl
       exact norm_ (by simp only [putAll, Act.put, sB, sC, sD]) (hCont (n8, f1) _ ⟨l0, (rk (Kd.R_mono f0.out (fun _ hk => ⟨hk.1.1.1.1, hk.1.1.1.2, hk.1.1.2, hk.1.2, hk.2⟩))), (rk (Kd.R_mono f2.out (fun _ hk => ⟨hk.1.1.1.1, hk.1.1.1.2, hk.1.1.2, hk.1.2, hk.2⟩))), (rk (Kd.R_mono e9.out (fun _ hk => ⟨hk.1.1.1.1, hk.1.1.1.2, hk.1.1.2, hk.1.2, hk.2⟩))), (rk (Kd.R_mono g7.out (fun _ hk => ⟨hk.1.1.1.1.2, hk.1.1.1.2, hk.1.1.2, hk.1.2, hk.2⟩))), (rk (Kd.R_mono i0.out (fun _ hk => ⟨hk.1.1.1.1.2, hk.1.1.1.2, hk.1.1.2, hk.1.2, hk.2⟩))), (rk (Kd.R_mono m7.out (fun _ hk => ⟨hk.1.1.1.1.2, hk.1.1.1.2, hk.1.1.2, hk.1.2, hk.2⟩))), (pk b0.out), (pk b1.out), (pk b2.out), (pk b3.out), q2.out, q3.out, d0.out, k4.out, d3.out, k5.out, f4.out, j7.out, (by repeat (with_reducible first | exact HB.out | refine bz ?_ (by assumption) | apply bA | apply bN | apply bD))⟩)
     ·skip
      refine box_step ?hg (N := 15) ?hd (cs := #[.bool false, .int .i64 0, .int .i64 0, .int .i64 0]) (t := 27) ?hr ?_; (case hd => rfl); (case hg => rfl); (case hr => first | (go_simp; done) | (go_simp; rfl))
      intro f1 hg Z2 hbox hb
      replace f0 := a_ (Kd.R_below (rk f0.out) hb)
      replace f2 := a_ (Kd.R_below (rk f2.out) hb)
      replace e9 := a_ (Kd.R_below (rk e9.out) hb)
      replace g7 := a_ (Kd.R_below (rk g7.out) hb)
      replace i0 := a_ (Kd.R_below (rk i0.out) hb)
      have b3 := a_ (hbox)
      have q2 := a_ (bsg hg HB.out)
      have q3 := a_ (bsg hg HB.out)
      replace HB := a_ (below_step (by repeat (with_reducible first | exact HB.out | refine bz ?_ (by assumption) | apply bA | apply bN | apply bD)) hb)
      have d0 := a_ (nel hg b0.out)
      have k4 := a_ (nle hg b0.out)
      replace b0 := a_ (blk_below (pk b0.out) hb)
      have d3 := a_ (nel hg b1.out)
      have k5 := a_ (nle hg b1.out)
      replace b1 := a_ (blk_below (pk b1.out) hb)
      have f4 := a_ (nel hg b2.out)
      have j7 := a_ (nle hg b2.out)
      replace b2 := a_ (blk_below (pk b2.out) hb)
      clear hb hbox hg
      refine hK.out _ _ ⟨(blk_cell b0.out 0).trans rfl, (blk_cell b0.out 1).trans rfl, (blk_cell b0.out 2).trans rfl, (blk_cell b0.out 3).trans rfl, (blk_cell b0.out 4).trans rfl, (blk_cell b0.out 5).trans rfl, (blk_cell b0.out 6).trans rfl, (blk_cell b1.out 0).trans rfl, (blk_cell b1.out 1).trans rfl, (blk_cell b1.out 2).trans rfl, (blk_cell b1.out 3).trans rfl⟩ (fun l0 => ?_)
      clear hK K
      refine norm_ (a' := ?_) ?_ ?_
      rotate_left
      ·show Act.put _ (some 15) _ = _
       simp only [Act.put, sB, sC, sD, i64_w, i32_w]
       rfl
      refine one_ (i := 3) (N := some 50) #[true, true, true, true, true, true, false, false, false, false, false, true, false, false, false] rfl rfl (one_of HT_.out (by kernel_rfl)) (by decide) (fun K hK => ?_)
      refine goes_ Try.func8 (by kernel_rfl) rfl #[.agg #[.bool a1_0, .int .i64 a1_1, .int .i64 a1_2, .int .i64 a1_3]] (by rfl) rfl rfl (by (try simp only [lA, lB, lC]); first | done | rfl | (simp only [lD, lE]; rfl)) ?_
      with_reducible refine (laws_toHold.calls a1_0 a1_1 a1_2 a1_3 p8 p9 q0 q1 _ P2.out).mono ?_
      rintro e P5 ⟨rfl, hb⟩
      refine ⟨_, rfl, ?_⟩
      replace f0 := a_ (Kd.R_below (rk f0.out) hb)
      replace f2 := a_ (Kd.R_below (rk f2.out) hb)
      replace e9 := a_ (Kd.R_below (rk e9.out) hb)
      replace g7 := a_ (Kd.R_below (rk g7.out) hb)
      replace i0 := a_ (Kd.R_below (rk i0.out) hb)
      replace b0 := a_ (blk_below (pk b0.out) hb)
      replace b1 := a_ (blk_below (pk b1.out) hb)
      replace b2 := a_ (blk_below (pk b2.out) hb)
      replace b3 := a_ (blk_below (pk b3.out) hb)
      replace HB := a_ (below_step (by repeat (with_reducible first | exact HB.out | refine bz ?_ (by assumption) | apply bA | apply bN | apply bD)) hb)
      (try clear hb)
      (try clear hb2)
      (try clear hk)
      (try clear hi)
      refine hK.out _ _ ⟨(blk_cell b0.out 0).trans rfl, (blk_cell b0.out 1).trans rfl, (blk_cell b0.out 2).trans rfl, (blk_cell b0.out 3).trans rfl, (blk_cell b0.out 4).trans rfl, (blk_cell b0.out 5).trans rfl, (blk_cell b0.out 6).trans rfl, (blk_cell b1.out 0).trans rfl, (blk_cell b1.out 1).trans rfl, (blk_cell b1.out 2).trans rfl, (blk_cell b1.out 3).trans rfl⟩ (fun l0 => ?_)
      clear hK K
      refine norm_ (a' := ?_) ?_ ?_
      rotate_left
      ·show Act.put _ (some 50) _ = _
       simp only [Act.put, sB, sC, sD, i64_w, i32_w]
       rfl
      refine one_ (i := 6) (N := some 53) #[true, true, true, true, true, true, true, false, false, false, false, true, false, false, false] rfl rfl (one_of HT_.out (by kernel_rfl)) (by decide) (fun K hK => ?_)
      refine goes_ Try.func10 (by kernel_rfl) rfl #[.agg #[.int .i64 p0, .int .i64 p1, .int .i64 p3, .int .i64 p4, .int .i64 p5, .int .i64 p6, .int .i64 p7], .agg #[.bool p8, .int .i64 p9, .int .i64 q0, .int .i64 q1], .slice m8 t219.length m9, .slice n0 t222.length n1] (by rfl) rfl rfl (by (try simp only [lA, lB, lC]); first | done | rfl | (simp only [lD, lE]; rfl)) ?_
      with_reducible refine (impl_RunHold.calls k p0 p1 p3 p4 p5 p6 p7 p8 p9 q0 q1 _ _ t219 _ _ t222 i5 j5 j8 k0 k1 n7 _ ?side1 ?side2 ?side3 ?side4 O7.out).mono ?_
      (case side1 => exact cu (Kd.R_reads' g7.out).2.2)
      (case side2 => exact (Kd.R_reads' g7.out).2.1)
      (case side3 => exact cu (Kd.R_reads' i0.out).2.2)
      (case side4 => exact (Kd.R_reads' i0.out).2.1)
      rintro e P6 ⟨n8, rfl, ho0, hb⟩
      refine ⟨_, rfl, ?_⟩
      have m7 := a_ (Kd.R_lower (nw (nw (nw (nw (nw ho0 f0.out) f2.out) e9.out) g7.out) i0.out) (bs HB.out))
      replace f0 := a_ (Kd.R_elder' (rk f0.out) (Kd.R_base ho0) hb)
      replace f2 := a_ (Kd.R_elder' (rk f2.out) (Kd.R_base ho0) hb)
      replace e9 := a_ (Kd.R_elder' (rk e9.out) (Kd.R_base ho0) hb)
      replace g7 := a_ (Kd.R_elder' (rk g7.out) (Kd.R_base ho0) hb)
      replace i0 := a_ (Kd.R_elder' (rk i0.out) (Kd.R_base ho0) hb)
      replace b0 := a_ (blk_below (pk b0.out) hb)
      replace b1 := a_ (blk_below (pk b1.out) hb)
      replace b2 := a_ (blk_below (pk b2.out) hb)
      replace b3 := a_ (blk_below (pk b3.out) hb)
      replace HB := a_ (below_step (by repeat (with_reducible first | exact HB.out | refine bz ?_ (by assumption) | apply bA | apply bN | apply bD)) hb)
      (try clear hb)
      (try clear hb2)
      (try clear hk)
      (try clear hi)
      (try clear ho0)
      refine hK.out _ _ ⟨(blk_cell b0.out 0).trans rfl, (blk_cell b0.out 1).trans rfl, (blk_cell b0.out 2).trans rfl, (blk_cell b0.out 3).trans rfl, (blk_cell b0.out 4).trans rfl, (blk_cell b0.out 5).trans rfl, (blk_cell b0.out 6).trans rfl, (blk_cell b1.out 0).trans rfl, (blk_cell b1.out 1).trans rfl, (blk_cell b1.out 2).trans rfl, (blk_cell b1.out 3).trans rfl⟩ (fun l0 => ?_)
      clear hK K
      refine norm_ (a' := ?_) ?_ ?_
      rotate_left
      ·show Act.put _ (some 53) _ = _
       simp only [Act.put, sB, sC, sD, i64_w, i32_w]
       rfl
      refine pure_ (i := 7) (N := some 46) (v := ?_) (a' := ?_) #[true, true, true, true, true, true, true, true, false, false, false, true, false, false, false] rfl rfl (any_of HT_.out (by kernel_rfl)) (fun _ _ _ h => h) (Or.inl ⟨by rfl, ?_⟩) ?_ ?_
      rotate_left
      ·intro w'
       go_simp
       with_reducible rfl
      rotate_left
      ·simp only [Act.put, sB, sC, sD, i64_w, i32_w]
       rfl
      refine pure_ (i := 8) (N := some 54) (v := ?_) (a' := ?_) #[true, true, true, true, true, true, true, true, true, false, false, true, false, false, false] rfl rfl (any_of HT_.out (by kernel_rfl)) (fun _ _ _ h => h) (Or.inl ⟨by rfl, ?_⟩) ?_ ?_
      rotate_left
      ·intro w'
       go_simp
       with_reducible rfl
      rotate_left
      ·simp only [Act.put, sB, sC, sD, i64_w, i32_w]
       rfl
      refine pure_ (i := 9) (N := some 55) (v := ?_) (a' := ?_) #[true, true, true, true, true, true, true, true, true, true, false, true, false, false, false] rfl rfl (any_of HT_.out (by kernel_rfl)) (fun _ _ _ h => h) (Or.inl ⟨by rfl, ?_⟩) ?_ ?_
      rotate_left
      ·intro w'
       go_simp
       with_reducible rfl
      rotate_left
      ·simp only [Act.put, sB, sC, sD, i64_w, i32_w]
       rfl
      refine pure_ (i := 10) (N := some 56) (v := ?_) (a' := ?_) #[true, true, true, true, true, true, true, true, true, true, true, true, false, false, false] rfl rfl (any_of HT_.out (by kernel_rfl)) (fun _ _ _ h => h) (Or.inl ⟨by rfl, ?_⟩) ?_ ?_
      rotate_left
      ·intro w'
       go_simp
       with_reducible rfl
      rotate_left
      ·simp only [Act.put, sB, sC, sD, i64_w, i32_w]
       rfl
      exact norm_ (by simp only [putAll, Act.put, sB, sC, sD]) (hCont (n8, f1) _ ⟨l0, (rk (Kd.R_mono f0.out (fun _ hk => ⟨hk.1.1.1.1, hk.1.1.1.2, hk.1.1.2, hk.1.2, hk.2⟩))), (rk (Kd.R_mono f2.out (fun _ hk => ⟨hk.1.1.1.1, hk.1.1.1.2, hk.1.1.2, hk.1.2, hk.2⟩))), (rk (Kd.R_mono e9.out (fun _ hk => ⟨hk.1.1.1.1, hk.1.1.1.2, hk.1.1.2, hk.1.2, hk.2⟩))), (rk (Kd.R_mono g7.out (fun _ hk => ⟨hk.1.1.1.1.2, hk.1.1.1.2, hk.1.1.2, hk.1.2, hk.2⟩))), (rk (Kd.R_mono i0.out (fun _ hk => ⟨hk.1.1.1.1.2, hk.1.1.1.2, hk.1.1.2, hk.1.2, hk.2⟩))), (rk (Kd.R_mono m7.out (fun _ hk => ⟨hk.1.1.1.1.2, hk.1.1.1.2, hk.1.1.2, hk.1.2, hk.2⟩))), (pk b0.out), (pk b1.out), (pk b2.out), (pk b3.out), q2.out, q3.out, d0.out, k4.out, d3.out, k5.out, f4.out, j7.out, (by repeat (with_reducible first | exact HB.out | refine bz ?_ (by assumption) | apply bA | apply bN | apply bD))⟩)
    ·skip
     refine box_step ?hg (N := 15) ?hd (cs := #[.bool false, .int .i64 0, .int .i64 0, .int .i64 0]) (t := 27) ?hr ?_; (case hd => rfl); (case hg => rfl); (case hr => first | (go_simp; done) | (go_simp; rfl))
     intro f1 hg Yp hbox hb
     replace f0 := a_ (Kd.R_below (rk f0.out) hb)
     replace f2 := a_ (Kd.R_below (rk f2.out) hb)
     replace e9 := a_ (Kd.R_below (rk e9.out) hb)
     replace g7 := a_ (Kd.R_below (rk g7.out) hb)
     replace i0 := a_ (Kd.R_below (rk i0.out) hb)
     have b3 := a_ (hbox)
     have q2 := a_ (bsg hg HB.out)
     have q3 := a_ (bsg hg HB.out)
     replace HB := a_ (below_step (by repeat (with_reducible first | exact HB.out | refine bz ?_ (by assumption) | apply bA | apply bN | apply bD)) hb)
     have d0 := a_ (nel hg b0.out)
     have k4 := a_ (nle hg b0.out)
     replace b0 := a_ (blk_below (pk b0.out) hb)
     have d3 := a_ (nel hg b1.out)
     have k5 := a_ (nle hg b1.out)
     replace b1 := a_ (blk_below (pk b1.out) hb)
     have f4 := a_ (nel hg b2.out)
     have j7 := a_ (nle hg b2.out)
     replace b2 := a_ (blk_below (pk b2.out) hb)
     clear hb hbox hg
     refine hK.out _ _ ⟨(blk_cell b0.out 0).trans rfl, (blk_cell b0.out 1).trans rfl, (blk_cell b0.out 2).trans rfl, (blk_cell b0.out 3).trans rfl, (blk_cell b0.out 4).trans rfl, (blk_cell b0.out 5).trans rfl, (blk_cell b0.out 6).trans rfl, (blk_cell b1.out 0).trans rfl, (blk_cell b1.out 1).trans rfl, (blk_cell b1.out 2).trans rfl, (blk_cell b1.out 3).trans rfl⟩ (fun l0 => ?_)
     clear hK K
     refine norm_ (a' := ?_) ?_ ?_
     rotate_left
     ·show Act.put _ (some 15) _ = _
      simp only [Act.put, sB, sC, sD, i64_w, i32_w]
      rfl
     refine one_ (i := 1) (N := some 48) #[true, true, true, false, true, true, false, false, false, false, false, true, false, false, false] rfl rfl (one_of HT_.out (by kernel_rfl)) (by decide) (fun K hK => ?_)
     refine goes_ Try.func7 (by kernel_rfl) rfl #[.agg #[.int .i64 a0_0, .int .i64 a0_1, .int .i64 a0_2, .int .i64 a0_3, .int .i64 a0_4, .int .i64 a0_5, .int .i64 a0_6]] (by rfl) rfl rfl (by (try simp only [lA, lB, lC]); first | done | rfl | (simp only [lD, lE]; rfl)) ?_
     with_reducible refine (laws_toLoop.calls a0_0 a0_1 a0_2 a0_3 a0_4 a0_5 a0_6 p0 p1 p3 p4 p5 p6 p7 _ Z1.out).mono ?_
     rintro e Z2 ⟨rfl, hb⟩
     refine ⟨_, rfl, ?_⟩
     replace f0 := a_ (Kd.R_below (rk f0.out) hb)
     replace f2 := a_ (Kd.R_below (rk f2.out) hb)
     replace e9 := a_ (Kd.R_below (rk e9.out) hb)
     replace g7 := a_ (Kd.R_below (rk g7.out) hb)
     replace i0 := a_ (Kd.R_below (rk i0.out) hb)
     replace b0 := a_ (blk_below (pk b0.out) hb)
     replace b1 := a_ (blk_below (pk b1.out) hb)
     replace b2 := a_ (blk_below (pk b2.out) hb)
     replace b3 := a_ (blk_below (pk b3.out) hb)
     replace HB := a_ (below_step (by repeat (with_reducible first | exact HB.out | refine bz ?_ (by assumption) | apply bA | apply bN | apply bD)) hb)
     (try clear hb)
     (try clear hb2)
     (try clear hk)
     (try clear hi)
     refine hK.out _ _ ⟨(blk_cell b0.out 0).trans rfl, (blk_cell b0.out 1).trans rfl, (blk_cell b0.out 2).trans rfl, (blk_cell b0.out 3).trans rfl, (blk_cell b0.out 4).trans rfl, (blk_cell b0.out 5).trans rfl, (blk_cell b0.out 6).trans rfl, (blk_cell b1.out 0).trans rfl, (blk_cell b1.out 1).trans rfl, (blk_cell b1.out 2).trans rfl, (blk_cell b1.out 3).trans rfl⟩ (fun l0 => ?_)
     clear hK K
     refine norm_ (a' := ?_) ?_ ?_
     rotate_left
     ·show Act.put _ (some 48) _ = _
      simp only [Act.put, sB, sC, sD, i64_w, i32_w]
      rfl
     refine one_ (i := 3) (N := some 50) #[true, true, true, true, true, true, false, false, false, false, false, true, false, false, false] rfl rfl (one_of HT_.out (by kernel_rfl)) (by decide) (fun K hK => ?_)
     refine goes_ Try.func8 (by kernel_rfl) rfl #[.agg #[.bool a1_0, .int .i64 a1_1, .int .i64 a1_2, .int .i64 a1_3]] (by rfl) rfl rfl (by (try simp only [lA, lB, lC]); first | done | rfl | (simp only [lD, lE]; rfl)) ?_
     with_reducible refine (laws_toHold.calls a1_0 a1_1 a1_2 a1_3 p8 p9 q0 q1 _ P2.out).mono ?_
     rintro e P5 ⟨rfl, hb⟩
     refine ⟨_, rfl, ?_⟩
     replace f0 := a_ (Kd.R_below (rk f0.out) hb)
     replace f2 := a_ (Kd.R_below (rk f2.out) hb)
     replace e9 := a_ (Kd.R_below (rk e9.out) hb)
     replace g7 := a_ (Kd.R_below (rk g7.out) hb)
     replace i0 := a_ (Kd.R_below (rk i0.out) hb)
     replace b0 := a_ (blk_below (pk b0.out) hb)
     replace b1 := a_ (blk_below (pk b1.out) hb)
     replace b2 := a_ (blk_below (pk b2.out) hb)
     replace b3 := a_ (blk_below (pk b3.out) hb)
     replace HB := a_ (below_step (by repeat (with_reducible first | exact HB.out | refine bz ?_ (by assumption) | apply bA | apply bN | apply bD)) hb)
     (try clear hb)
     (try clear hb2)
     (try clear hk)
     (try clear hi)
     refine hK.out _ _ ⟨(blk_cell b0.out 0).trans rfl, (blk_cell b0.out 1).trans rfl, (blk_cell b0.out 2).trans rfl, (blk_cell b0.out 3).trans rfl, (blk_cell b0.out 4).trans rfl, (blk_cell b0.out 5).trans rfl, (blk_cell b0.out 6).trans rfl, (blk_cell b1.out 0).trans rfl, (blk_cell b1.out 1).trans rfl, (blk_cell b1.out 2).trans rfl, (blk_cell b1.out 3).trans rfl⟩ (fun l0 => ?_)
     clear hK K
     refine norm_ (a' := ?_) ?_ ?_
     rotate_left
     ·show Act.put _ (some 50) _ = _
      simp only [Act.put, sB, sC, sD, i64_w, i32_w]
      rfl
     refine one_ (i := 6) (N := some 53) #[true, true, true, true, true, true, true, false, false, false, false, true, false, false, false] rfl rfl (one_of HT_.out (by kernel_rfl)) (by decide) (fun K hK => ?_)
     refine goes_ Try.func10 (by kernel_rfl) rfl #[.agg #[.int .i64 p0, .int .i64 p1, .int .i64 p3, .int .i64 p4, .int .i64 p5, .int .i64 p6, .int .i64 p7], .agg #[.bool p8, .int .i64 p9, .int .i64 q0, .int .i64 q1], .slice m8 t219.length m9, .slice n0 t222.length n1] (by rfl) rfl rfl (by (try simp only [lA, lB, lC]); first | done | rfl | (simp only [lD, lE]; rfl)) ?_
     with_reducible refine (impl_RunHold.calls k p0 p1 p3 p4 p5 p6 p7 p8 p9 q0 q1 _ _ t219 _ _ t222 i5 j5 j8 k0 k1 n7 _ ?side1 ?side2 ?side3 ?side4 O7.out).mono ?_
     (case side1 => exact cu (Kd.R_reads' g7.out).2.2)
     (case side2 => exact (Kd.R_reads' g7.out).2.1)
     (case side3 => exact cu (Kd.R_reads' i0.out).2.2)
     (case side4 => exact (Kd.R_reads' i0.out).2.1)
     rintro e P6 ⟨n8, rfl, ho0, hb⟩
     refine ⟨_, rfl, ?_⟩
     have m7 := a_ (Kd.R_lower (nw (nw (nw (nw (nw ho0 f0.out) f2.out) e9.out) g7.out) i0.out) (bs HB.out))
     replace f0 := a_ (Kd.R_elder' (rk f0.out) (Kd.R_base ho0) hb)
     replace f2 := a_ (Kd.R_elder' (rk f2.out) (Kd.R_base ho0) hb)
     replace e9 := a_ (Kd.R_elder' (rk e9.out) (Kd.R_base ho0) hb)
     replace g7 := a_ (Kd.R_elder' (rk g7.out) (Kd.R_base ho0) hb)
     replace i0 := a_ (Kd.R_elder' (rk i0.out) (Kd.R_base ho0) hb)
     replace b0 := a_ (blk_below (pk b0.out) hb)
     replace b1 := a_ (blk_below (pk b1.out) hb)
     replace b2 := a_ (blk_below (pk b2.out) hb)
     replace b3 := a_ (blk_below (pk b3.out) hb)
     replace HB := a_ (below_step (by repeat (with_reducible first | exact HB.out | refine bz ?_ (by assumption) | apply bA | apply bN | apply bD)) hb)
     (try clear hb)
     (try clear hb2)
     (try clear hk)
     (try clear hi)
     (try clear ho0)
     refine hK.out _ _ ⟨(blk_cell b0.out 0).trans rfl, (blk_cell b0.out 1).trans rfl, (blk_cell b0.out 2).trans rfl, (blk_cell b0.out 3).trans rfl, (blk_cell b0.out 4).trans rfl, (blk_cell b0.out 5).trans rfl, (blk_cell b0.out 6).trans rfl, (blk_cell b1.out 0).trans rfl, (blk_cell b1.out 1).trans rfl, (blk_cell b1.out 2).trans rfl, (blk_cell b1.out 3).trans rfl⟩ (fun l0 => ?_)
     clear hK K
     refine norm_ (a' := ?_) ?_ ?_
     rotate_left
     ·show Act.put _ (some 53) _ = _
      simp only [Act.put, sB, sC, sD, i64_w, i32_w]
      rfl
     refine pure_ (i := 7) (N := some 46) (v := ?_) (a' := ?_) #[true, true, true, true, true, true, true, true, false, false, false, true, false, false, false] rfl rfl (any_of HT_.out (by kernel_rfl)) (fun _ _ _ h => h) (Or.inl ⟨by rfl, ?_⟩) ?_ ?_
     rotate_left
     ·intro w'
      go_simp
      with_reducible rfl
     rotate_left
     ·simp only [Act.put, sB, sC, sD, i64_w, i32_w]
      rfl
     refine pure_ (i := 8) (N := some 54) (v := ?_) (a' := ?_) #[true, true, true, true, true, true, true, true, true, false, false, true, false, false, false] rfl rfl (any_of HT_.out (by kernel_rfl)) (fun _ _ _ h => h) (Or.inl ⟨by rfl, ?_⟩) ?_ ?_
     rotate_left
     ·intro w'
      go_simp
      with_reducible rfl
     rotate_left
     ·simp only [Act.put, sB, sC, sD, i64_w, i32_w]
      rfl
     refine pure_ (i := 9) (N := some 55) (v := ?_) (a' := ?_) #[true, true, true, true, true, true, true, true, true, true, false, true, false, false, false] rfl rfl (any_of HT_.out (by kernel_rfl)) (fun _ _ _ h => h) (Or.inl ⟨by rfl, ?_⟩) ?_ ?_
     rotate_left
     ·intro w'
      go_simp
      with_reducible rfl
     rotate_left
     ·simp only [Act.put, sB, sC, sD, i64_w, i32_w]
      rfl
     refine pure_ (i := 10) (N := some 56) (v := ?_) (a' := ?_) #[true, true, true, true, true, true, true, true, true, true, true, true, false, false, false] rfl rfl (any_of HT_.out (by kernel_rfl)) (fun _ _ _ h => h) (Or.inl ⟨by rfl, ?_⟩) ?_ ?_
     rotate_left
     ·intro w'
      go_simp
      with_reducible rfl
     rotate_left
     ·simp only [Act.put, sB, sC, sD, i64_w, i32_w]
      rfl
     exact norm_ (by simp only [putAll, Act.put, sB, sC, sD]) (hCont (n8, f1) _ ⟨l0, (rk (Kd.R_mono f0.out (fun _ hk => ⟨hk.1.1.1.1, hk.1.1.1.2, hk.1.1.2, hk.1.2, hk.2⟩))), (rk (Kd.R_mono f2.out (fun _ hk => ⟨hk.1.1.1.1, hk.1.1.1.2, hk.1.1.2, hk.1.2, hk.2⟩))), (rk (Kd.R_mono e9.out (fun _ hk => ⟨hk.1.1.1.1, hk.1.1.1.2, hk.1.1.2, hk.1.2, hk.2⟩))), (rk (Kd.R_mono g7.out (fun _ hk => ⟨hk.1.1.1.1.2, hk.1.1.1.2, hk.1.1.2, hk.1.2, hk.2⟩))), (rk (Kd.R_mono i0.out (fun _ hk => ⟨hk.1.1.1.1.2, hk.1.1.1.2, hk.1.1.2, hk.1.2, hk.2⟩))), (rk (Kd.R_mono m7.out (fun _ hk => ⟨hk.1.1.1.1.2, hk.1.1.1.2, hk.1.1.2, hk.1.2, hk.2⟩))), (pk b0.out), (pk b1.out), (pk b2.out), (pk b3.out), q2.out, q3.out, d0.out, k4.out, d3.out, k5.out, f4.out, j7.out, (by repeat (with_reducible first | exact HB.out | refine bz ?_ (by assumption) | apply bA | apply bN | apply bD))⟩)
   rintro ⟨n8, f1⟩ q4 ⟨hS_, h0_, h1_, h2_, h3_, h4_, h5_, h6_, h7_, h8_, h9_, h10_, h11_, h12_, h13_, h14_, h15_, h16_, h17_, h18_⟩
   have n0_ : Aside0 (Kd.R (Kd.int .i64) 3 q4 w.heap.size (fun k_ => N_ l5 k_ ∧ N_ h8 k_ ∧ N_ (.slice m8 t219.length m9) k_ ∧ N_ (.slice n0 t222.length n1) k_ ∧ N_ n8 k_) l4 t204) := ⟨h0_⟩
   have n1_ : Aside0 (Kd.R (Kd.int .i64) 3 q4 w.heap.size (fun k_ => N_ l4 k_ ∧ N_ h8 k_ ∧ N_ (.slice m8 t219.length m9) k_ ∧ N_ (.slice n0 t222.length n1) k_ ∧ N_ n8 k_) l5 t207) := ⟨h1_⟩
   have n2_ : Aside0 (Kd.R (Kd.int .i64) 3 q4 w.heap.size (fun k_ => N_ l4 k_ ∧ N_ l5 k_ ∧ N_ (.slice m8 t219.length m9) k_ ∧ N_ (.slice n0 t222.length n1) k_ ∧ N_ n8 k_) h8 g8) := ⟨h2_⟩
   have n3_ : Aside0 (Kd.R (Kd.int .i64) 3 q4 w.heap.size (fun k_ => N_ l4 k_ ∧ N_ l5 k_ ∧ N_ h8 k_ ∧ N_ (.slice n0 t222.length n1) k_ ∧ N_ n8 k_) (.slice m8 t219.length m9) t219) := ⟨h3_⟩
   have n4_ : Aside0 (Kd.R (Kd.int .i64) 3 q4 w.heap.size (fun k_ => N_ l4 k_ ∧ N_ l5 k_ ∧ N_ h8 k_ ∧ N_ (.slice m8 t219.length m9) k_ ∧ N_ n8 k_) (.slice n0 t222.length n1) t222) := ⟨h4_⟩
   have n5_ : Aside0 (Kd.R (Kd.int .i64) 3 q4 w.heap.size (fun k_ => N_ l4 k_ ∧ N_ l5 k_ ∧ N_ h8 k_ ∧ N_ (.slice m8 t219.length m9) k_ ∧ N_ (.slice n0 t222.length n1) k_) n8 i5) := ⟨h5_⟩
   have n6_ : Aside0 (q4.heap[h1]? = some (.cells #[.int .i64 a0_0, .int .i64 a0_1, .int .i64 a0_2, .int .i64 a0_3, .int .i64 a0_4, .int .i64 a0_5, .int .i64 a0_6] 23 (0, 0))) := ⟨h6_⟩
   have n7_ : Aside0 (q4.heap[j9]? = some (.cells #[.bool a1_0, .int .i64 a1_1, .int .i64 a1_2, .int .i64 a1_3] 25 (0, 0))) := ⟨h7_⟩
   have n8_ : Aside0 (q4.heap[f5]? = some (.cells #[.bool f8, .int .i64 f9, .int .i64 g0, .int .i64 g1] 27 (0, 0))) := ⟨h8_⟩
   have n9_ : Aside0 (q4.heap[f1]? = some (.cells #[.bool false, .int .i64 0, .int .i64 0, .int .i64 0] 27 (0, 0))) := ⟨h9_⟩
   have n10_ : Aside0 (w.heap.size ≤ f1) := ⟨h10_⟩
   have n11_ : Aside0 (w.heap.size ≤ f1) := ⟨h11_⟩
   have n12_ : Aside0 (h1 ≠ f1) := ⟨h12_⟩
   have n13_ : Aside0 (f1 ≠ h1) := ⟨h13_⟩
   have n14_ : Aside0 (j9 ≠ f1) := ⟨h14_⟩
   have n15_ : Aside0 (f1 ≠ j9) := ⟨h15_⟩
   have n16_ : Aside0 (f5 ≠ f1) := ⟨h16_⟩
   have n17_ : Aside0 (f1 ≠ f5) := ⟨h17_⟩
   have n18_ : Aside0 (Below w.heap.size w q4) := ⟨h18_⟩
   clear f0
   clear f2
   clear e9
   clear g7
   clear i0
   clear b0
   clear b1
   clear b2
   clear HB
   clear h0_ h1_ h2_ h3_ h4_ h5_ h6_ h7_ h8_ h9_ h10_ h11_ h12_ h13_ h14_ h15_ h16_ h17_ h18_
   have f0 := n0_
   have f2 := n1_
   have e9 := n2_
   have g7 := n3_
   have i0 := n4_
   have m7 := n5_
   have b0 := n6_
   have b1 := n7_
   have b2 := n8_
   have b3 := n9_
   have q2 := n10_
   have q3 := n11_
   have d0 := n12_
   have k4 := n13_
   have d3 := n14_
   have k5 := n15_
   have f4 := n16_
   have j7 := n17_
   have HB := n18_
   clear n0_ n1_ n2_ n3_ n4_ n5_ n6_ n7_ n8_ n9_ n10_ n11_ n12_ n13_ n14_ n15_ n16_ n17_ n18_
   have l0 : q4.cell? ⟨h1, 0, none⟩ = some (.int .i64 a0_0) ∧ q4.cell? ⟨h1, 1, none⟩ = some (.int .i64 a0_1) ∧ q4.cell? ⟨h1, 2, none⟩ = some (.int .i64 a0_2) ∧ q4.cell? ⟨h1, 3, none⟩ = some (.int .i64 a0_3) ∧ q4.cell? ⟨h1, 4, none⟩ = some (.int .i64 a0_4) ∧ q4.cell? ⟨h1, 5, none⟩ = some (.int .i64 a0_5) ∧ q4.cell? ⟨h1, 6, none⟩ = some (.int .i64 a0_6) ∧ q4.cell? ⟨j9, 0, none⟩ = some (.bool a1_0) ∧ q4.cell? ⟨j9, 1, none⟩ = some (.int .i64 a1_1) ∧ q4.cell? ⟨j9, 2, none⟩ = some (.int .i64 a1_2) ∧ q4.cell? ⟨j9, 3, none⟩ = some (.int .i64 a1_3) := hS_
   refine norm_ (a' := ?_) ?_ ?_
   rotate_left
   ·simp only [putAll, Act.put, sB, sC, sD]
    rfl
   refine pure_ (i := 12) (N := some 14) (v := ?_) (a' := ?_) #[true, true, true, true, true, true, true, true, true, true, true, true, true, false, false] rfl rfl (any_of HT_.out (by kernel_rfl)) (fun _ _ _ h => h) (Or.inl ⟨by rfl, ?_⟩) ?_ ?_
   rotate_left
   ·intro w'
    go_simp
    with_reducible rfl
   rotate_left
   ·simp only [Act.put, sB, sC, sD, i64_w, i32_w]
    rfl
   refine one_ (i := 13) (N := none) #[true, true, true, true, true, true, true, true, true, true, true, true, true, true, false] rfl rfl (one_of HT_.out (by kernel_rfl)) (by decide) (fun K hK => ?_)
   have hs48 : q4.cell? ⟨f1, 0, none⟩ = some (.bool false) := (blk_cell b3.out 0).trans rfl
   have hfs48 := blk_frozen b3.out 0
   have hns48_0 := d0.out
   have hns48_1 := d3.out
   have hns48_2 := f4.out
   have hms48_0 := k4.out
   have hms48_1 := k5.out
   have hms48_2 := j7.out
   have hs49 : q4.cell? ⟨f1, 1, none⟩ = some (.int .i64 0) := (blk_cell b3.out 1).trans rfl
   have hfs49 := blk_frozen b3.out 1
   have hns49_0 := d0.out
   have hns49_1 := d3.out
   have hns49_2 := f4.out
   have hms49_0 := k4.out
   have hms49_1 := k5.out
   have hms49_2 := j7.out
   have hs50 : q4.cell? ⟨f1, 2, none⟩ = some (.int .i64 0) := (blk_cell b3.out 2).trans rfl
   have hfs50 := blk_frozen b3.out 2
   have hns50_0 := d0.out
   have hns50_1 := d3.out
   have hns50_2 := f4.out
   have hms50_0 := k4.out
   have hms50_1 := k5.out
   have hms50_2 := j7.out
   have hs51 : q4.cell? ⟨f1, 3, none⟩ = some (.int .i64 0) := (blk_cell b3.out 3).trans rfl
   have hfs51 := blk_frozen b3.out 3
   have hns51_0 := d0.out
   have hns51_1 := d3.out
   have hns51_2 := f4.out
   have hms51_0 := k4.out
   have hms51_1 := k5.out
   have hms51_2 := j7.out
   refine skip_ (w1 := ?_) ?_ ?_ ?_ ?_
   rotate_left
   ·rfl
   ·rfl
   ·go_simp
    rfl
   refine hK.out _ _ ⟨((cell_far (p := ⟨f1, _, none⟩) d0.out _).trans (((cell_far (p := ⟨f1, _, none⟩) d0.out _).trans (((cell_far (p := ⟨f1, _, none⟩) d0.out _).trans (((cell_far (p := ⟨f1, _, none⟩) d0.out _).trans (l0.1)))))))), ((cell_far (p := ⟨f1, _, none⟩) d0.out _).trans (((cell_far (p := ⟨f1, _, none⟩) d0.out _).trans (((cell_far (p := ⟨f1, _, none⟩) d0.out _).trans (((cell_far (p := ⟨f1, _, none⟩) d0.out _).trans (l0.2.1)))))))), ((cell_far (p := ⟨f1, _, none⟩) d0.out _).trans (((cell_far (p := ⟨f1, _, none⟩) d0.out _).trans (((cell_far (p := ⟨f1, _, none⟩) d0.out _).trans (((cell_far (p := ⟨f1, _, none⟩) d0.out _).trans (l0.2.2.1)))))))), ((cell_far (p := ⟨f1, _, none⟩) d0.out _).trans (((cell_far (p := ⟨f1, _, none⟩) d0.out _).trans (((cell_far (p := ⟨f1, _, none⟩) d0.out _).trans (((cell_far (p := ⟨f1, _, none⟩) d0.out _).trans (l0.2.2.2.1)))))))), ((cell_far (p := ⟨f1, _, none⟩) d0.out _).trans (((cell_far (p := ⟨f1, _, none⟩) d0.out _).trans (((cell_far (p := ⟨f1, _, none⟩) d0.out _).trans (((cell_far (p := ⟨f1, _, none⟩) d0.out _).trans (l0.2.2.2.2.1)))))))), ((cell_far (p := ⟨f1, _, none⟩) d0.out _).trans (((cell_far (p := ⟨f1, _, none⟩) d0.out _).trans (((cell_far (p := ⟨f1, _, none⟩) d0.out _).trans (((cell_far (p := ⟨f1, _, none⟩) d0.out _).trans (l0.2.2.2.2.2.1)))))))), ((cell_far (p := ⟨f1, _, none⟩) d0.out _).trans (((cell_far (p := ⟨f1, _, none⟩) d0.out _).trans (((cell_far (p := ⟨f1, _, none⟩) d0.out _).trans (((cell_far (p := ⟨f1, _, none⟩) d0.out _).trans (l0.2.2.2.2.2.2.1)))))))), ((cell_far (p := ⟨f1, _, none⟩) d3.out _).trans (((cell_far (p := ⟨f1, _, none⟩) d3.out _).trans (((cell_far (p := ⟨f1, _, none⟩) d3.out _).trans (((cell_far (p := ⟨f1, _, none⟩) d3.out _).trans (l0.2.2.2.2.2.2.2.1)))))))), ((cell_far (p := ⟨f1, _, none⟩) d3.out _).trans (((cell_far (p := ⟨f1, _, none⟩) d3.out _).trans (((cell_far (p := ⟨f1, _, none⟩) d3.out _).trans (((cell_far (p := ⟨f1, _, none⟩) d3.out _).trans (l0.2.2.2.2.2.2.2.2.1)))))))), ((cell_far (p := ⟨f1, _, none⟩) d3.out _).trans (((cell_far (p := ⟨f1, _, none⟩) d3.out _).trans (((cell_far (p := ⟨f1, _, none⟩) d3.out _).trans (((cell_far (p := ⟨f1, _, none⟩) d3.out _).trans (l0.2.2.2.2.2.2.2.2.2.1)))))))), ((cell_far (p := ⟨f1, _, none⟩) d3.out _).trans (((cell_far (p := ⟨f1, _, none⟩) d3.out _).trans (((cell_far (p := ⟨f1, _, none⟩) d3.out _).trans (((cell_far (p := ⟨f1, _, none⟩) d3.out _).trans (l0.2.2.2.2.2.2.2.2.2.2))))))))⟩ (fun l0 => ?_)
   clear hK K
   refine pure_ (i := 14) (N := some 16) (v := ?_) (a' := ?_) #[true, true, true, true, true, true, true, true, true, true, true, true, true, true, true] rfl rfl (any_of HT_.out (by kernel_rfl)) (fun _ _ _ h => h) (Or.inl ⟨by rfl, ?_⟩) ?_ ?_
   rotate_left
   ·intro w'
    go_simp
    with_reducible rfl
   rotate_left
   ·simp only [Act.put, sB, sC, sD, i64_w, i32_w]
    rfl
   refine done_ (done_of HT_.out (by kernel_rfl)) ?_
   go_upto_region 9 with (fail)
   go_cut [71] (fun v71 wc => ∃ (kq : Nat) (x71_20 : Bool), v71 = .bool x71_20 ∧ Aside0 (laws_FnExactRunHold.j0 kq l2 l3 g8 i7 t219 t222 i5 n7 x71_20 a0_0 a0_1 a0_2 a0_3 a0_4 a0_5 a0_6 a1_0 a1_1 a1_2 a1_3 f8 f9 g0 g1 j5 j8 k0 k1 = some r) ∧ Aside0 (kq ≤ k) ∧ Aside0 (Kd.R (Kd.int .i64) 3 wc w.heap.size (fun k_ => some k_ ≠ ((.slice m8 t219.length m9) : Value).ownBlock ∧ some k_ ≠ ((.slice n0 t222.length n1) : Value).ownBlock ∧ N_ n8 k_) h8 g8) ∧ Aside0 (Kd.R (Kd.int .i64) 3 wc w.heap.size (fun k_ => N_ h8 k_ ∧ some k_ ≠ ((.slice n0 t222.length n1) : Value).ownBlock ∧ N_ n8 k_) (.slice m8 t219.length m9) t219) ∧ Aside0 (Kd.R (Kd.int .i64) 3 wc w.heap.size (fun k_ => N_ h8 k_ ∧ some k_ ≠ ((.slice m8 t219.length m9) : Value).ownBlock ∧ N_ n8 k_) (.slice n0 t222.length n1) t222) ∧ Aside0 (Kd.R (Kd.int .i64) 3 wc w.heap.size (fun k_ => N_ h8 k_ ∧ some k_ ≠ ((.slice m8 t219.length m9) : Value).ownBlock ∧ some k_ ≠ ((.slice n0 t222.length n1) : Value).ownBlock) n8 i5) ∧ Aside0 (wc.heap[h1]? = some (.cells #[.int .i64 a0_0, .int .i64 a0_1, .int .i64 a0_2, .int .i64 a0_3, .int .i64 a0_4, .int .i64 a0_5, .int .i64 a0_6] 23 (0, 0))) ∧ Aside0 (wc.heap[j9]? = some (.cells #[.bool a1_0, .int .i64 a1_1, .int .i64 a1_2, .int .i64 a1_3] 25 (0, 0))) ∧ Aside0 (wc.heap[f5]? = some (.cells #[.bool f8, .int .i64 f9, .int .i64 g0, .int .i64 g1] 27 (0, 0))) ∧ Aside0 (wc.heap[f1]? = some (.cells #[.bool j5, .int .i64 j8, .int .i64 k0, .int .i64 k1] 27 (0, 0))) ∧ Aside0 (Below w.heap.size w wc))
   case first =>
    have H := HC21.out
    clear HC21
    replace H := Option.bind_eq_some_iff.mp H
    obtain ⟨t245, L3, H⟩ := H
    have P7 := Aside0.mk L3
    clear L3
    by_cases c53 : t245 = true
    ·subst c53
     have H1 : ((laws_eqHold.f j5 j8 k0 k1 f8 f9 g0 g1).bind fun t246 => (if t246 = true then (laws_FnExactRunHold.j0 k l2 l3 g8 i7 t219 t222 i5 n7 (n7 != i7) a0_0 a0_1 a0_2 a0_3 a0_4 a0_5 a0_6 a1_0 a1_1 a1_2 a1_3 f8 f9 g0 g1 j5 j8 k0 k1) else (laws_FnExactRunHold.j0 k l2 l3 g8 i7 t219 t222 i5 n7 true a0_0 a0_1 a0_2 a0_3 a0_4 a0_5 a0_6 a1_0 a1_1 a1_2 a1_3 f8 f9 g0 g1 j5 j8 k0 k1))) = some r := by rw [if_pos rfl] at H; exact H
     clear H
     have H := H1
     clear H1
     replace H := Option.bind_eq_some_iff.mp H
     obtain ⟨t246, L4, H⟩ := H
     have Z3 := Aside0.mk L4
     clear L4
     by_cases c55 : t246 = true
     ·subst c55
      have H1 : (laws_FnExactRunHold.j0 k l2 l3 g8 i7 t219 t222 i5 n7 (n7 != i7) a0_0 a0_1 a0_2 a0_3 a0_4 a0_5 a0_6 a1_0 a1_1 a1_2 a1_3 f8 f9 g0 g1 j5 j8 k0 k1) = some r := by rw [if_pos rfl] at H; exact H
      clear H
      have H := H1
      clear H1
      have H' := Aside0.mk H
      clear H
      obtain ⟨P8, P9, Q0⟩ := Kd.R_slice m7.out
      subst Q0
      obtain ⟨Q1, Q2, Q3⟩ := Kd.R_slice e9.out
      subst Q3
      go_wp2_with (first | ((with_reducible refine gate_callee (f := 11) rfl ?_); refine goesL_ (some 59) rfl rfl Try.func11 (by kernel_rfl) rfl #[.slice P8 i5.length P9, .slice Q1 g8.length Q2] rfl (by (try simp only [lA, lB, lC]); first | done | rfl | (simp only [lD, lE]; rfl)) ?_; (with_reducible refine (laws_eqIntS.calls k _ _ i5 _ _ g8 true _ ?side1 ?side2 ?side3 ?side4 P7.out).mono ?_); (case side1 => exact cu (Kd.R_reads' (fr4 m7.out b3.out (by decide) 0 (.bool j5) 1 (.int .i64 j8) 2 (.int .i64 k0) 3 (.int .i64 k1))).2.2); (case side2 => exact (Kd.R_reads' m7.out).2.1); (case side3 => exact cu (Kd.R_reads' (fr4 e9.out b3.out (by decide) 0 (.bool j5) 1 (.int .i64 j8) 2 (.int .i64 k0) 3 (.int .i64 k1))).2.2); (case side4 => exact (Kd.R_reads' e9.out).2.1); rintro e w' ⟨rfl, ⟨nd, rfl⟩⟩; refine ⟨_, rfl, ?_⟩; have Z4 := k4.out; have Z5 := d0.out; have Z6 := k5.out; have Z7 := d3.out; have Z8 := j7.out; have Z9 := f4.out; have v2 : _ = some (Value.bool false) := (blk_cell b3.out 0).trans rfl; have v3 : _ = some (Value.int .i64 0) := (blk_cell b3.out 1).trans rfl; have v4 : _ = some (Value.int .i64 0) := (blk_cell b3.out 2).trans rfl; have v5 : _ = some (Value.int .i64 0) := (blk_cell b3.out 3).trans rfl; have v6 := blk_frozen b3.out 0; have v7 := blk_frozen b3.out 1; have v8 := blk_frozen b3.out 2; have v9 := blk_frozen b3.out 3; have Xa := k2.out; have Xb := j3.out; have Xc := k3.out; have Xd := j4.out; have w0 : _ = some (Value.bool f8) := (blk_cell b2.out 0).trans rfl; have w2 : _ = some (Value.int .i64 f9) := (blk_cell b2.out 1).trans rfl; have w3 : _ = some (Value.int .i64 g0) := (blk_cell b2.out 2).trans rfl; have w4 : _ = some (Value.int .i64 g1) := (blk_cell b2.out 3).trans rfl; have w5 := blk_frozen b2.out 0; have w8 := blk_frozen b2.out 1; have x0 := blk_frozen b2.out 2; have x1 := blk_frozen b2.out 3) | (go_at_call 12; (with_reducible refine (laws_eqHold.calls j5 j8 k0 k1 f8 f9 g0 g1 true _ Z3.out).mono ?_); rintro e Zm ⟨rfl, hb⟩; replace f0 := a_ (Kd.R_below (rk (Kd.R_mono (fr4 f0.out b3.out (by decide) 0 (.bool j5) 1 (.int .i64 j8) 2 (.int .i64 k0) 3 (.int .i64 k1)) (fun _ h_ => h_.1))) hb); replace f2 := a_ (Kd.R_below (rk (Kd.R_mono (fr4 f2.out b3.out (by decide) 0 (.bool j5) 1 (.int .i64 j8) 2 (.int .i64 k0) 3 (.int .i64 k1)) (fun _ h_ => h_.1))) hb); replace e9 := a_ (Kd.R_below (rk (Kd.R_mono (fr4 e9.out b3.out (by decide) 0 (.bool j5) 1 (.int .i64 j8) 2 (.int .i64 k0) 3 (.int .i64 k1)) (fun _ h_ => h_.1))) hb); replace g7 := a_ (Kd.R_below (rk (Kd.R_mono (fr4 g7.out b3.out (by decide) 0 (.bool j5) 1 (.int .i64 j8) 2 (.int .i64 k0) 3 (.int .i64 k1)) (fun _ h_ => h_.1))) hb); replace i0 := a_ (Kd.R_below (rk (Kd.R_mono (fr4 i0.out b3.out (by decide) 0 (.bool j5) 1 (.int .i64 j8) 2 (.int .i64 k0) 3 (.int .i64 k1)) (fun _ h_ => h_.1))) hb); replace m7 := a_ (Kd.R_below (rk (Kd.R_mono (fr4 m7.out b3.out (by decide) 0 (.bool j5) 1 (.int .i64 j8) 2 (.int .i64 k0) 3 (.int .i64 k1)) (fun _ h_ => h_.1))) hb); replace b0 := a_ (blk_below (g := h1) (o := .cells #[.int .i64 a0_0, .int .i64 a0_1, .int .i64 a0_2, .int .i64 a0_3, .int .i64 a0_4, .int .i64 a0_5, .int .i64 a0_6] 23 (0, 0)) (by refine pk ?_; refine blk_far ?_ d0.out _; refine pk ?_; refine blk_far ?_ d0.out _; refine pk ?_; refine blk_far ?_ d0.out _; refine pk ?_; refine blk_far ?_ d0.out _; refine pk ?_; exact b0.out) hb); replace b1 := a_ (blk_below (g := j9) (o := .cells #[.bool a1_0, .int .i64 a1_1, .int .i64 a1_2, .int .i64 a1_3] 25 (0, 0)) (by refine pk ?_; refine blk_far ?_ d3.out _; refine pk ?_; refine blk_far ?_ d3.out _; refine pk ?_; refine blk_far ?_ d3.out _; refine pk ?_; refine blk_far ?_ d3.out _; refine pk ?_; exact b1.out) hb); replace b2 := a_ (blk_below (g := f5) (o := .cells #[.bool f8, .int .i64 f9, .int .i64 g0, .int .i64 g1] 27 (0, 0)) (by refine pk ?_; refine blk_far ?_ f4.out _; refine pk ?_; refine blk_far ?_ f4.out _; refine pk ?_; refine blk_far ?_ f4.out _; refine pk ?_; refine blk_far ?_ f4.out _; refine pk ?_; exact b2.out) hb); replace b3 := a_ (blk_below (g := f1) (o := .cells #[.bool j5, .int .i64 j8, .int .i64 k0, .int .i64 k1] 27 (0, 0)) (by refine pk ?_; refine blk_put (cs := #[.bool j5, .int .i64 j8, .int .i64 k0, .int .i64 0]) ?_ 3 _ rfl; refine pk ?_; refine blk_put (cs := #[.bool j5, .int .i64 j8, .int .i64 0, .int .i64 0]) ?_ 2 _ rfl; refine pk ?_; refine blk_put (cs := #[.bool j5, .int .i64 0, .int .i64 0, .int .i64 0]) ?_ 1 _ rfl; refine pk ?_; refine blk_put (cs := #[.bool false, .int .i64 0, .int .i64 0, .int .i64 0]) ?_ 0 _ rfl; refine pk ?_; exact b3.out) hb); replace HB := a_ (below_step (by repeat (with_reducible first | exact HB.out | refine bz ?_ (by assumption) | apply bA | apply bN | apply bD)) hb); clear hb))
      go_meet
      case rel => exact ⟨_, ((n7 != i7)), (by first | rfl | (simp; done) | (simp [*]; done)), H', ⟨by first | omega | exact Nat.le_refl _⟩, ⟨rk (Kd.R_mono e9.out (fun _ hk => hk.2.2))⟩, ⟨rk (Kd.R_mono g7.out (fun _ hk => hk.2.2))⟩, ⟨rk (Kd.R_mono i0.out (fun _ hk => hk.2.2))⟩, ⟨rk (Kd.R_mono m7.out (fun _ hk => hk.2.2))⟩, ⟨pk b0.out⟩, ⟨pk b1.out⟩, ⟨pk b2.out⟩, ⟨pk b3.out⟩, ⟨by repeat (with_reducible first | exact HB.out | refine bz ?_ (by assumption) | apply bA | apply bN | apply bD)⟩⟩
     ·replace c55 := Bool.eq_false_iff.mpr c55
      subst c55
      have H1 : (laws_FnExactRunHold.j0 k l2 l3 g8 i7 t219 t222 i5 n7 true a0_0 a0_1 a0_2 a0_3 a0_4 a0_5 a0_6 a1_0 a1_1 a1_2 a1_3 f8 f9 g0 g1 j5 j8 k0 k1) = some r := by rw [if_neg (show ¬ (false = true) by decide)] at H; exact H
      clear H
      have H := H1
      clear H1
      have H' := Aside0.mk H
      clear H
      obtain ⟨Q4, Q5, Q6⟩ := Kd.R_slice m7.out
      subst Q6
      obtain ⟨Q7, Q8, Q9⟩ := Kd.R_slice e9.out
      subst Q9
      go_wp2_with (first | ((with_reducible refine gate_callee (f := 11) rfl ?_); refine goesL_ (some 59) rfl rfl Try.func11 (by kernel_rfl) rfl #[.slice Q4 i5.length Q5, .slice Q7 g8.length Q8] rfl (by (try simp only [lA, lB, lC]); first | done | rfl | (simp only [lD, lE]; rfl)) ?_; (with_reducible refine (laws_eqIntS.calls k _ _ i5 _ _ g8 true _ ?side1 ?side2 ?side3 ?side4 P7.out).mono ?_); (case side1 => exact cu (Kd.R_reads' (fr4 m7.out b3.out (by decide) 0 (.bool j5) 1 (.int .i64 j8) 2 (.int .i64 k0) 3 (.int .i64 k1))).2.2); (case side2 => exact (Kd.R_reads' m7.out).2.1); (case side3 => exact cu (Kd.R_reads' (fr4 e9.out b3.out (by decide) 0 (.bool j5) 1 (.int .i64 j8) 2 (.int .i64 k0) 3 (.int .i64 k1))).2.2); (case side4 => exact (Kd.R_reads' e9.out).2.1); rintro e w' ⟨rfl, ⟨nd, rfl⟩⟩; refine ⟨_, rfl, ?_⟩; have Xe := k4.out; have Xf := d0.out; have Xg := k5.out; have Xh := d3.out; have Xi := j7.out; have Xj := f4.out; have x4 : _ = some (Value.bool false) := (blk_cell b3.out 0).trans rfl; have x5 : _ = some (Value.int .i64 0) := (blk_cell b3.out 1).trans rfl; have x6 : _ = some (Value.int .i64 0) := (blk_cell b3.out 2).trans rfl; have x7 : _ = some (Value.int .i64 0) := (blk_cell b3.out 3).trans rfl; have x8 := blk_frozen b3.out 0; have z0 := blk_frozen b3.out 1; have z1 := blk_frozen b3.out 2; have z2 := blk_frozen b3.out 3; have Xk := k2.out; have Xl := j3.out; have Xm := k3.out; have Xn := j4.out; have z3 : _ = some (Value.bool f8) := (blk_cell b2.out 0).trans rfl; have z4 : _ = some (Value.int .i64 f9) := (blk_cell b2.out 1).trans rfl; have z5 : _ = some (Value.int .i64 g0) := (blk_cell b2.out 2).trans rfl; have z6 : _ = some (Value.int .i64 g1) := (blk_cell b2.out 3).trans rfl; have z7 := blk_frozen b2.out 0; have z8 := blk_frozen b2.out 1; have z9 := blk_frozen b2.out 2; have A0 := blk_frozen b2.out 3) | (go_at_call 12; (with_reducible refine (laws_eqHold.calls j5 j8 k0 k1 f8 f9 g0 g1 false _ Z3.out).mono ?_); rintro e Zn ⟨rfl, hb⟩; replace f0 := a_ (Kd.R_below (rk (Kd.R_mono (fr4 f0.out b3.out (by decide) 0 (.bool j5) 1 (.int .i64 j8) 2 (.int .i64 k0) 3 (.int .i64 k1)) (fun _ h_ => h_.1))) hb); replace f2 := a_ (Kd.R_below (rk (Kd.R_mono (fr4 f2.out b3.out (by decide) 0 (.bool j5) 1 (.int .i64 j8) 2 (.int .i64 k0) 3 (.int .i64 k1)) (fun _ h_ => h_.1))) hb); replace e9 := a_ (Kd.R_below (rk (Kd.R_mono (fr4 e9.out b3.out (by decide) 0 (.bool j5) 1 (.int .i64 j8) 2 (.int .i64 k0) 3 (.int .i64 k1)) (fun _ h_ => h_.1))) hb); replace g7 := a_ (Kd.R_below (rk (Kd.R_mono (fr4 g7.out b3.out (by decide) 0 (.bool j5) 1 (.int .i64 j8) 2 (.int .i64 k0) 3 (.int .i64 k1)) (fun _ h_ => h_.1))) hb); replace i0 := a_ (Kd.R_below (rk (Kd.R_mono (fr4 i0.out b3.out (by decide) 0 (.bool j5) 1 (.int .i64 j8) 2 (.int .i64 k0) 3 (.int .i64 k1)) (fun _ h_ => h_.1))) hb); replace m7 := a_ (Kd.R_below (rk (Kd.R_mono (fr4 m7.out b3.out (by decide) 0 (.bool j5) 1 (.int .i64 j8) 2 (.int .i64 k0) 3 (.int .i64 k1)) (fun _ h_ => h_.1))) hb); replace b0 := a_ (blk_below (g := h1) (o := .cells #[.int .i64 a0_0, .int .i64 a0_1, .int .i64 a0_2, .int .i64 a0_3, .int .i64 a0_4, .int .i64 a0_5, .int .i64 a0_6] 23 (0, 0)) (by refine pk ?_; refine blk_far ?_ d0.out _; refine pk ?_; refine blk_far ?_ d0.out _; refine pk ?_; refine blk_far ?_ d0.out _; refine pk ?_; refine blk_far ?_ d0.out _; refine pk ?_; exact b0.out) hb); replace b1 := a_ (blk_below (g := j9) (o := .cells #[.bool a1_0, .int .i64 a1_1, .int .i64 a1_2, .int .i64 a1_3] 25 (0, 0)) (by refine pk ?_; refine blk_far ?_ d3.out _; refine pk ?_; refine blk_far ?_ d3.out _; refine pk ?_; refine blk_far ?_ d3.out _; refine pk ?_; refine blk_far ?_ d3.out _; refine pk ?_; exact b1.out) hb); replace b2 := a_ (blk_below (g := f5) (o := .cells #[.bool f8, .int .i64 f9, .int .i64 g0, .int .i64 g1] 27 (0, 0)) (by refine pk ?_; refine blk_far ?_ f4.out _; refine pk ?_; refine blk_far ?_ f4.out _; refine pk ?_; refine blk_far ?_ f4.out _; refine pk ?_; refine blk_far ?_ f4.out _; refine pk ?_; exact b2.out) hb); replace b3 := a_ (blk_below (g := f1) (o := .cells #[.bool j5, .int .i64 j8, .int .i64 k0, .int .i64 k1] 27 (0, 0)) (by refine pk ?_; refine blk_put (cs := #[.bool j5, .int .i64 j8, .int .i64 k0, .int .i64 0]) ?_ 3 _ rfl; refine pk ?_; refine blk_put (cs := #[.bool j5, .int .i64 j8, .int .i64 0, .int .i64 0]) ?_ 2 _ rfl; refine pk ?_; refine blk_put (cs := #[.bool j5, .int .i64 0, .int .i64 0, .int .i64 0]) ?_ 1 _ rfl; refine pk ?_; refine blk_put (cs := #[.bool false, .int .i64 0, .int .i64 0, .int .i64 0]) ?_ 0 _ rfl; refine pk ?_; exact b3.out) hb); replace HB := a_ (below_step (by repeat (with_reducible first | exact HB.out | refine bz ?_ (by assumption) | apply bA | apply bN | apply bD)) hb); clear hb))
      go_meet
      case rel => exact ⟨_, (true), (by first | rfl | (simp; done) | (simp [*]; done)), H', ⟨by first | omega | exact Nat.le_refl _⟩, ⟨rk (Kd.R_mono e9.out (fun _ hk => hk.2.2))⟩, ⟨rk (Kd.R_mono g7.out (fun _ hk => hk.2.2))⟩, ⟨rk (Kd.R_mono i0.out (fun _ hk => hk.2.2))⟩, ⟨rk (Kd.R_mono m7.out (fun _ hk => hk.2.2))⟩, ⟨pk b0.out⟩, ⟨pk b1.out⟩, ⟨pk b2.out⟩, ⟨pk b3.out⟩, ⟨by repeat (with_reducible first | exact HB.out | refine bz ?_ (by assumption) | apply bA | apply bN | apply bD)⟩⟩
    ·replace c53 := Bool.eq_false_iff.mpr c53
     subst c53
     have H1 : (laws_FnExactRunHold.j0 k l2 l3 g8 i7 t219 t222 i5 n7 true a0_0 a0_1 a0_2 a0_3 a0_4 a0_5 a0_6 a1_0 a1_1 a1_2 a1_3 f8 f9 g0 g1 j5 j8 k0 k1) = some r := by rw [if_neg (show ¬ (false = true) by decide)] at H; exact H
     clear H
     have H := H1
     clear H1
     have H' := Aside0.mk H
     clear H
     obtain ⟨R0, R1, R2⟩ := Kd.R_slice m7.out
     subst R2
     obtain ⟨R3, R4, R5⟩ := Kd.R_slice e9.out
     subst R5
     go_wp2_with (first | ((with_reducible refine gate_callee (f := 11) rfl ?_); refine goesL_ (some 59) rfl rfl Try.func11 (by kernel_rfl) rfl #[.slice R0 i5.length R1, .slice R3 g8.length R4] rfl (by (try simp only [lA, lB, lC]); first | done | rfl | (simp only [lD, lE]; rfl)) ?_; (with_reducible refine (laws_eqIntS.calls k _ _ i5 _ _ g8 false _ ?side1 ?side2 ?side3 ?side4 P7.out).mono ?_); (case side1 => exact cu (Kd.R_reads' (fr4 m7.out b3.out (by decide) 0 (.bool j5) 1 (.int .i64 j8) 2 (.int .i64 k0) 3 (.int .i64 k1))).2.2); (case side2 => exact (Kd.R_reads' m7.out).2.1); (case side3 => exact cu (Kd.R_reads' (fr4 e9.out b3.out (by decide) 0 (.bool j5) 1 (.int .i64 j8) 2 (.int .i64 k0) 3 (.int .i64 k1))).2.2); (case side4 => exact (Kd.R_reads' e9.out).2.1); rintro e w' ⟨rfl, ⟨nd, rfl⟩⟩; refine ⟨_, rfl, ?_⟩))
     go_meet
     case rel => exact ⟨_, (true), (by first | rfl | (simp; done) | (simp [*]; done)), H', ⟨by first | omega | exact Nat.le_refl _⟩, ⟨rk (Kd.R_mono (fr4 e9.out b3.out (by decide) 0 (.bool j5) 1 (.int .i64 j8) 2 (.int .i64 k0) 3 (.int .i64 k1)) (fun _ hk => hk.1.2.2))⟩, ⟨rk (Kd.R_mono (fr4 g7.out b3.out (by decide) 0 (.bool j5) 1 (.int .i64 j8) 2 (.int .i64 k0) 3 (.int .i64 k1)) (fun _ hk => hk.1.2.2))⟩, ⟨rk (Kd.R_mono (fr4 i0.out b3.out (by decide) 0 (.bool j5) 1 (.int .i64 j8) 2 (.int .i64 k0) 3 (.int .i64 k1)) (fun _ hk => hk.1.2.2))⟩, ⟨rk (Kd.R_mono (fr4 m7.out b3.out (by decide) 0 (.bool j5) 1 (.int .i64 j8) 2 (.int .i64 k0) 3 (.int .i64 k1)) (fun _ hk => hk.1.2.2))⟩, ⟨by refine pk ?_; refine blk_far ?_ d0.out _; refine pk ?_; refine blk_far ?_ d0.out _; refine pk ?_; refine blk_far ?_ d0.out _; refine pk ?_; refine blk_far ?_ d0.out _; refine pk ?_; exact b0.out⟩, ⟨by refine pk ?_; refine blk_far ?_ d3.out _; refine pk ?_; refine blk_far ?_ d3.out _; refine pk ?_; refine blk_far ?_ d3.out _; refine pk ?_; refine blk_far ?_ d3.out _; refine pk ?_; exact b1.out⟩, ⟨by refine pk ?_; refine blk_far ?_ f4.out _; refine pk ?_; refine blk_far ?_ f4.out _; refine pk ?_; refine blk_far ?_ f4.out _; refine pk ?_; refine blk_far ?_ f4.out _; refine pk ?_; exact b2.out⟩, ⟨by refine pk ?_; refine blk_put (cs := #[.bool j5, .int .i64 j8, .int .i64 k0, .int .i64 0]) ?_ 3 _ rfl; refine pk ?_; refine blk_put (cs := #[.bool j5, .int .i64 j8, .int .i64 0, .int .i64 0]) ?_ 2 _ rfl; refine pk ?_; refine blk_put (cs := #[.bool j5, .int .i64 0, .int .i64 0, .int .i64 0]) ?_ 1 _ rfl; refine pk ?_; refine blk_put (cs := #[.bool false, .int .i64 0, .int .i64 0, .int .i64 0]) ?_ 0 _ rfl; refine pk ?_; exact b3.out⟩, ⟨by repeat (with_reducible first | exact HB.out | refine bz ?_ (by assumption) | apply bA | apply bN | apply bD)⟩⟩
   case rest =>
    clear HC21
    try clear c1; try clear p2; try clear c5; try clear c6; try clear c7; try clear c8; try clear c10; try clear c11; try clear c53; try clear c55; try clear c58; try clear c59; try clear c60; try clear c62; try clear c63; try clear c68; try clear c69; try clear c70; try clear c72; try clear c73; try clear v2; try clear v3; try clear v4; try clear v5; try clear w0; try clear w2; try clear w3; try clear w4; try clear x4; try clear x5; try clear x6; try clear x7; try clear z3; try clear z4; try clear z5; try clear z6; try clear v6; try clear v7; try clear v8; try clear v9; try clear w5; try clear w8; try clear x0; try clear x1; try clear x8; try clear z0; try clear z1; try clear z2; try clear z7; try clear z8; try clear z9; try clear A0
    obtain ⟨kq, x71_20, rfl, HA, u7, g2, n2, n3, d2, b0, b1, b2, b3, HB⟩ := hcut
    cases kq with
    | zero => exact absurd HA.out (by simp [laws_FnExactRunHold.j0])
    | succ l1 =>
     have H := HA.out
     clear HA
     simp only [laws_FnExactRunHold.j0] at H
     by_cases c78 : x71_20 = true
     ·subst c78
      have H1 : (none) = some r := by rw [if_pos rfl] at H; exact H
      clear H
      have H := H1
      clear H1
      exact absurd H (by simp)
     ·replace c78 := Bool.eq_false_iff.mpr c78
      subst c78
      have H1 : ((laws_toIntS.f l1 l2).bind fun t247 => ((laws_eqIntS.f l1 t219 t247).bind fun t250 => (if t250 = true then ((laws_toIntS.f l1 l3).bind fun t251 => ((laws_eqIntS.f l1 t222 t251).bind fun t254 => (if t254 = true then ((laws_markIntS.f l1 t219 1).bind fun bt255 => ((laws_markIntS.f l1 t222 bt255.1).bind fun bt257 => (if bt257.1 < 0 then (laws_FnExactRunHold.j1 l1 l2 l3 g8 i7 i5 true a0_0 a0_1 a0_2 a0_3 a0_4 a0_5 a0_6 a1_0 a1_1 a1_2 a1_3 f8 f9 g0 g1) else ((laws_eqIntS.f l1 i5 g8).bind fun t259 => (if t259 = true then ((laws_eqHold.f j5 j8 k0 k1 f8 f9 g0 g1).bind fun t260 => (if t260 = true then (laws_FnExactRunHold.j1 l1 l2 l3 g8 i7 i5 (n7 != i7) a0_0 a0_1 a0_2 a0_3 a0_4 a0_5 a0_6 a1_0 a1_1 a1_2 a1_3 f8 f9 g0 g1) else (laws_FnExactRunHold.j1 l1 l2 l3 g8 i7 i5 true a0_0 a0_1 a0_2 a0_3 a0_4 a0_5 a0_6 a1_0 a1_1 a1_2 a1_3 f8 f9 g0 g1))) else (laws_FnExactRunHold.j1 l1 l2 l3 g8 i7 i5 true a0_0 a0_1 a0_2 a0_3 a0_4 a0_5 a0_6 a1_0 a1_1 a1_2 a1_3 f8 f9 g0 g1)))))) else (none)))) else (none)))) = some r := by rw [if_neg (show ¬ (false = true) by decide)] at H; exact H
      clear H
      have H := H1
      clear H1
      replace H := Option.bind_eq_some_iff.mp H
      obtain ⟨t247, L5, H⟩ := H
      have Yq := Aside0.mk L5
      clear L5
      replace H := Option.bind_eq_some_iff.mp H
      obtain ⟨t250, L6, H⟩ := H
      have Yr := Aside0.mk L6
      clear L6
      by_cases c81 : t250 = true
      ·subst c81
       have H1 : ((laws_toIntS.f l1 l3).bind fun t251 => ((laws_eqIntS.f l1 t222 t251).bind fun t254 => (if t254 = true then ((laws_markIntS.f l1 t219 1).bind fun bt255 => ((laws_markIntS.f l1 t222 bt255.1).bind fun bt257 => (if bt257.1 < 0 then (laws_FnExactRunHold.j1 l1 l2 l3 g8 i7 i5 true a0_0 a0_1 a0_2 a0_3 a0_4 a0_5 a0_6 a1_0 a1_1 a1_2 a1_3 f8 f9 g0 g1) else ((laws_eqIntS.f l1 i5 g8).bind fun t259 => (if t259 = true then ((laws_eqHold.f j5 j8 k0 k1 f8 f9 g0 g1).bind fun t260 => (if t260 = true then (laws_FnExactRunHold.j1 l1 l2 l3 g8 i7 i5 (n7 != i7) a0_0 a0_1 a0_2 a0_3 a0_4 a0_5 a0_6 a1_0 a1_1 a1_2 a1_3 f8 f9 g0 g1) else (laws_FnExactRunHold.j1 l1 l2 l3 g8 i7 i5 true a0_0 a0_1 a0_2 a0_3 a0_4 a0_5 a0_6 a1_0 a1_1 a1_2 a1_3 f8 f9 g0 g1))) else (laws_FnExactRunHold.j1 l1 l2 l3 g8 i7 i5 true a0_0 a0_1 a0_2 a0_3 a0_4 a0_5 a0_6 a1_0 a1_1 a1_2 a1_3 f8 f9 g0 g1)))))) else (none)))) = some r := by rw [if_pos rfl] at H; exact H
       clear H
       have H := H1
       clear H1
       replace H := Option.bind_eq_some_iff.mp H
       obtain ⟨t251, L7, H⟩ := H
       have Ys := Aside0.mk L7
       clear L7
       replace H := Option.bind_eq_some_iff.mp H
       obtain ⟨t254, L8, H⟩ := H
       have Yt := Aside0.mk L8
       clear L8
       by_cases c84 : t254 = true
       ·subst c84
        have H1 : ((laws_markIntS.f l1 t219 1).bind fun bt255 => ((laws_markIntS.f l1 t222 bt255.1).bind fun bt257 => (if bt257.1 < 0 then (laws_FnExactRunHold.j1 l1 l2 l3 g8 i7 i5 true a0_0 a0_1 a0_2 a0_3 a0_4 a0_5 a0_6 a1_0 a1_1 a1_2 a1_3 f8 f9 g0 g1) else ((laws_eqIntS.f l1 i5 g8).bind fun t259 => (if t259 = true then ((laws_eqHold.f j5 j8 k0 k1 f8 f9 g0 g1).bind fun t260 => (if t260 = true then (laws_FnExactRunHold.j1 l1 l2 l3 g8 i7 i5 (n7 != i7) a0_0 a0_1 a0_2 a0_3 a0_4 a0_5 a0_6 a1_0 a1_1 a1_2 a1_3 f8 f9 g0 g1) else (laws_FnExactRunHold.j1 l1 l2 l3 g8 i7 i5 true a0_0 a0_1 a0_2 a0_3 a0_4 a0_5 a0_6 a1_0 a1_1 a1_2 a1_3 f8 f9 g0 g1))) else (laws_FnExactRunHold.j1 l1 l2 l3 g8 i7 i5 true a0_0 a0_1 a0_2 a0_3 a0_4 a0_5 a0_6 a1_0 a1_1 a1_2 a1_3 f8 f9 g0 g1)))))) = some r := by rw [if_pos rfl] at H; exact H
        clear H
        have H := H1
        clear H1
        replace H := Option.bind_eq_some_iff.mp H
        obtain ⟨⟨H4, R6⟩, L9, H⟩ := H
        replace H : ((laws_markIntS.f l1 t222 H4).bind fun bt257 => (if bt257.1 < 0 then (laws_FnExactRunHold.j1 l1 l2 l3 g8 i7 i5 true a0_0 a0_1 a0_2 a0_3 a0_4 a0_5 a0_6 a1_0 a1_1 a1_2 a1_3 f8 f9 g0 g1) else ((laws_eqIntS.f l1 i5 g8).bind fun t259 => (if t259 = true then ((laws_eqHold.f j5 j8 k0 k1 f8 f9 g0 g1).bind fun t260 => (if t260 = true then (laws_FnExactRunHold.j1 l1 l2 l3 g8 i7 i5 (n7 != i7) a0_0 a0_1 a0_2 a0_3 a0_4 a0_5 a0_6 a1_0 a1_1 a1_2 a1_3 f8 f9 g0 g1) else (laws_FnExactRunHold.j1 l1 l2 l3 g8 i7 i5 true a0_0 a0_1 a0_2 a0_3 a0_4 a0_5 a0_6 a1_0 a1_1 a1_2 a1_3 f8 f9 g0 g1))) else (laws_FnExactRunHold.j1 l1 l2 l3 g8 i7 i5 true a0_0 a0_1 a0_2 a0_3 a0_4 a0_5 a0_6 a1_0 a1_1 a1_2 a1_3 f8 f9 g0 g1))))) = some r := H
        have Yu := Aside0.mk L9
        clear L9
        replace H := Option.bind_eq_some_iff.mp H
        obtain ⟨⟨A4, R7⟩, M0, H⟩ := H
        replace H : (if A4 < 0 then (laws_FnExactRunHold.j1 l1 l2 l3 g8 i7 i5 true a0_0 a0_1 a0_2 a0_3 a0_4 a0_5 a0_6 a1_0 a1_1 a1_2 a1_3 f8 f9 g0 g1) else ((laws_eqIntS.f l1 i5 g8).bind fun t259 => (if t259 = true then ((laws_eqHold.f j5 j8 k0 k1 f8 f9 g0 g1).bind fun t260 => (if t260 = true then (laws_FnExactRunHold.j1 l1 l2 l3 g8 i7 i5 (n7 != i7) a0_0 a0_1 a0_2 a0_3 a0_4 a0_5 a0_6 a1_0 a1_1 a1_2 a1_3 f8 f9 g0 g1) else (laws_FnExactRunHold.j1 l1 l2 l3 g8 i7 i5 true a0_0 a0_1 a0_2 a0_3 a0_4 a0_5 a0_6 a1_0 a1_1 a1_2 a1_3 f8 f9 g0 g1))) else (laws_FnExactRunHold.j1 l1 l2 l3 g8 i7 i5 true a0_0 a0_1 a0_2 a0_3 a0_4 a0_5 a0_6 a1_0 a1_1 a1_2 a1_3 f8 f9 g0 g1)))) = some r := H
        have Yv := Aside0.mk M0
        clear M0
        have HC87 := Aside0.mk H
        clear H
        go_upto_region 18 with (first | ((with_reducible refine gate_callee (f := 9) rfl ?_); refine goesL_ (some 74) rfl rfl Try.func9 (by kernel_rfl) rfl #[.slice A2 l2.length c2] rfl (by (try simp only [lA, lB, lC]); first | done | rfl | (simp only [lD, lE]; rfl)) ?_; (with_reducible refine (laws_toIntS.calls l1 _ _ l2 t247 _ ?side1 ?side2 Yq.out).mono ?_); (case side1 => exact Kd.C_below HR2.out (un HB.out)); (case side2 => exact HC2.out); rintro e Zo ⟨Yw, rfl, ho0, hb⟩; refine ⟨_, rfl, ?_⟩; have o5 := a_ (Kd.R_lower (nw (nw (nw (nw ho0 g2.out) n2.out) n3.out) d2.out) (bs HB.out)); replace g2 := a_ (Kd.R_elder' (rk g2.out) (Kd.R_base ho0) hb); replace n2 := a_ (Kd.R_elder' (rk n2.out) (Kd.R_base ho0) hb); replace n3 := a_ (Kd.R_elder' (rk n3.out) (Kd.R_base ho0) hb); replace d2 := a_ (Kd.R_elder' (rk d2.out) (Kd.R_base ho0) hb); replace b0 := a_ (blk_below (pk b0.out) hb); replace b1 := a_ (blk_below (pk b1.out) hb); replace b2 := a_ (blk_below (pk b2.out) hb); replace b3 := a_ (blk_below (pk b3.out) hb); replace HB := a_ (below_step (by repeat (with_reducible first | exact HB.out | refine bz ?_ (by assumption) | apply bA | apply bN | apply bD)) hb); clear hb ho0; obtain ⟨r3, r4, R8⟩ := Kd.R_slice o5.out; subst R8) | ((with_reducible refine gate_callee (f := 11) rfl ?_); refine goesL_ (some 75) rfl rfl Try.func11 (by kernel_rfl) rfl #[.slice m8 t219.length m9, .slice r3 t247.length r4] rfl (by (try simp only [lA, lB, lC]); first | done | rfl | (simp only [lD, lE]; rfl)) ?_; (with_reducible refine (laws_eqIntS.calls l1 _ _ t219 _ _ t247 true _ ?side1 ?side2 ?side3 ?side4 Yr.out).mono ?_); (case side1 => exact cu (Kd.R_reads' n2.out).2.2); (case side2 => exact (Kd.R_reads' n2.out).2.1); (case side3 => exact cu (Kd.R_reads' o5.out).2.2); (case side4 => exact (Kd.R_reads' o5.out).2.1); rintro e w' ⟨rfl, ⟨nd, rfl⟩⟩; refine ⟨_, rfl, ?_⟩) | ((with_reducible refine gate_callee (f := 9) rfl ?_); refine goesL_ (some 79) rfl rfl Try.func9 (by kernel_rfl) rfl #[.slice A3 l3.length c3] rfl (by (try simp only [lA, lB, lC]); first | done | rfl | (simp only [lD, lE]; rfl)) ?_; (with_reducible refine (laws_toIntS.calls l1 _ _ l3 t251 _ ?side1 ?side2 Ys.out).mono ?_); (case side1 => repeat (first | exact (Kd.C_below HR3.out (by repeat (with_reducible first | exact HB.out | refine bz ?_ (by assumption) | apply bA | apply bN | apply bD))) | (with_reducible refine Kd.C_alloc ?_ _) | (with_reducible refine Kd.C_drewN ?_ _) | (with_reducible refine Kd.C_drew ?_))); (case side2 => exact HC3.out); rintro e Zp ⟨Yx, rfl, ho0, hb⟩; refine ⟨_, rfl, ?_⟩; have o6 := a_ (Kd.R_lower (nw (nw (nw (nw (nw ho0 g2.out) n2.out) n3.out) d2.out) o5.out) (bs HB.out)); replace g2 := a_ (Kd.R_elder' (rk g2.out) (Kd.R_base ho0) hb); replace n2 := a_ (Kd.R_elder' (rk n2.out) (Kd.R_base ho0) hb); replace n3 := a_ (Kd.R_elder' (rk n3.out) (Kd.R_base ho0) hb); replace d2 := a_ (Kd.R_elder' (rk d2.out) (Kd.R_base ho0) hb); replace o5 := a_ (Kd.R_elder' (rk o5.out) (Kd.R_base ho0) hb); replace b0 := a_ (blk_below (pk b0.out) hb); replace b1 := a_ (blk_below (pk b1.out) hb); replace b2 := a_ (blk_below (pk b2.out) hb); replace b3 := a_ (blk_below (pk b3.out) hb); replace HB := a_ (below_step (by repeat (with_reducible first | exact HB.out | refine bz ?_ (by assumption) | apply bA | apply bN | apply bD)) hb); clear hb ho0; obtain ⟨r5, r6, R9⟩ := Kd.R_slice o6.out; subst R9) | ((with_reducible refine gate_callee (f := 11) rfl ?_); refine goesL_ (some 80) rfl rfl Try.func11 (by kernel_rfl) rfl #[.slice n0 t222.length n1, .slice r5 t251.length r6] rfl (by (try simp only [lA, lB, lC]); first | done | rfl | (simp only [lD, lE]; rfl)) ?_; (with_reducible refine (laws_eqIntS.calls l1 _ _ t222 _ _ t251 true _ ?side1 ?side2 ?side3 ?side4 Yt.out).mono ?_); (case side1 => exact cu (Kd.R_reads' n3.out).2.2); (case side2 => exact (Kd.R_reads' n3.out).2.1); (case side3 => exact cu (Kd.R_reads' o6.out).2.2); (case side4 => exact (Kd.R_reads' o6.out).2.1); rintro e w' ⟨rfl, ⟨nd, rfl⟩⟩; refine ⟨_, rfl, ?_⟩) | ((with_reducible refine gate_callee (f := 13) rfl ?_); refine goesL_ (some 84) rfl rfl Try.func13 (by kernel_rfl) rfl #[.slice m8 t219.length m9, .int .i64 1] rfl (by (try simp only [lA, lB, lC]); first | done | rfl | (simp only [lD, lE]; rfl)) ?_; (with_reducible refine (laws_markIntS.calls l1 (fun k_ => some k_ = (.slice m8 t219.length m9 : Value).ownBlock) (.slice m8 t219.length m9) t219 1 H4 R6 w _ ?side1 ?side2 Yu.out).mono ?_); (case side1 => repeat (with_reducible first | exact HB.out | refine bz ?_ (by assumption) | apply bA | apply bN | apply bD)); (case side2 => exact Kd.R_tight rfl n2.out); rintro e Zq ⟨rfl, hy0, hb, hkp⟩; refine ⟨_, rfl, ?_⟩; replace g2 := a_ (Kd.R_mono (ok' := fun k_ => N_ (.slice m8 t219.length m9) k_ ∧ N_ (.slice n0 t222.length n1) k_ ∧ N_ n8 k_ ∧ N_ (.slice r3 t247.length r4) k_ ∧ N_ (.slice r5 t251.length r6) k_) (Kd.R_keptB (g2.out) hkp (fun k_ hk_ hs_ => (hk_.1.1.1) hs_)) (fun _ hk_ => ⟨hk_.1.1.1.1, hk_.1.1.1.2.1, hk_.1.1.1.2.2, hk_.1.1.2, hk_.1.2⟩)); replace n3 := a_ (Kd.R_mono (ok' := fun k_ => N_ h8 k_ ∧ N_ (.slice m8 t219.length m9) k_ ∧ N_ n8 k_ ∧ N_ (.slice r3 t247.length r4) k_ ∧ N_ (.slice r5 t251.length r6) k_) (Kd.R_keptB (n3.out) hkp (fun k_ hk_ hs_ => (hk_.1.1.2.1) hs_)) (fun _ hk_ => ⟨hk_.1.1.1.1, hk_.1.1.1.2.1, hk_.1.1.1.2.2, hk_.1.1.2, hk_.1.2⟩)); replace d2 := a_ (Kd.R_mono (ok' := fun k_ => N_ h8 k_ ∧ N_ (.slice m8 t219.length m9) k_ ∧ N_ (.slice n0 t222.length n1) k_ ∧ N_ (.slice r3 t247.length r4) k_ ∧ N_ (.slice r5 t251.length r6) k_) (Kd.R_keptB (d2.out) hkp (fun k_ hk_ hs_ => (hk_.1.1.2.1) hs_)) (fun _ hk_ => ⟨hk_.1.1.1.1, hk_.1.1.1.2.1, hk_.1.1.1.2.2, hk_.1.1.2, hk_.1.2⟩)); replace b0 := a_ (blk_kept (pk b0.out) hkp (Kd.R_ne n2.out b0.out (by decide))); replace b1 := a_ (blk_kept (pk b1.out) hkp (Kd.R_ne n2.out b1.out (by decide))); replace b2 := a_ (blk_kept (pk b2.out) hkp (Kd.R_ne n2.out b2.out (by decide))); replace b3 := a_ (blk_kept (pk b3.out) hkp (Kd.R_ne n2.out b3.out (by decide))); replace n2 := a_ (Kd.R_reok rfl hy0 (fun k_ e_ => n2.out.1 k_ e_)); replace o5 := a_ (Kd.R_mono (ok' := fun k_ => N_ h8 k_ ∧ N_ (.slice m8 t219.length m9) k_ ∧ N_ (.slice n0 t222.length n1) k_ ∧ N_ n8 k_ ∧ N_ (.slice r5 t251.length r6) k_) (Kd.R_keptB (o5.out) hkp (fun k_ hk_ hs_ => (hk_.1.1.1.2) hs_)) (fun _ hk_ => ⟨hk_.1.1.1.1.1.2, hk_.1.1.1.1.2, hk_.1.1.1.2, hk_.1.1.2, hk_.1.2⟩)); replace o6 := a_ (Kd.R_mono (ok' := fun k_ => N_ h8 k_ ∧ N_ (.slice m8 t219.length m9) k_ ∧ N_ (.slice n0 t222.length n1) k_ ∧ N_ n8 k_ ∧ N_ (.slice r3 t247.length r4) k_) (Kd.R_keptB (o6.out) hkp (fun k_ hk_ hs_ => (hk_.1.1.1.2) hs_)) (fun _ hk_ => ⟨hk_.1.1.1.1.1.2, hk_.1.1.1.1.2, hk_.1.1.1.2, hk_.1.1.2, hk_.1.2⟩)); replace HB := a_ (hb); clear hb hkp hy0) | ((with_reducible refine gate_callee (f := 13) rfl ?_); refine goesL_ (some 87) rfl rfl Try.func13 (by kernel_rfl) rfl #[.slice n0 t222.length n1, .int .i64 H4] rfl (by (try simp only [lA, lB, lC]); first | done | rfl | (simp only [lD, lE]; rfl)) ?_; (with_reducible refine (laws_markIntS.calls l1 (fun k_ => some k_ = (.slice n0 t222.length n1 : Value).ownBlock) (.slice n0 t222.length n1) t222 H4 A4 R7 w _ ?side1 ?side2 Yv.out).mono ?_); (case side1 => repeat (with_reducible first | exact HB.out | refine bz ?_ (by assumption) | apply bA | apply bN | apply bD)); (case side2 => exact Kd.R_tight rfl n3.out); rintro e Zr ⟨rfl, hy0, hb, hkp⟩; refine ⟨_, rfl, ?_⟩; replace g2 := a_ (Kd.R_mono (ok' := fun k_ => N_ (.slice m8 t219.length m9) k_ ∧ N_ (.slice n0 t222.length n1) k_ ∧ N_ n8 k_ ∧ N_ (.slice r3 t247.length r4) k_ ∧ N_ (.slice r5 t251.length r6) k_) (Kd.R_keptB (g2.out) hkp (fun k_ hk_ hs_ => (hk_.2.1) hs_)) (fun _ hk_ => hk_.1)); replace n2 := a_ (Kd.R_mono (ok' := fun k_ => N_ h8 k_ ∧ N_ (.slice n0 t222.length n1) k_ ∧ N_ n8 k_ ∧ N_ (.slice r3 t247.length r4) k_ ∧ N_ (.slice r5 t251.length r6) k_) (Kd.R_keptB (n2.out) hkp (fun k_ hk_ hs_ => (hk_.1.1.2.1) hs_)) (fun _ hk_ => ⟨hk_.1.1.1.1, hk_.1.1.1.2.1, hk_.1.1.1.2.2, hk_.1.1.2, hk_.1.2⟩)); replace d2 := a_ (Kd.R_mono (ok' := fun k_ => N_ h8 k_ ∧ N_ (.slice m8 t219.length m9) k_ ∧ N_ (.slice n0 t222.length n1) k_ ∧ N_ (.slice r3 t247.length r4) k_ ∧ N_ (.slice r5 t251.length r6) k_) (Kd.R_keptB (d2.out) hkp (fun k_ hk_ hs_ => (hk_.2.2.1) hs_)) (fun _ hk_ => hk_.1)); replace b0 := a_ (blk_kept (pk b0.out) hkp (Kd.R_ne n3.out b0.out (by decide))); replace b1 := a_ (blk_kept (pk b1.out) hkp (Kd.R_ne n3.out b1.out (by decide))); replace b2 := a_ (blk_kept (pk b2.out) hkp (Kd.R_ne n3.out b2.out (by decide))); replace b3 := a_ (blk_kept (pk b3.out) hkp (Kd.R_ne n3.out b3.out (by decide))); replace n3 := a_ (Kd.R_reok rfl hy0 (fun k_ e_ => n3.out.1 k_ e_)); replace o5 := a_ (Kd.R_mono (ok' := fun k_ => N_ h8 k_ ∧ N_ (.slice m8 t219.length m9) k_ ∧ N_ (.slice n0 t222.length n1) k_ ∧ N_ n8 k_ ∧ N_ (.slice r5 t251.length r6) k_) (Kd.R_keptB (o5.out) hkp (fun k_ hk_ hs_ => (hk_.2.2.1) hs_)) (fun _ hk_ => hk_.1)); replace o6 := a_ (Kd.R_mono (ok' := fun k_ => N_ h8 k_ ∧ N_ (.slice m8 t219.length m9) k_ ∧ N_ (.slice n0 t222.length n1) k_ ∧ N_ n8 k_ ∧ N_ (.slice r3 t247.length r4) k_) (Kd.R_keptB (o6.out) hkp (fun k_ hk_ hs_ => (hk_.2.2.1) hs_)) (fun _ hk_ => hk_.1)); replace HB := a_ (hb); clear hb hkp hy0))
        (try simp only [Act.put, sB, sC, sD])
        go_cut [106] (fun S0 wc => ∃ (kq : Nat) (x106_86 : Bool), S0 = .bool x106_86 ∧ Aside0 (laws_FnExactRunHold.j1 kq l2 l3 g8 i7 i5 x106_86 a0_0 a0_1 a0_2 a0_3 a0_4 a0_5 a0_6 a1_0 a1_1 a1_2 a1_3 f8 f9 g0 g1 = some r) ∧ Aside0 (kq ≤ l1) ∧ Aside0 (Kd.R (Kd.int .i64) 3 wc w.heap.size (fun k_ => N_ n8 k_) h8 g8) ∧ Aside0 (Kd.R (Kd.int .i64) 3 wc w.heap.size (fun k_ => N_ h8 k_) n8 i5) ∧ Aside0 (wc.heap[h1]? = some (.cells #[.int .i64 a0_0, .int .i64 a0_1, .int .i64 a0_2, .int .i64 a0_3, .int .i64 a0_4, .int .i64 a0_5, .int .i64 a0_6] 23 (0, 0))) ∧ Aside0 (wc.heap[j9]? = some (.cells #[.bool a1_0, .int .i64 a1_1, .int .i64 a1_2, .int .i64 a1_3] 25 (0, 0))) ∧ Aside0 (wc.heap[f5]? = some (.cells #[.bool f8, .int .i64 f9, .int .i64 g0, .int .i64 g1] 27 (0, 0))) ∧ Aside0 (wc.heap[f1]? = some (.cells #[.bool j5, .int .i64 j8, .int .i64 k0, .int .i64 k1] 27 (0, 0))) ∧ Aside0 (Below w.heap.size w wc))
        case first =>
         have H := HC87.out
         clear HC87
         by_cases c94 : A4 < 0
         ·rw [if_pos c94] at H
          have r0 : decide (A4 < 0) = true := decide_eq_true c94
          clear c94
          (first | rw [r0] | (simp only [i64_w, i32_w]; rw [r0]) | skip)
          have H' := Aside0.mk H
          clear H
          go_wp2
          go_meet
          case rel => exact ⟨_, (true), (by first | rfl | (simp; done) | (simp [*]; done)), H', ⟨by have := u7.out; first | omega | exact Nat.le_refl _⟩, ⟨rk (Kd.R_mono g2.out (fun _ hk => hk.2.2.1))⟩, ⟨rk (Kd.R_mono d2.out (fun _ hk => hk.1))⟩, ⟨pk b0.out⟩, ⟨pk b1.out⟩, ⟨pk b2.out⟩, ⟨pk b3.out⟩, ⟨by repeat (with_reducible first | exact HB.out | refine bz ?_ (by assumption) | apply bA | apply bN | apply bD)⟩⟩
         ·rw [if_neg c94] at H
          have r0 : decide (A4 < 0) = false := decide_eq_false c94
          clear c94
          (first | rw [r0] | (simp only [i64_w, i32_w]; rw [r0]) | skip)
          replace H := Option.bind_eq_some_iff.mp H
          obtain ⟨t259, M1, H⟩ := H
          have S1 := Aside0.mk M1
          clear M1
          by_cases c96 : t259 = true
          ·subst c96
           have H1 : ((laws_eqHold.f j5 j8 k0 k1 f8 f9 g0 g1).bind fun t260 => (if t260 = true then (laws_FnExactRunHold.j1 l1 l2 l3 g8 i7 i5 (n7 != i7) a0_0 a0_1 a0_2 a0_3 a0_4 a0_5 a0_6 a1_0 a1_1 a1_2 a1_3 f8 f9 g0 g1) else (laws_FnExactRunHold.j1 l1 l2 l3 g8 i7 i5 true a0_0 a0_1 a0_2 a0_3 a0_4 a0_5 a0_6 a1_0 a1_1 a1_2 a1_3 f8 f9 g0 g1))) = some r := by rw [if_pos rfl] at H; exact H
           clear H
           have H := H1
           clear H1
           replace H := Option.bind_eq_some_iff.mp H
           obtain ⟨t260, M2, H⟩ := H
           have Xo := Aside0.mk M2
           clear M2
           by_cases c98 : t260 = true
           ·subst c98
            have H1 : (laws_FnExactRunHold.j1 l1 l2 l3 g8 i7 i5 (n7 != i7) a0_0 a0_1 a0_2 a0_3 a0_4 a0_5 a0_6 a1_0 a1_1 a1_2 a1_3 f8 f9 g0 g1) = some r := by rw [if_pos rfl] at H; exact H
            clear H
            have H := H1
            clear H1
            have H' := Aside0.mk H
            clear H
            obtain ⟨Yy, Yz, S2⟩ := Kd.R_slice d2.out
            subst S2
            obtain ⟨Xp, Xq, M3⟩ := Kd.R_slice g2.out
            subst M3
            go_wp2_with (first | (go_at_call 11; (with_reducible refine (laws_eqIntS.calls l1 _ _ i5 _ _ g8 true _ ?side1 ?side2 ?side3 ?side4 S1.out).mono ?_); (case side1 => exact cu (Kd.R_reads' d2.out).2.2); (case side2 => exact (Kd.R_reads' d2.out).2.1); (case side3 => exact cu (Kd.R_reads' g2.out).2.2); (case side4 => exact (Kd.R_reads' g2.out).2.1); rintro e w' ⟨rfl, ⟨nd, rfl⟩⟩; have S3 := k4.out; have S4 := d0.out; have S5 := k5.out; have S6 := d3.out; have S7 := j7.out; have S8 := f4.out; have A5 : _ = some (Value.bool j5) := (blk_cell b3.out 0).trans rfl; have A6 : _ = some (Value.int .i64 j8) := (blk_cell b3.out 1).trans rfl; have A7 : _ = some (Value.int .i64 k0) := (blk_cell b3.out 2).trans rfl; have A8 : _ = some (Value.int .i64 k1) := (blk_cell b3.out 3).trans rfl; have A9 := blk_frozen b3.out 0; have B0 := blk_frozen b3.out 1; have B1 := blk_frozen b3.out 2; have B2 := blk_frozen b3.out 3; have S9 := k2.out; have T0 := j3.out; have T1 := k3.out; have T2 := j4.out; have B3 : _ = some (Value.bool f8) := (blk_cell b2.out 0).trans rfl; have B4 : _ = some (Value.int .i64 f9) := (blk_cell b2.out 1).trans rfl; have B6 : _ = some (Value.int .i64 g0) := (blk_cell b2.out 2).trans rfl; have B7 : _ = some (Value.int .i64 g1) := (blk_cell b2.out 3).trans rfl; have B9 := blk_frozen b2.out 0; have C0 := blk_frozen b2.out 1; have C1 := blk_frozen b2.out 2; have C2 := blk_frozen b2.out 3) | (go_at_call 12; (with_reducible refine (laws_eqHold.calls j5 j8 k0 k1 f8 f9 g0 g1 true _ Xo.out).mono ?_); rintro e Za ⟨rfl, hb⟩; replace g2 := a_ (Kd.R_below (rk g2.out) hb); replace n2 := a_ (Kd.R_below (rk n2.out) hb); replace n3 := a_ (Kd.R_below (rk n3.out) hb); replace d2 := a_ (Kd.R_below (rk d2.out) hb); replace o5 := a_ (Kd.R_below (rk o5.out) hb); replace o6 := a_ (Kd.R_below (rk o6.out) hb); replace b0 := a_ (blk_below (pk b0.out) hb); replace b1 := a_ (blk_below (pk b1.out) hb); replace b2 := a_ (blk_below (pk b2.out) hb); replace b3 := a_ (blk_below (pk b3.out) hb); replace HB := a_ (below_step (by repeat (with_reducible first | exact HB.out | refine bz ?_ (by assumption) | apply bA | apply bN | apply bD)) hb); clear hb))
            go_meet
            case rel => exact ⟨_, ((n7 != i7)), (by first | rfl | (simp; done) | (simp [*]; done)), H', ⟨by have := u7.out; first | omega | exact Nat.le_refl _⟩, ⟨rk (Kd.R_mono g2.out (fun _ hk => hk.2.2.1))⟩, ⟨rk (Kd.R_mono d2.out (fun _ hk => hk.1))⟩, ⟨pk b0.out⟩, ⟨pk b1.out⟩, ⟨pk b2.out⟩, ⟨pk b3.out⟩, ⟨by repeat (with_reducible first | exact HB.out | refine bz ?_ (by assumption) | apply bA | apply bN | apply bD)⟩⟩
           ·replace c98 := Bool.eq_false_iff.mpr c98
            subst c98
            have H1 : (laws_FnExactRunHold.j1 l1 l2 l3 g8 i7 i5 true a0_0 a0_1 a0_2 a0_3 a0_4 a0_5 a0_6 a1_0 a1_1 a1_2 a1_3 f8 f9 g0 g1) = some r := by rw [if_neg (show ¬ (false = true) by decide)] at H; exact H
            clear H
            have H := H1
            clear H1
            have H' := Aside0.mk H
            clear H
            obtain ⟨Xr, Xs, M4⟩ := Kd.R_slice d2.out
            subst M4
            obtain ⟨Xt, Xu, M5⟩ := Kd.R_slice g2.out
            subst M5
            go_wp2_with (first | (go_at_call 11; (with_reducible refine (laws_eqIntS.calls l1 _ _ i5 _ _ g8 true _ ?side1 ?side2 ?side3 ?side4 S1.out).mono ?_); (case side1 => exact cu (Kd.R_reads' d2.out).2.2); (case side2 => exact (Kd.R_reads' d2.out).2.1); (case side3 => exact cu (Kd.R_reads' g2.out).2.2); (case side4 => exact (Kd.R_reads' g2.out).2.1); rintro e w' ⟨rfl, ⟨nd, rfl⟩⟩; have T3 := k4.out; have T4 := d0.out; have T6 := k5.out; have T7 := d3.out; have T9 := j7.out; have U0 := f4.out; have C3 : _ = some (Value.bool j5) := (blk_cell b3.out 0).trans rfl; have C4 : _ = some (Value.int .i64 j8) := (blk_cell b3.out 1).trans rfl; have C5 : _ = some (Value.int .i64 k0) := (blk_cell b3.out 2).trans rfl; have C6 : _ = some (Value.int .i64 k1) := (blk_cell b3.out 3).trans rfl; have C7 := blk_frozen b3.out 0; have C8 := blk_frozen b3.out 1; have C9 := blk_frozen b3.out 2; have D0 := blk_frozen b3.out 3; have U1 := k2.out; have U2 := j3.out; have U3 := k3.out; have U4 := j4.out; have D1 : _ = some (Value.bool f8) := (blk_cell b2.out 0).trans rfl; have D2 : _ = some (Value.int .i64 f9) := (blk_cell b2.out 1).trans rfl; have D3 : _ = some (Value.int .i64 g0) := (blk_cell b2.out 2).trans rfl; have D4 : _ = some (Value.int .i64 g1) := (blk_cell b2.out 3).trans rfl; have D5 := blk_frozen b2.out 0; have D6 := blk_frozen b2.out 1; have D7 := blk_frozen b2.out 2; have D8 := blk_frozen b2.out 3) | (go_at_call 12; (with_reducible refine (laws_eqHold.calls j5 j8 k0 k1 f8 f9 g0 g1 false _ Xo.out).mono ?_); rintro e Zb ⟨rfl, hb⟩; replace g2 := a_ (Kd.R_below (rk g2.out) hb); replace n2 := a_ (Kd.R_below (rk n2.out) hb); replace n3 := a_ (Kd.R_below (rk n3.out) hb); replace d2 := a_ (Kd.R_below (rk d2.out) hb); replace o5 := a_ (Kd.R_below (rk o5.out) hb); replace o6 := a_ (Kd.R_below (rk o6.out) hb); replace b0 := a_ (blk_below (pk b0.out) hb); replace b1 := a_ (blk_below (pk b1.out) hb); replace b2 := a_ (blk_below (pk b2.out) hb); replace b3 := a_ (blk_below (pk b3.out) hb); replace HB := a_ (below_step (by repeat (with_reducible first | exact HB.out | refine bz ?_ (by assumption) | apply bA | apply bN | apply bD)) hb); clear hb))
            go_meet
            case rel => exact ⟨_, (true), (by first | rfl | (simp; done) | (simp [*]; done)), H', ⟨by have := u7.out; first | omega | exact Nat.le_refl _⟩, ⟨rk (Kd.R_mono g2.out (fun _ hk => hk.2.2.1))⟩, ⟨rk (Kd.R_mono d2.out (fun _ hk => hk.1))⟩, ⟨pk b0.out⟩, ⟨pk b1.out⟩, ⟨pk b2.out⟩, ⟨pk b3.out⟩, ⟨by repeat (with_reducible first | exact HB.out | refine bz ?_ (by assumption) | apply bA | apply bN | apply bD)⟩⟩
          ·replace c96 := Bool.eq_false_iff.mpr c96
           subst c96
           have H1 : (laws_FnExactRunHold.j1 l1 l2 l3 g8 i7 i5 true a0_0 a0_1 a0_2 a0_3 a0_4 a0_5 a0_6 a1_0 a1_1 a1_2 a1_3 f8 f9 g0 g1) = some r := by rw [if_neg (show ¬ (false = true) by decide)] at H; exact H
           clear H
           have H := H1
           clear H1
           have H' := Aside0.mk H
           clear H
           obtain ⟨Xv, Xw, M6⟩ := Kd.R_slice d2.out
           subst M6
           obtain ⟨Xx, Xy, M7⟩ := Kd.R_slice g2.out
           subst M7
           go_wp2_with (first | (go_at_call 11; (with_reducible refine (laws_eqIntS.calls l1 _ _ i5 _ _ g8 false _ ?side1 ?side2 ?side3 ?side4 S1.out).mono ?_); (case side1 => exact cu (Kd.R_reads' d2.out).2.2); (case side2 => exact (Kd.R_reads' d2.out).2.1); (case side3 => exact cu (Kd.R_reads' g2.out).2.2); (case side4 => exact (Kd.R_reads' g2.out).2.1); rintro e w' ⟨rfl, ⟨nd, rfl⟩⟩))
           go_meet
           case rel => exact ⟨_, (true), (by first | rfl | (simp; done) | (simp [*]; done)), H', ⟨by have := u7.out; first | omega | exact Nat.le_refl _⟩, ⟨rk (Kd.R_mono g2.out (fun _ hk => hk.2.2.1))⟩, ⟨rk (Kd.R_mono d2.out (fun _ hk => hk.1))⟩, ⟨pk b0.out⟩, ⟨pk b1.out⟩, ⟨pk b2.out⟩, ⟨pk b3.out⟩, ⟨by repeat (with_reducible first | exact HB.out | refine bz ?_ (by assumption) | apply bA | apply bN | apply bD)⟩⟩
        case rest =>
         clear HC87
         try clear c1; try clear c2; try clear p2; try clear c3; try clear c5; try clear c6; try clear c7; try clear c8; try clear c9; try clear c10; try clear c11; try clear c13; try clear c53; try clear c55; try clear c58; try clear c59; try clear c60; try clear c62; try clear c63; try clear c68; try clear c69; try clear c70; try clear c72; try clear c73; try clear c78; try clear c81; try clear c84; try clear c94; try clear r0; try clear c96; try clear c98; try clear c101; try clear c102; try clear c103; try clear c105; try clear c106; try clear c111; try clear c112; try clear c113; try clear c115; try clear c116; try clear A5; try clear A6; try clear A7; try clear A8; try clear B3; try clear B4; try clear B6; try clear B7; try clear C3; try clear C4; try clear C5; try clear C6; try clear D1; try clear D2; try clear D3; try clear D4; try clear v2; try clear v3; try clear v4; try clear v5; try clear w0; try clear w2; try clear w3; try clear w4; try clear x4; try clear x5; try clear x6; try clear x7; try clear z3; try clear z4; try clear z5; try clear z6; try clear A9; try clear B0; try clear B1; try clear B2; try clear B9; try clear C0; try clear C1; try clear C2; try clear C7; try clear C8; try clear C9; try clear D0; try clear D5; try clear D6; try clear D7; try clear D8; try clear v6; try clear v7; try clear v8; try clear v9; try clear w5; try clear w8; try clear x0; try clear x1; try clear x8; try clear z0; try clear z1; try clear z2; try clear z7; try clear z8; try clear z9; try clear A0; try clear p2
         obtain ⟨kq, x106_86, rfl, HA, J6, g2, d2, b0, b1, b2, b3, HB⟩ := hcut
         cases kq with
         | zero => exact absurd HA.out (by simp [laws_FnExactRunHold.j1])
         | succ l7 =>
          have H := HA.out
          clear HA
          simp only [laws_FnExactRunHold.j1] at H
          by_cases c121 : x106_86 = true
          ·subst c121
           have H1 : (none) = some r := by rw [if_pos rfl] at H; exact H
           clear H
           have H := H1
           clear H1
           exact absurd H (by simp)
          ·replace c121 := Bool.eq_false_iff.mpr c121
           subst c121
           have H1 : ((laws_markIntS.f l7 i5 1).bind fun bt261 => ((laws_heldIntS.f l7 bt261.2 1).bind fun t263 => (if t263 < 0 then (none) else (if t263 = bt261.1 then ((laws_toLoop.f a0_0 a0_1 a0_2 a0_3 a0_4 a0_5 a0_6).bind fun bt264 => ((laws_toHold.f a1_0 a1_1 a1_2 a1_3).bind fun bt271 => ((laws_toIntS.f l7 l2).bind fun t275 => ((laws_toIntS.f l7 l3).bind fun t278 => ((impl_RunHold.f l7 bt264.1 bt264.2.1 bt264.2.2.1 bt264.2.2.2.1 bt264.2.2.2.2.1 bt264.2.2.2.2.2.1 bt264.2.2.2.2.2.2 bt271.1 bt271.2.1 bt271.2.2.1 bt271.2.2.2 t275 t278).bind fun bt281 => ((laws_eqIntS.f l7 bt281.1 g8).bind fun t290 => (if t290 = true then ((laws_eqHold.f bt281.2.1 bt281.2.2.1 bt281.2.2.2.1 bt281.2.2.2.2.1 f8 f9 g0 g1).bind fun t291 => (if t291 = true then (laws_FnExactRunHold.j2 l7 bt261.2 bt261.1 (bt281.2.2.2.2.2 != i7)) else (laws_FnExactRunHold.j2 l7 bt261.2 bt261.1 true))) else (laws_FnExactRunHold.j2 l7 bt261.2 bt261.1 true)))))))) else (none))))) = some r := by rw [if_neg (show ¬ (false = true) by decide)] at H; exact H
           clear H
           have H := H1
           clear H1
           replace H := Option.bind_eq_some_iff.mp H
           obtain ⟨⟨n9, n6⟩, H9, H⟩ := H
           replace H : ((laws_heldIntS.f l7 n6 1).bind fun t263 => (if t263 < 0 then (none) else (if t263 = n9 then ((laws_toLoop.f a0_0 a0_1 a0_2 a0_3 a0_4 a0_5 a0_6).bind fun bt264 => ((laws_toHold.f a1_0 a1_1 a1_2 a1_3).bind fun bt271 => ((laws_toIntS.f l7 l2).bind fun t275 => ((laws_toIntS.f l7 l3).bind fun t278 => ((impl_RunHold.f l7 bt264.1 bt264.2.1 bt264.2.2.1 bt264.2.2.2.1 bt264.2.2.2.2.1 bt264.2.2.2.2.2.1 bt264.2.2.2.2.2.2 bt271.1 bt271.2.1 bt271.2.2.1 bt271.2.2.2 t275 t278).bind fun bt281 => ((laws_eqIntS.f l7 bt281.1 g8).bind fun t290 => (if t290 = true then ((laws_eqHold.f bt281.2.1 bt281.2.2.1 bt281.2.2.2.1 bt281.2.2.2.2.1 f8 f9 g0 g1).bind fun t291 => (if t291 = true then (laws_FnExactRunHold.j2 l7 n6 n9 (bt281.2.2.2.2.2 != i7)) else (laws_FnExactRunHold.j2 l7 n6 n9 true))) else (laws_FnExactRunHold.j2 l7 n6 n9 true)))))))) else (none)))) = some r := H
           have U5 := Aside0.mk H9
           clear H9
           replace H := Option.bind_eq_some_iff.mp H
           obtain ⟨t263, I0, H⟩ := H
           have U6 := Aside0.mk I0
           clear I0
           by_cases c124 : t263 < 0
           ·rw [if_pos c124] at H
            exact absurd H (by simp)
           ·rw [if_neg c124] at H
            have U7 : decide (t263 < 0) = false := decide_eq_false c124
            clear c124
            by_cases c125 : t263 = n9
            ·rw [if_pos c125] at H
             have U8 : (t263 == n9) = true := beq_iff_eq.mpr c125
             have U9 : (t263 != n9) = false := bne_eq_false_iff_eq.mpr c125
             clear c125
             replace H := Option.bind_eq_some_iff.mp H
             obtain ⟨⟨t4, t5, t6, t7, t8, t9, u0⟩, I1, H⟩ := H
             replace H : ((laws_toHold.f a1_0 a1_1 a1_2 a1_3).bind fun bt271 => ((laws_toIntS.f l7 l2).bind fun t275 => ((laws_toIntS.f l7 l3).bind fun t278 => ((impl_RunHold.f l7 t4 t5 t6 t7 t8 t9 u0 bt271.1 bt271.2.1 bt271.2.2.1 bt271.2.2.2 t275 t278).bind fun bt281 => ((laws_eqIntS.f l7 bt281.1 g8).bind fun t290 => (if t290 = true then ((laws_eqHold.f bt281.2.1 bt281.2.2.1 bt281.2.2.2.1 bt281.2.2.2.2.1 f8 f9 g0 g1).bind fun t291 => (if t291 = true then (laws_FnExactRunHold.j2 l7 n6 n9 (bt281.2.2.2.2.2 != i7)) else (laws_FnExactRunHold.j2 l7 n6 n9 true))) else (laws_FnExactRunHold.j2 l7 n6 n9 true))))))) = some r := H
             have V0 := Aside0.mk I1
             clear I1
             replace H := Option.bind_eq_some_iff.mp H
             obtain ⟨⟨u8, u9, v0, v1⟩, I2, H⟩ := H
             replace H : ((laws_toIntS.f l7 l2).bind fun t275 => ((laws_toIntS.f l7 l3).bind fun t278 => ((impl_RunHold.f l7 t4 t5 t6 t7 t8 t9 u0 u8 u9 v0 v1 t275 t278).bind fun bt281 => ((laws_eqIntS.f l7 bt281.1 g8).bind fun t290 => (if t290 = true then ((laws_eqHold.f bt281.2.1 bt281.2.2.1 bt281.2.2.2.1 bt281.2.2.2.2.1 f8 f9 g0 g1).bind fun t291 => (if t291 = true then (laws_FnExactRunHold.j2 l7 n6 n9 (bt281.2.2.2.2.2 != i7)) else (laws_FnExactRunHold.j2 l7 n6 n9 true))) else (laws_FnExactRunHold.j2 l7 n6 n9 true)))))) = some r := H
             have V1 := Aside0.mk I2
             clear I2
             replace H := Option.bind_eq_some_iff.mp H
             obtain ⟨t275, I3, H⟩ := H
             have V2 := Aside0.mk I3
             clear I3
             replace H := Option.bind_eq_some_iff.mp H
             obtain ⟨t278, I4, H⟩ := H
             have V3 := Aside0.mk I4
             clear I4
             replace H := Option.bind_eq_some_iff.mp H
             obtain ⟨⟨o9, o0, o1, o2, o3, o7⟩, I5, H⟩ := H
             replace H : ((laws_eqIntS.f l7 o9 g8).bind fun t290 => (if t290 = true then ((laws_eqHold.f o0 o1 o2 o3 f8 f9 g0 g1).bind fun t291 => (if t291 = true then (laws_FnExactRunHold.j2 l7 n6 n9 (o7 != i7)) else (laws_FnExactRunHold.j2 l7 n6 n9 true))) else (laws_FnExactRunHold.j2 l7 n6 n9 true))) = some r := H
             have H3 := Aside0.mk I5
             clear I5
             have HC131 := Aside0.mk H
             clear H
             obtain ⟨n4, n5, M8⟩ := Kd.R_slice d2.out
             subst M8
             try go_wp2_with (first | ((with_reducible refine gate_callee (f := 13) rfl ?_); refine goesL_ (some 109) rfl rfl Try.func13 (by kernel_rfl) rfl #[.slice n4 i5.length n5, .int .i64 1] rfl (by (try simp only [lA, lB, lC]); first | done | rfl | (simp only [lD, lE]; rfl)) ?_; (with_reducible refine (laws_markIntS.calls l7 (fun k_ => some k_ = (.slice n4 i5.length n5 : Value).ownBlock) (.slice n4 i5.length n5) i5 1 n9 n6 w _ ?side1 ?side2 U5.out).mono ?_); (case side1 => repeat (with_reducible first | exact HB.out | refine bz ?_ (by assumption) | apply bA | apply bN | apply bD)); (case side2 => exact Kd.R_tight rfl d2.out); rintro e q5 ⟨rfl, hy0, hb, hkp⟩; refine ⟨_, rfl, ?_⟩; replace g2 := a_ (Kd.R_mono (ok' := fun k_ => N_ (.slice n4 i5.length n5) k_) (Kd.R_keptB (g2.out) hkp (fun k_ hk_ hs_ => (hk_) hs_)) (fun k_ hk_ => hk_.1)); replace b0 := a_ (blk_kept (pk b0.out) hkp (Kd.R_ne d2.out b0.out (by decide))); replace b1 := a_ (blk_kept (pk b1.out) hkp (Kd.R_ne d2.out b1.out (by decide))); replace b2 := a_ (blk_kept (pk b2.out) hkp (Kd.R_ne d2.out b2.out (by decide))); replace b3 := a_ (blk_kept (pk b3.out) hkp (Kd.R_ne d2.out b3.out (by decide))); replace d2 := a_ (Kd.R_reok rfl hy0 (fun k_ e_ => d2.out.1 k_ e_)); replace HB := a_ (hb); clear hb hkp hy0) | ((with_reducible refine gate_callee (f := 14) rfl ?_); refine goesL_ (some 112) rfl rfl Try.func14 (by kernel_rfl) rfl #[.slice n4 n6.length n5, .int .i64 1] rfl (by (try simp only [lA, lB, lC]); first | done | (rw [show n6.length = i5.length from (Kd.R_reads' d2.out).1.symm] <;> rfl) | rfl | (simp only [lD, lE]; rfl)) ?_; (with_reducible refine (laws_heldIntS.calls l7 _ _ n6 1 t263 _ ?side1 ?side2 U6.out).mono ?_); (case side1 => exact cu (Kd.R_reads' d2.out).2.2); (case side2 => rw [show n6.length = i5.length from (Kd.R_reads' d2.out).1.symm]; exact (Kd.R_reads' d2.out).2.1); rintro e w' ⟨rfl, ⟨nd, rfl⟩⟩; refine ⟨_, rfl, ?_⟩; (try (rw [drewN_self q5]; generalize hq_ : World.drewN q5 _ = q5; have n0_ : Aside0 (Kd.R (Kd.int .i64) 3 q5 w.heap.size (fun k_ => N_ h8 k_) (.slice n4 i5.length n5) n6) := ⟨by rw [← hq_]; exact (rk d2.out)⟩; have n1_ : Aside0 (Kd.R (Kd.int .i64) 3 q5 w.heap.size (fun k_ => N_ (.slice n4 i5.length n5) k_) h8 g8) := ⟨by rw [← hq_]; exact (rk g2.out)⟩; have n2_ : Aside0 (q5.heap[h1]? = some (.cells #[.int .i64 a0_0, .int .i64 a0_1, .int .i64 a0_2, .int .i64 a0_3, .int .i64 a0_4, .int .i64 a0_5, .int .i64 a0_6] 23 (0, 0))) := ⟨by rw [← hq_]; exact (pk b0.out)⟩; have n3_ : Aside0 (q5.heap[j9]? = some (.cells #[.bool a1_0, .int .i64 a1_1, .int .i64 a1_2, .int .i64 a1_3] 25 (0, 0))) := ⟨by rw [← hq_]; exact (pk b1.out)⟩; have n4_ : Aside0 (q5.heap[f5]? = some (.cells #[.bool f8, .int .i64 f9, .int .i64 g0, .int .i64 g1] 27 (0, 0))) := ⟨by rw [← hq_]; exact (pk b2.out)⟩; have n5_ : Aside0 (q5.heap[f1]? = some (.cells #[.bool j5, .int .i64 j8, .int .i64 k0, .int .i64 k1] 27 (0, 0))) := ⟨by rw [← hq_]; exact (pk b3.out)⟩; have n6_ : Aside0 (Below w.heap.size w q5) := ⟨by rw [← hq_]; exact (by repeat (with_reducible first | exact HB.out | refine bz ?_ (by assumption) | apply bA | apply bN | apply bD))⟩; clear d2 g2 b0 b1 b2 b3 HB hq_; have d2 := n0_; have g2 := n1_; have b0 := n2_; have b1 := n3_; have b2 := n4_; have b3 := n5_; have HB := n6_; clear n0_ n1_ n2_ n3_ n4_ n5_ n6_))))
             replace g2 := a_ (Kd.R_drew g2.out)
             replace d2 := a_ (Kd.R_drew d2.out)
             replace b0 := a_ (blk_drew b0.out)
             replace b1 := a_ (blk_drew b1.out)
             replace b2 := a_ (blk_drew b2.out)
             replace b3 := a_ (blk_drew b3.out)
             replace HB := a_ (below_drew1 HB.out)
             refine start_ (n := 17) (S := fun w' => True) (ds := []) #[false, false, false, false, false, false, false, false, false, false, false, false, false, false, false, false, false] (by kernel_rfl) rfl rfl trivial (fun l0 => ?_); refine with_tabW laws_FnExactRunHold.tab28 laws_FnExactRunHold.bits28 (fun HT_ HW_ => ?_)
             generalize q5.drew = Zc at g2 d2 b0 b1 b2 b3 HB l0 ⊢
             refine pure_ (i := 4) (N := some 123) (v := ?_) (a' := ?_) #[false, false, false, false, true, false, false, false, false, false, false, false, false, false, false, false, false] rfl rfl (any_of HT_.out (by kernel_rfl)) (fun _ _ _ h => h) (Or.inl ⟨by rfl, ?_⟩) ?_ ?_
             rotate_left
             ·intro w'
              go_simp
              with_reducible rfl
             rotate_left
             ·simp only [Act.put, sB, sC, sD, i64_w, i32_w]
              rfl
             refine pure_ (i := 6) (N := some 125) (v := ?_) (a' := ?_) #[false, false, false, false, true, false, true, false, false, false, false, false, false, false, false, false, false] rfl rfl (any_of HT_.out (by kernel_rfl)) (fun _ _ _ h => h) (Or.inl ⟨by rfl, ?_⟩) ?_ ?_
             rotate_left
             ·intro w'
              go_simp
              with_reducible rfl
             rotate_left
             ·simp only [Act.put, sB, sC, sD, i64_w, i32_w]
              rfl
             refine inv_at [0, 1, 2, 3, 5, 7, 8, 9, 10, 11, 12, 13, 14, 15, 16] (fun a0_ b a w' => ∃ (m5 : Value) (m6 : Value) (m3 : Value) (g6 : Nat) (m8_ : Value) (m9_ : Value) (m10_ : Value) (m13_ : Value) (m14_ : Value), a = putSel a0_ b [(0, 119, .agg #[.int .i64 a0_0, .int .i64 a0_1, .int .i64 a0_2, .int .i64 a0_3, .int .i64 a0_4, .int .i64 a0_5, .int .i64 a0_6]), (1, 120, .agg #[.int .i64 t4, .int .i64 t5, .int .i64 t6, .int .i64 t7, .int .i64 t8, .int .i64 t9, .int .i64 u0]), (2, 121, .agg #[.bool a1_0, .int .i64 a1_1, .int .i64 a1_2, .int .i64 a1_3]), (3, 122, .agg #[.bool u8, .int .i64 u9, .int .i64 v0, .int .i64 v1]), (5, 124, m5), (7, 126, m6), (8, 127, m8_), (9, 118, m9_), (10, 128, m10_), (11, 129, .agg #[.bool o0, .int .i64 o1, .int .i64 o2, .int .i64 o3]), (12, 130, .bool o7), (13, 21, m13_), (14, 20, m14_), (16, 22, .bool o7)] ∧ (Kd.R (Kd.int .i64) 3 w' w.heap.size (fun k_ => N_ h8 k_) (.slice n4 i5.length n5) n6) ∧ (Kd.R (Kd.int .i64) 3 w' w.heap.size (fun k_ => N_ (.slice n4 i5.length n5) k_) h8 g8) ∧ (w'.heap[h1]? = some (.cells #[.int .i64 a0_0, .int .i64 a0_1, .int .i64 a0_2, .int .i64 a0_3, .int .i64 a0_4, .int .i64 a0_5, .int .i64 a0_6] 23 (0, 0))) ∧ (w'.heap[j9]? = some (.cells #[.bool a1_0, .int .i64 a1_1, .int .i64 a1_2, .int .i64 a1_3] 25 (0, 0))) ∧ (w'.heap[f5]? = some (.cells #[.bool f8, .int .i64 f9, .int .i64 g0, .int .i64 g1] 27 (0, 0))) ∧ (w'.heap[f1]? = some (.cells #[.bool j5, .int .i64 j8, .int .i64 k0, .int .i64 k1] 27 (0, 0))) ∧ (Below w.heap.size w w') ∧ (b 5 = true → Kd.R (Kd.int .i64) 3 w' w.heap.size (fun k_ => N_ (.slice n4 i5.length n5) k_ ∧ N_ h8 k_) m5 t275) ∧ (b 7 = true → Kd.R (Kd.int .i64) 3 w' w.heap.size (fun k_ => N_ (.slice n4 i5.length n5) k_ ∧ N_ h8 k_) m6 t278) ∧ (b 8 = true → Kd.R (Kd.int .i64) 3 w' w.heap.size (fun k_ => N_ (.slice n4 i5.length n5) k_ ∧ N_ h8 k_) m3 o9) ∧ (b 13 = true → b 15 = false → w'.heap[g6]? = some (.cells #[.bool false, .int .i64 0, .int .i64 0, .int .i64 0] 27 (0, 0))) ∧ (b 13 = true → w.heap.size ≤ g6) ∧ (b 13 = true → w.heap.size ≤ g6) ∧ (b 13 = true → h1 ≠ g6) ∧ (b 13 = true → g6 ≠ h1) ∧ (b 13 = true → j9 ≠ g6) ∧ (b 13 = true → g6 ≠ j9) ∧ (b 13 = true → f5 ≠ g6) ∧ (b 13 = true → g6 ≠ f5) ∧ (b 13 = true → f1 ≠ g6) ∧ (b 13 = true → g6 ≠ f1) ∧ (b 15 = true → w'.heap[g6]? = some (.cells #[.bool o0, .int .i64 o1, .int .i64 o2, .int .i64 o3] 27 (0, 0))) ∧ (b 5 = true → b 7 = true → ∀ k_, m6.ownBlock = some k_ → N_ m5 k_) ∧ (b 5 = true → b 8 = true → ∀ k_, m3.ownBlock = some k_ → N_ m5 k_) ∧ (b 7 = true → b 8 = true → ∀ k_, m3.ownBlock = some k_ → N_ m6 k_) ∧ (b 8 = true → (m8_ : Value) = .tuple #[m3, .agg #[.bool o0, .int .i64 o1, .int .i64 o2, .int .i64 o3], .bool o7]) ∧ (b 9 = true → (m9_ : Value) = .tuple #[m3, .agg #[.bool o0, .int .i64 o1, .int .i64 o2, .int .i64 o3], .bool o7]) ∧ (b 10 = true → (m10_ : Value) = m3) ∧ (b 13 = true → (m13_ : Value) = .pointer (some ⟨g6, 0, none⟩)) ∧ (b 14 = true → (m14_ : Value) = m3)) HT_.out HW_.out (by kernel_rfl) (by kernel_rfl) ?_ ?_ ?_
             ·exact ⟨.bool false, .bool false, .bool false, 0, .bool false, .bool false, .bool false, .bool false, .bool false, by simp only [putSel, Bool.false_eq_true, if_false], d2.out, g2.out, b0.out, b1.out, b2.out, b3.out, HB.out, fun h_ => absurd h_ (by decide), fun h_ => absurd h_ (by decide), fun h_ => absurd h_ (by decide), fun h_ => absurd h_ (by decide), fun h_ => absurd h_ (by decide), fun h_ => absurd h_ (by decide), fun h_ => absurd h_ (by decide), fun h_ => absurd h_ (by decide), fun h_ => absurd h_ (by decide), fun h_ => absurd h_ (by decide), fun h_ => absurd h_ (by decide), fun h_ => absurd h_ (by decide), fun h_ => absurd h_ (by decide), fun h_ => absurd h_ (by decide), fun h_ => absurd h_ (by decide), fun h_ => absurd h_ (by decide), fun h_ => absurd h_ (by decide), fun h_ => absurd h_ (by decide), fun h_ => absurd h_ (by decide), fun h_ => absurd h_ (by decide), fun h_ => absurd h_ (by decide), fun h_ => absurd h_ (by decide), fun h_ => absurd h_ (by decide)⟩
             ·skip
              clear b0 b1 b2 b3 HB d2 g2
              refine steps_cons ?_ ?_
              ·rintro b a w' ⟨m5, m6, m3, g6, m8_, m9_, m10_, m13_, m14_, ha, f6, i4, c0, c4, d1, f7, i3, h0, h5, i2, i9, h6, h7, d8, d9, e0, e1, e2, e3, e6, e7, g5, b5, b8, b9, i8, i6, g3, e8, h9⟩ hb_ hon hoff
               refine ⟨_, rfl, fun K hK => ?_⟩
               have e4 : a.tmps[4]? = some (.pointer (some ⟨h1, 0, none⟩)) := by rw [ha]; exact (putSel_off rfl).trans rfl
               replace ha := Aside0.mk ha
               have d2 := Aside0.mk f6
               have g2 := Aside0.mk i4
               have b0 := Aside0.mk c0
               have b1 := Aside0.mk c4
               have b2 := Aside0.mk d1
               have b3 := Aside0.mk f7
               have HB := Aside0.mk i3
               have hc0_ : w'.cell? ⟨h1, 0, none⟩ = some (.int .i64 a0_0) := (blk_cell b0.out 0).trans rfl
               have hc1_ : w'.cell? ⟨h1, 1, none⟩ = some (.int .i64 a0_1) := (blk_cell b0.out 1).trans rfl
               have hc2_ : w'.cell? ⟨h1, 2, none⟩ = some (.int .i64 a0_2) := (blk_cell b0.out 2).trans rfl
               have hc3_ : w'.cell? ⟨h1, 3, none⟩ = some (.int .i64 a0_3) := (blk_cell b0.out 3).trans rfl
               have hc4_ : w'.cell? ⟨h1, 4, none⟩ = some (.int .i64 a0_4) := (blk_cell b0.out 4).trans rfl
               have hc5_ : w'.cell? ⟨h1, 5, none⟩ = some (.int .i64 a0_5) := (blk_cell b0.out 5).trans rfl
               have hc6_ : w'.cell? ⟨h1, 6, none⟩ = some (.int .i64 a0_6) := (blk_cell b0.out 6).trans rfl
               refine value_ (w1 := w') (v := .agg #[.int .i64 a0_0, .int .i64 a0_1, .int .i64 a0_2, .int .i64 a0_3, .int .i64 a0_4, .int .i64 a0_5, .int .i64 a0_6]) (by rfl) rfl ?_ ?_
               ·go_simp
                (try simp only [i64_w])
                try rfl
               refine hK.out _ _ ⟨m5, m6, m3, g6, m8_, m9_, m10_, m13_, m14_, (by rw [ha.out]; exact putSel_upk 0 hb_ rfl rfl rfl), f6, i4, c0, c4, d1, f7, i3, ab (hoff 5 (by kernel_rfl)) (by decide), ab (hoff 7 (by kernel_rfl)) (by decide), ab (hoff 8 (by kernel_rfl)) (by decide), i9, h6, h7, d8, d9, e0, e1, e2, e3, e6, e7, ab (hoff 15 (by kernel_rfl)) (by decide), fun h0_ _ => absurd ((hoff 5 (by kernel_rfl)).symm.trans h0_) (by decide), fun h0_ _ => absurd ((hoff 5 (by kernel_rfl)).symm.trans h0_) (by decide), fun h0_ _ => absurd ((hoff 7 (by kernel_rfl)).symm.trans h0_) (by decide), ab (hoff 8 (by kernel_rfl)) (by decide), ab (hoff 9 (by kernel_rfl)) (by decide), ab (hoff 10 (by kernel_rfl)) (by decide), e8, ab (hoff 14 (by kernel_rfl)) (by decide)⟩
              refine steps_cons ?_ ?_
              ·rintro b a w' ⟨m5, m6, m3, g6, m8_, m9_, m10_, m13_, m14_, ha, f6, i4, c0, c4, d1, f7, i3, h0, h5, i2, i9, h6, h7, d8, d9, e0, e1, e2, e3, e6, e7, g5, b5, b8, b9, i8, i6, g3, e8, h9⟩ hb_ hon hoff
               refine ⟨_, rfl, fun K hK => ?_⟩
               have e119 : a.tmps[119]? = some (.agg #[.int .i64 a0_0, .int .i64 a0_1, .int .i64 a0_2, .int .i64 a0_3, .int .i64 a0_4, .int .i64 a0_5, .int .i64 a0_6]) := by rw [ha]; exact putSel_on (e := (0, 119, .agg #[.int .i64 a0_0, .int .i64 a0_1, .int .i64 a0_2, .int .i64 a0_3, .int .i64 a0_4, .int .i64 a0_5, .int .i64 a0_6])) 0 rfl rfl (hon 0 (by kernel_rfl)) rfl
               replace ha := Aside0.mk ha
               have d2 := Aside0.mk f6
               have g2 := Aside0.mk i4
               have b0 := Aside0.mk c0
               have b1 := Aside0.mk c4
               have b2 := Aside0.mk d1
               have b3 := Aside0.mk f7
               have HB := Aside0.mk i3
               refine goes_ Try.func7 (by kernel_rfl) rfl #[.agg #[.int .i64 a0_0, .int .i64 a0_1, .int .i64 a0_2, .int .i64 a0_3, .int .i64 a0_4, .int .i64 a0_5, .int .i64 a0_6]] (by rfl) rfl rfl (by first | (simp only [List.map_toArray, List.map_cons, List.map_nil, Act.eval, Array.getD_eq_getD_getElem?, Option.getD_some, e119]; done) | (simp only [List.map_toArray, List.map_cons, List.map_nil, Act.eval, Array.getD_eq_getD_getElem?, Option.getD_some, e119]; rfl)) ?_
               with_reducible refine (laws_toLoop.calls a0_0 a0_1 a0_2 a0_3 a0_4 a0_5 a0_6 t4 t5 t6 t7 t8 t9 u0 _ V0.out).mono ?_
               rintro e D9 ⟨rfl, hb⟩
               refine ⟨_, rfl, ?_⟩
               have n0_ := a_ (Kd.R_below (rk g2.out) hb)
               have n1_ := a_ (Kd.R_below (rk d2.out) hb)
               have n2_ := a_ (blk_below (pk b0.out) hb)
               have n3_ := a_ (blk_below (pk b1.out) hb)
               have n4_ := a_ (blk_below (pk b2.out) hb)
               have n5_ := a_ (blk_below (pk b3.out) hb)
               have n6_ := a_ (below_step (by repeat (with_reducible first | exact HB.out | refine bz ?_ (by assumption) | apply bA | apply bN | apply bD)) hb)
               have z_BK289 := fun (h0_ : b 13 = true) (h1_ : b 15 = false) => (show D9.heap[g6]? = some (.cells #[.bool false, .int .i64 0, .int .i64 0, .int .i64 0] 27 (0, 0)) from by first | exact (blk_below (g := g6) (o := .cells #[.bool false, .int .i64 0, .int .i64 0, .int .i64 0] 27 (0, 0)) (by refine pk ?_; exact (i9 h0_ h1_)) hb))
               clear g2
               clear d2
               clear b0
               clear b1
               clear b2
               clear b3
               clear HB
               have g2 := n0_
               have d2 := n1_
               have b0 := n2_
               have b1 := n3_
               have b2 := n4_
               have b3 := n5_
               have HB := n6_
               clear n0_ n1_ n2_ n3_ n4_ n5_ n6_
               (try clear hb)
               (try clear hb2)
               (try clear hk)
               (try clear hi)
               refine hK.out _ _ ⟨m5, m6, m3, g6, m8_, m9_, m10_, m13_, m14_, (by rw [ha.out]; exact putSel_upk 1 hb_ rfl rfl rfl), (rk d2.out), (rk g2.out), (pk b0.out), (pk b1.out), (pk b2.out), (pk b3.out), (by repeat (with_reducible first | exact HB.out | refine bz ?_ (by assumption) | apply bA | apply bN | apply bD)), ab (hoff 5 (by kernel_rfl)) (by decide), ab (hoff 7 (by kernel_rfl)) (by decide), ab (hoff 8 (by kernel_rfl)) (by decide), z_BK289, h6, h7, d8, d9, e0, e1, e2, e3, e6, e7, ab (hoff 15 (by kernel_rfl)) (by decide), fun h0_ _ => absurd ((hoff 5 (by kernel_rfl)).symm.trans h0_) (by decide), fun h0_ _ => absurd ((hoff 5 (by kernel_rfl)).symm.trans h0_) (by decide), fun h0_ _ => absurd ((hoff 7 (by kernel_rfl)).symm.trans h0_) (by decide), ab (hoff 8 (by kernel_rfl)) (by decide), ab (hoff 9 (by kernel_rfl)) (by decide), ab (hoff 10 (by kernel_rfl)) (by decide), e8, ab (hoff 14 (by kernel_rfl)) (by decide)⟩
              refine steps_cons ?_ ?_
              ·rintro b a w' ⟨m5, m6, m3, g6, m8_, m9_, m10_, m13_, m14_, ha, f6, i4, c0, c4, d1, f7, i3, h0, h5, i2, i9, h6, h7, d8, d9, e0, e1, e2, e3, e6, e7, g5, b5, b8, b9, i8, i6, g3, e8, h9⟩ hb_ hon hoff
               refine ⟨_, rfl, fun K hK => ?_⟩
               have e5 : a.tmps[5]? = some (.pointer (some ⟨j9, 0, none⟩)) := by rw [ha]; exact (putSel_off rfl).trans rfl
               replace ha := Aside0.mk ha
               have d2 := Aside0.mk f6
               have g2 := Aside0.mk i4
               have b0 := Aside0.mk c0
               have b1 := Aside0.mk c4
               have b2 := Aside0.mk d1
               have b3 := Aside0.mk f7
               have HB := Aside0.mk i3
               have hc0_ : w'.cell? ⟨j9, 0, none⟩ = some (.bool a1_0) := (blk_cell b1.out 0).trans rfl
               have hc1_ : w'.cell? ⟨j9, 1, none⟩ = some (.int .i64 a1_1) := (blk_cell b1.out 1).trans rfl
               have hc2_ : w'.cell? ⟨j9, 2, none⟩ = some (.int .i64 a1_2) := (blk_cell b1.out 2).trans rfl
               have hc3_ : w'.cell? ⟨j9, 3, none⟩ = some (.int .i64 a1_3) := (blk_cell b1.out 3).trans rfl
               refine value_ (w1 := w') (v := .agg #[.bool a1_0, .int .i64 a1_1, .int .i64 a1_2, .int .i64 a1_3]) (by rfl) rfl ?_ ?_
               ·go_simp
                (try simp only [i64_w])
                try rfl
               refine hK.out _ _ ⟨m5, m6, m3, g6, m8_, m9_, m10_, m13_, m14_, (by rw [ha.out]; exact putSel_upk 2 hb_ rfl rfl rfl), f6, i4, c0, c4, d1, f7, i3, ab (hoff 5 (by kernel_rfl)) (by decide), ab (hoff 7 (by kernel_rfl)) (by decide), ab (hoff 8 (by kernel_rfl)) (by decide), i9, h6, h7, d8, d9, e0, e1, e2, e3, e6, e7, ab (hoff 15 (by kernel_rfl)) (by decide), fun h0_ _ => absurd ((hoff 5 (by kernel_rfl)).symm.trans h0_) (by decide), fun h0_ _ => absurd ((hoff 5 (by kernel_rfl)).symm.trans h0_) (by decide), fun h0_ _ => absurd ((hoff 7 (by kernel_rfl)).symm.trans h0_) (by decide), ab (hoff 8 (by kernel_rfl)) (by decide), ab (hoff 9 (by kernel_rfl)) (by decide), ab (hoff 10 (by kernel_rfl)) (by decide), e8, ab (hoff 14 (by kernel_rfl)) (by decide)⟩
              refine steps_cons ?_ ?_
              ·rintro b a w' ⟨m5, m6, m3, g6, m8_, m9_, m10_, m13_, m14_, ha, f6, i4, c0, c4, d1, f7, i3, h0, h5, i2, i9, h6, h7, d8, d9, e0, e1, e2, e3, e6, e7, g5, b5, b8, b9, i8, i6, g3, e8, h9⟩ hb_ hon hoff
               refine ⟨_, rfl, fun K hK => ?_⟩
               have e121 : a.tmps[121]? = some (.agg #[.bool a1_0, .int .i64 a1_1, .int .i64 a1_2, .int .i64 a1_3]) := by rw [ha]; exact putSel_on (e := (2, 121, .agg #[.bool a1_0, .int .i64 a1_1, .int .i64 a1_2, .int .i64 a1_3])) 2 rfl rfl (hon 2 (by kernel_rfl)) rfl
               replace ha := Aside0.mk ha
               have d2 := Aside0.mk f6
               have g2 := Aside0.mk i4
               have b0 := Aside0.mk c0
               have b1 := Aside0.mk c4
               have b2 := Aside0.mk d1
               have b3 := Aside0.mk f7
               have HB := Aside0.mk i3
               refine goes_ Try.func8 (by kernel_rfl) rfl #[.agg #[.bool a1_0, .int .i64 a1_1, .int .i64 a1_2, .int .i64 a1_3]] (by rfl) rfl rfl (by first | (simp only [List.map_toArray, List.map_cons, List.map_nil, Act.eval, Array.getD_eq_getD_getElem?, Option.getD_some, e121]; done) | (simp only [List.map_toArray, List.map_cons, List.map_nil, Act.eval, Array.getD_eq_getD_getElem?, Option.getD_some, e121]; rfl)) ?_
               with_reducible refine (laws_toHold.calls a1_0 a1_1 a1_2 a1_3 u8 u9 v0 v1 _ V1.out).mono ?_
               rintro e V4 ⟨rfl, hb⟩
               refine ⟨_, rfl, ?_⟩
               have n0_ := a_ (Kd.R_below (rk g2.out) hb)
               have n1_ := a_ (Kd.R_below (rk d2.out) hb)
               have n2_ := a_ (blk_below (pk b0.out) hb)
               have n3_ := a_ (blk_below (pk b1.out) hb)
               have n4_ := a_ (blk_below (pk b2.out) hb)
               have n5_ := a_ (blk_below (pk b3.out) hb)
               have n6_ := a_ (below_step (by repeat (with_reducible first | exact HB.out | refine bz ?_ (by assumption) | apply bA | apply bN | apply bD)) hb)
               have z_BK289 := fun (h0_ : b 13 = true) (h1_ : b 15 = false) => (show V4.heap[g6]? = some (.cells #[.bool false, .int .i64 0, .int .i64 0, .int .i64 0] 27 (0, 0)) from by first | exact (blk_below (g := g6) (o := .cells #[.bool false, .int .i64 0, .int .i64 0, .int .i64 0] 27 (0, 0)) (by refine pk ?_; exact (i9 h0_ h1_)) hb))
               clear g2
               clear d2
               clear b0
               clear b1
               clear b2
               clear b3
               clear HB
               have g2 := n0_
               have d2 := n1_
               have b0 := n2_
               have b1 := n3_
               have b2 := n4_
               have b3 := n5_
               have HB := n6_
               clear n0_ n1_ n2_ n3_ n4_ n5_ n6_
               (try clear hb)
               (try clear hb2)
               (try clear hk)
               (try clear hi)
               refine hK.out _ _ ⟨m5, m6, m3, g6, m8_, m9_, m10_, m13_, m14_, (by rw [ha.out]; exact putSel_upk 3 hb_ rfl rfl rfl), (rk d2.out), (rk g2.out), (pk b0.out), (pk b1.out), (pk b2.out), (pk b3.out), (by repeat (with_reducible first | exact HB.out | refine bz ?_ (by assumption) | apply bA | apply bN | apply bD)), ab (hoff 5 (by kernel_rfl)) (by decide), ab (hoff 7 (by kernel_rfl)) (by decide), ab (hoff 8 (by kernel_rfl)) (by decide), z_BK289, h6, h7, d8, d9, e0, e1, e2, e3, e6, e7, ab (hoff 15 (by kernel_rfl)) (by decide), fun h0_ _ => absurd ((hoff 5 (by kernel_rfl)).symm.trans h0_) (by decide), fun h0_ _ => absurd ((hoff 5 (by kernel_rfl)).symm.trans h0_) (by decide), fun h0_ _ => absurd ((hoff 7 (by kernel_rfl)).symm.trans h0_) (by decide), ab (hoff 8 (by kernel_rfl)) (by decide), ab (hoff 9 (by kernel_rfl)) (by decide), ab (hoff 10 (by kernel_rfl)) (by decide), e8, ab (hoff 14 (by kernel_rfl)) (by decide)⟩
              refine steps_cons ?_ ?_
              ·rintro b a w' ⟨m5, m6, m3, g6, m8_, m9_, m10_, m13_, m14_, ha, f6, i4, c0, c4, d1, f7, i3, h0, h5, i2, i9, h6, h7, d8, d9, e0, e1, e2, e3, e6, e7, g5, b5, b8, b9, i8, i6, g3, e8, h9⟩ hb_ hon hoff
               refine ⟨_, rfl, fun K hK => ?_⟩
               have e123 : a.tmps[123]? = some (.slice A2 l2.length c2) := by rw [ha]; exact (putSel_off rfl).trans rfl
               replace ha := Aside0.mk ha
               have d2 := Aside0.mk f6
               have g2 := Aside0.mk i4
               have b0 := Aside0.mk c0
               have b1 := Aside0.mk c4
               have b2 := Aside0.mk d1
               have b3 := Aside0.mk f7
               have HB := Aside0.mk i3
               refine goes_ Try.func9 (by kernel_rfl) rfl #[.slice A2 l2.length c2] (by rfl) rfl rfl (by first | (simp only [List.map_toArray, List.map_cons, List.map_nil, Act.eval, Array.getD_eq_getD_getElem?, Option.getD_some, e123]; done) | (simp only [List.map_toArray, List.map_cons, List.map_nil, Act.eval, Array.getD_eq_getD_getElem?, Option.getD_some, e123]; rfl)) ?_
               with_reducible refine (laws_toIntS.calls l7 _ _ l2 t275 _ ?side1 ?side2 V2.out).mono ?_
               (case side1 => exact Kd.C_below HR2.out (un HB.out))
               (case side2 => exact HC2.out)
               rintro e V5 ⟨m5, rfl, ho0, hb⟩
               refine ⟨_, rfl, ?_⟩
               have n0_ := a_ (Kd.R_elder' (rk g2.out) (Kd.R_base ho0) hb)
               have n1_ := a_ (Kd.R_elder' (rk d2.out) (Kd.R_base ho0) hb)
               have n2_ := a_ (Kd.R_lower (nw (nw ho0 g2.out) d2.out) (bs HB.out))
               have n3_ := a_ (blk_below (pk b0.out) hb)
               have n4_ := a_ (blk_below (pk b1.out) hb)
               have n5_ := a_ (blk_below (pk b2.out) hb)
               have n6_ := a_ (blk_below (pk b3.out) hb)
               have n7_ := a_ (below_step (by repeat (with_reducible first | exact HB.out | refine bz ?_ (by assumption) | apply bA | apply bN | apply bD)) hb)
               have z_BK289 := fun (h0_ : b 13 = true) (h1_ : b 15 = false) => (show V5.heap[g6]? = some (.cells #[.bool false, .int .i64 0, .int .i64 0, .int .i64 0] 27 (0, 0)) from by first | exact (blk_below (g := g6) (o := .cells #[.bool false, .int .i64 0, .int .i64 0, .int .i64 0] 27 (0, 0)) (by refine pk ?_; exact (i9 h0_ h1_)) hb))
               clear g2
               clear d2
               clear b0
               clear b1
               clear b2
               clear b3
               clear HB
               have g2 := n0_
               have d2 := n1_
               have l6 := n2_
               have b0 := n3_
               have b1 := n4_
               have b2 := n5_
               have b3 := n6_
               have HB := n7_
               clear n0_ n1_ n2_ n3_ n4_ n5_ n6_ n7_
               (try clear hb)
               (try clear hb2)
               (try clear hk)
               (try clear hi)
               (try clear ho0)
               refine hK.out _ _ ⟨m5, m6, m3, g6, m8_, m9_, m10_, m13_, m14_, (by rw [ha.out]; exact putSel_upk 4 hb_ rfl rfl rfl), (rk (Kd.R_mono d2.out (fun _ hk => (by repeat' first | trivial | exact hk | exact hk.1 | exact hk.2 | exact hk.1.1 | exact hk.1.2 | exact hk.2.1 | exact hk.2.2 | exact hk.1.1.1 | exact hk.1.1.2 | exact hk.1.2.1 | exact hk.1.2.2 | exact hk.1.1.1.1 | exact hk.1.1.1.2 | exact hk.1.1.1.1.2 | refine And.intro ?_ ?_)))), (rk (Kd.R_mono g2.out (fun _ hk => (by repeat' first | trivial | exact hk | exact hk.1 | exact hk.2 | exact hk.1.1 | exact hk.1.2 | exact hk.2.1 | exact hk.2.2 | exact hk.1.1.1 | exact hk.1.1.2 | exact hk.1.2.1 | exact hk.1.2.2 | exact hk.1.1.1.1 | exact hk.1.1.1.2 | exact hk.1.1.1.1.2 | refine And.intro ?_ ?_)))), (pk b0.out), (pk b1.out), (pk b2.out), (pk b3.out), (by repeat (with_reducible first | exact HB.out | refine bz ?_ (by assumption) | apply bA | apply bN | apply bD)), fun _ => (rk (Kd.R_mono l6.out (fun _ hk => (by repeat' first | trivial | exact hk | exact hk.1 | exact hk.2 | exact hk.1.1 | exact hk.1.2 | exact hk.2.1 | exact hk.2.2 | exact hk.1.1.1 | exact hk.1.1.2 | exact hk.1.2.1 | exact hk.1.2.2 | exact hk.1.1.1.1 | exact hk.1.1.1.2 | exact hk.1.1.1.1.2 | refine And.intro ?_ ?_)))), ab (hoff 7 (by kernel_rfl)) (by decide), ab (hoff 8 (by kernel_rfl)) (by decide), z_BK289, h6, h7, d8, d9, e0, e1, e2, e3, e6, e7, ab (hoff 15 (by kernel_rfl)) (by decide), fun _ h1_ => absurd ((hoff 7 (by kernel_rfl)).symm.trans h1_) (by decide), fun _ h1_ => absurd ((hoff 8 (by kernel_rfl)).symm.trans h1_) (by decide), fun h0_ _ => absurd ((hoff 7 (by kernel_rfl)).symm.trans h0_) (by decide), ab (hoff 8 (by kernel_rfl)) (by decide), ab (hoff 9 (by kernel_rfl)) (by decide), ab (hoff 10 (by kernel_rfl)) (by decide), e8, ab (hoff 14 (by kernel_rfl)) (by decide)⟩
              refine steps_cons ?_ ?_
              ·rintro b a w' ⟨m5, m6, m3, g6, m8_, m9_, m10_, m13_, m14_, ha, f6, i4, c0, c4, d1, f7, i3, h0, h5, i2, i9, h6, h7, d8, d9, e0, e1, e2, e3, e6, e7, g5, b5, b8, b9, i8, i6, g3, e8, h9⟩ hb_ hon hoff
               refine ⟨_, rfl, fun K hK => ?_⟩
               have e125 : a.tmps[125]? = some (.slice A3 l3.length c3) := by rw [ha]; exact (putSel_off rfl).trans rfl
               replace ha := Aside0.mk ha
               have d2 := Aside0.mk f6
               have g2 := Aside0.mk i4
               have b0 := Aside0.mk c0
               have b1 := Aside0.mk c4
               have b2 := Aside0.mk d1
               have b3 := Aside0.mk f7
               have HB := Aside0.mk i3
               have l6 := a_ (h0 (hon 5 (by kernel_rfl)))
               refine goes_ Try.func9 (by kernel_rfl) rfl #[.slice A3 l3.length c3] (by rfl) rfl rfl (by first | (simp only [List.map_toArray, List.map_cons, List.map_nil, Act.eval, Array.getD_eq_getD_getElem?, Option.getD_some, e125]; done) | (simp only [List.map_toArray, List.map_cons, List.map_nil, Act.eval, Array.getD_eq_getD_getElem?, Option.getD_some, e125]; rfl)) ?_
               with_reducible refine (laws_toIntS.calls l7 _ _ l3 t278 _ ?side1 ?side2 V3.out).mono ?_
               (case side1 => exact Kd.C_below HR3.out (un HB.out))
               (case side2 => exact HC3.out)
               rintro e V6 ⟨m6, rfl, ho0, hb⟩
               refine ⟨_, rfl, ?_⟩
               have n0_ := a_ (Kd.R_elder' (rk g2.out) (Kd.R_base ho0) hb)
               have n1_ := a_ (Kd.R_elder' (rk d2.out) (Kd.R_base ho0) hb)
               have n2_ := a_ (Kd.R_elder' (rk l6.out) (Kd.R_base ho0) hb)
               have n3_ := a_ (Kd.R_lower (nw (nw (nw ho0 g2.out) d2.out) l6.out) (bs HB.out))
               have n4_ := a_ (blk_below (pk b0.out) hb)
               have n5_ := a_ (blk_below (pk b1.out) hb)
               have n6_ := a_ (blk_below (pk b2.out) hb)
               have n7_ := a_ (blk_below (pk b3.out) hb)
               have n8_ := a_ (below_step (by repeat (with_reducible first | exact HB.out | refine bz ?_ (by assumption) | apply bA | apply bN | apply bD)) hb)
               have z_BK289 := fun (h0_ : b 13 = true) (h1_ : b 15 = false) => (show V6.heap[g6]? = some (.cells #[.bool false, .int .i64 0, .int .i64 0, .int .i64 0] 27 (0, 0)) from by first | exact (blk_below (g := g6) (o := .cells #[.bool false, .int .i64 0, .int .i64 0, .int .i64 0] 27 (0, 0)) (by refine pk ?_; exact (i9 h0_ h1_)) hb))
               clear g2
               clear d2
               clear l6
               clear b0
               clear b1
               clear b2
               clear b3
               clear HB
               have g2 := n0_
               have d2 := n1_
               have l6 := n2_
               have m4 := n3_
               have b0 := n4_
               have b1 := n5_
               have b2 := n6_
               have b3 := n7_
               have HB := n8_
               clear n0_ n1_ n2_ n3_ n4_ n5_ n6_ n7_ n8_
               (try clear hb)
               (try clear hb2)
               (try clear hk)
               (try clear hi)
               (try clear ho0)
               refine hK.out _ _ ⟨m5, m6, m3, g6, m8_, m9_, m10_, m13_, m14_, (by rw [ha.out]; exact putSel_upk 5 hb_ rfl rfl rfl), (rk (Kd.R_mono d2.out (fun _ hk => (by repeat' first | trivial | exact hk | exact hk.1 | exact hk.2 | exact hk.1.1 | exact hk.1.2 | exact hk.2.1 | exact hk.2.2 | exact hk.1.1.1 | exact hk.1.1.2 | exact hk.1.2.1 | exact hk.1.2.2 | exact hk.1.1.1.1 | exact hk.1.1.1.2 | exact hk.1.1.1.1.2 | refine And.intro ?_ ?_)))), (rk (Kd.R_mono g2.out (fun _ hk => (by repeat' first | trivial | exact hk | exact hk.1 | exact hk.2 | exact hk.1.1 | exact hk.1.2 | exact hk.2.1 | exact hk.2.2 | exact hk.1.1.1 | exact hk.1.1.2 | exact hk.1.2.1 | exact hk.1.2.2 | exact hk.1.1.1.1 | exact hk.1.1.1.2 | exact hk.1.1.1.1.2 | refine And.intro ?_ ?_)))), (pk b0.out), (pk b1.out), (pk b2.out), (pk b3.out), (by repeat (with_reducible first | exact HB.out | refine bz ?_ (by assumption) | apply bA | apply bN | apply bD)), fun _ => (rk (Kd.R_mono l6.out (fun _ hk => (by repeat' first | trivial | exact hk | exact hk.1 | exact hk.2 | exact hk.1.1 | exact hk.1.2 | exact hk.2.1 | exact hk.2.2 | exact hk.1.1.1 | exact hk.1.1.2 | exact hk.1.2.1 | exact hk.1.2.2 | exact hk.1.1.1.1 | exact hk.1.1.1.2 | exact hk.1.1.1.1.2 | refine And.intro ?_ ?_)))), fun _ => (rk (Kd.R_mono m4.out (fun _ hk => (by repeat' first | trivial | exact hk | exact hk.1 | exact hk.2 | exact hk.1.1 | exact hk.1.2 | exact hk.2.1 | exact hk.2.2 | exact hk.1.1.1 | exact hk.1.1.2 | exact hk.1.2.1 | exact hk.1.2.2 | exact hk.1.1.1.1 | exact hk.1.1.1.2 | exact hk.1.1.1.1.2 | refine And.intro ?_ ?_)))), ab (hoff 8 (by kernel_rfl)) (by decide), z_BK289, h6, h7, d8, d9, e0, e1, e2, e3, e6, e7, ab (hoff 15 (by kernel_rfl)) (by decide), fun _ _ => (fun k_ hk_ => (by have h_ := m4.out.1 k_ hk_; first | exact h_.2 | exact h_.1.2 | exact h_.1.1.2 | exact h_.1.1.1.2 | exact h_.1.1.1.1.2 | exact h_.1.1.1.1.1.2 | exact h_)), fun _ h1_ => absurd ((hoff 8 (by kernel_rfl)).symm.trans h1_) (by decide), fun _ h1_ => absurd ((hoff 8 (by kernel_rfl)).symm.trans h1_) (by decide), ab (hoff 8 (by kernel_rfl)) (by decide), ab (hoff 9 (by kernel_rfl)) (by decide), ab (hoff 10 (by kernel_rfl)) (by decide), e8, ab (hoff 14 (by kernel_rfl)) (by decide)⟩
              refine steps_cons ?_ ?_
              ·rintro b a w' ⟨m5, m6, m3, g6, m8_, m9_, m10_, m13_, m14_, ha, f6, i4, c0, c4, d1, f7, i3, h0, h5, i2, i9, h6, h7, d8, d9, e0, e1, e2, e3, e6, e7, g5, b5, b8, b9, i8, i6, g3, e8, h9⟩ hb_ hon hoff
               refine ⟨_, rfl, fun K hK => ?_⟩
               have e120 : a.tmps[120]? = some (.agg #[.int .i64 t4, .int .i64 t5, .int .i64 t6, .int .i64 t7, .int .i64 t8, .int .i64 t9, .int .i64 u0]) := by rw [ha]; exact putSel_on (e := (1, 120, .agg #[.int .i64 t4, .int .i64 t5, .int .i64 t6, .int .i64 t7, .int .i64 t8, .int .i64 t9, .int .i64 u0])) 1 rfl rfl (hon 1 (by kernel_rfl)) rfl
               have e122 : a.tmps[122]? = some (.agg #[.bool u8, .int .i64 u9, .int .i64 v0, .int .i64 v1]) := by rw [ha]; exact putSel_on (e := (3, 122, .agg #[.bool u8, .int .i64 u9, .int .i64 v0, .int .i64 v1])) 3 rfl rfl (hon 3 (by kernel_rfl)) rfl
               have e124 : a.tmps[124]? = some (m5) := by rw [ha]; exact putSel_on (e := (5, 124, m5)) 4 rfl rfl (hon 5 (by kernel_rfl)) rfl
               have e126 : a.tmps[126]? = some (m6) := by rw [ha]; exact putSel_on (e := (7, 126, m6)) 5 rfl rfl (hon 7 (by kernel_rfl)) rfl
               replace ha := Aside0.mk ha
               have d2 := Aside0.mk f6
               have g2 := Aside0.mk i4
               have b0 := Aside0.mk c0
               have b1 := Aside0.mk c4
               have b2 := Aside0.mk d1
               have b3 := Aside0.mk f7
               have HB := Aside0.mk i3
               have l6 := a_ (h0 (hon 5 (by kernel_rfl)))
               have m4 := a_ (h5 (hon 7 (by kernel_rfl)))
               have PA_HO277_HO280 := a_ (b5 (hon 5 (by kernel_rfl)) (hon 7 (by kernel_rfl)))
               obtain ⟨I6, I7, I8⟩ := Kd.R_slice l6.out
               (first | subst I8 | (injection I8 with f1_ f2_ f3_; obtain rfl := f1_.symm; obtain rfl := f3_.symm))
               obtain ⟨I9, J0, J1⟩ := Kd.R_slice m4.out
               (first | subst J1 | (injection J1 with f1_ f2_ f3_; obtain rfl := f1_.symm; obtain rfl := f3_.symm))
               refine goes_ Try.func10 (by kernel_rfl) rfl #[.agg #[.int .i64 t4, .int .i64 t5, .int .i64 t6, .int .i64 t7, .int .i64 t8, .int .i64 t9, .int .i64 u0], .agg #[.bool u8, .int .i64 u9, .int .i64 v0, .int .i64 v1], .slice I6 t275.length I7, .slice I9 t278.length J0] (by rfl) rfl rfl (by first | (simp only [List.map_toArray, List.map_cons, List.map_nil, Act.eval, Array.getD_eq_getD_getElem?, Option.getD_some, e120, e122, e124, e126]; done) | (simp only [List.map_toArray, List.map_cons, List.map_nil, Act.eval, Array.getD_eq_getD_getElem?, Option.getD_some, e120, e122, e124, e126]; rfl)) ?_
               with_reducible refine (impl_RunHold.calls l7 t4 t5 t6 t7 t8 t9 u0 u8 u9 v0 v1 _ _ t275 _ _ t278 o9 o0 o1 o2 o3 o7 _ ?side1 ?side2 ?side3 ?side4 H3.out).mono ?_
               (case side1 => exact cu (Kd.R_reads' l6.out).2.2)
               (case side2 => exact (Kd.R_reads' l6.out).2.1)
               (case side3 => exact cu (Kd.R_reads' m4.out).2.2)
               (case side4 => exact (Kd.R_reads' m4.out).2.1)
               rintro e V7 ⟨m3, rfl, ho0, hb⟩
               refine ⟨_, rfl, ?_⟩
               have n0_ := a_ (Kd.R_elder' (rk g2.out) (Kd.R_base ho0) hb)
               have n1_ := a_ (Kd.R_elder' (rk d2.out) (Kd.R_base ho0) hb)
               have n2_ := a_ (Kd.R_elder' (rk l6.out) (Kd.R_base ho0) hb)
               have n3_ := a_ (Kd.R_elder' (rk m4.out) (Kd.R_base ho0) hb)
               have n4_ := a_ (Kd.R_lower (nw (nw (nw (nw ho0 g2.out) d2.out) l6.out) m4.out) (bs HB.out))
               have n5_ := a_ (blk_below (pk b0.out) hb)
               have n6_ := a_ (blk_below (pk b1.out) hb)
               have n7_ := a_ (blk_below (pk b2.out) hb)
               have n8_ := a_ (blk_below (pk b3.out) hb)
               have n9_ := a_ (below_step (by repeat (with_reducible first | exact HB.out | refine bz ?_ (by assumption) | apply bA | apply bN | apply bD)) hb)
               have z_BK289 := fun (h0_ : b 13 = true) (h1_ : b 15 = false) => (show V7.heap[g6]? = some (.cells #[.bool false, .int .i64 0, .int .i64 0, .int .i64 0] 27 (0, 0)) from by first | exact (blk_below (g := g6) (o := .cells #[.bool false, .int .i64 0, .int .i64 0, .int .i64 0] 27 (0, 0)) (by refine pk ?_; exact (i9 h0_ h1_)) hb))
               clear g2
               clear d2
               clear l6
               clear m4
               clear b0
               clear b1
               clear b2
               clear b3
               clear HB
               have g2 := n0_
               have d2 := n1_
               have l6 := n2_
               have m4 := n3_
               have l8 := n4_
               have b0 := n5_
               have b1 := n6_
               have b2 := n7_
               have b3 := n8_
               have HB := n9_
               clear n0_ n1_ n2_ n3_ n4_ n5_ n6_ n7_ n8_ n9_
               (try clear hb)
               (try clear hb2)
               (try clear hk)
               (try clear hi)
               (try clear ho0)
               refine hK.out _ _ ⟨.slice I6 t275.length I7, .slice I9 t278.length J0, m3, g6, (.tuple #[m3, .agg #[.bool o0, .int .i64 o1, .int .i64 o2, .int .i64 o3], .bool o7]), m9_, m10_, m13_, m14_, (by rw [ha.out]; exact putSel_upk 6 hb_ rfl rfl rfl), (rk (Kd.R_mono d2.out (fun _ hk => (by repeat' first | trivial | exact hk | exact hk.1 | exact hk.2 | exact hk.1.1 | exact hk.1.2 | exact hk.2.1 | exact hk.2.2 | exact hk.1.1.1 | exact hk.1.1.2 | exact hk.1.2.1 | exact hk.1.2.2 | exact hk.1.1.1.1 | exact hk.1.1.1.2 | exact hk.1.1.1.1.2 | refine And.intro ?_ ?_)))), (rk (Kd.R_mono g2.out (fun _ hk => (by repeat' first | trivial | exact hk | exact hk.1 | exact hk.2 | exact hk.1.1 | exact hk.1.2 | exact hk.2.1 | exact hk.2.2 | exact hk.1.1.1 | exact hk.1.1.2 | exact hk.1.2.1 | exact hk.1.2.2 | exact hk.1.1.1.1 | exact hk.1.1.1.2 | exact hk.1.1.1.1.2 | refine And.intro ?_ ?_)))), (pk b0.out), (pk b1.out), (pk b2.out), (pk b3.out), (by repeat (with_reducible first | exact HB.out | refine bz ?_ (by assumption) | apply bA | apply bN | apply bD)), fun _ => (rk (Kd.R_mono l6.out (fun _ hk => (by repeat' first | trivial | exact hk | exact hk.1 | exact hk.2 | exact hk.1.1 | exact hk.1.2 | exact hk.2.1 | exact hk.2.2 | exact hk.1.1.1 | exact hk.1.1.2 | exact hk.1.2.1 | exact hk.1.2.2 | exact hk.1.1.1.1 | exact hk.1.1.1.2 | exact hk.1.1.1.1.2 | refine And.intro ?_ ?_)))), fun _ => (rk (Kd.R_mono m4.out (fun _ hk => (by repeat' first | trivial | exact hk | exact hk.1 | exact hk.2 | exact hk.1.1 | exact hk.1.2 | exact hk.2.1 | exact hk.2.2 | exact hk.1.1.1 | exact hk.1.1.2 | exact hk.1.2.1 | exact hk.1.2.2 | exact hk.1.1.1.1 | exact hk.1.1.1.2 | exact hk.1.1.1.1.2 | refine And.intro ?_ ?_)))), fun _ => (rk (Kd.R_mono l8.out (fun _ hk => (by repeat' first | trivial | exact hk | exact hk.1 | exact hk.2 | exact hk.1.1 | exact hk.1.2 | exact hk.2.1 | exact hk.2.2 | exact hk.1.1.1 | exact hk.1.1.2 | exact hk.1.2.1 | exact hk.1.2.2 | exact hk.1.1.1.1 | exact hk.1.1.1.2 | exact hk.1.1.1.1.2 | refine And.intro ?_ ?_)))), z_BK289, h6, h7, d8, d9, e0, e1, e2, e3, e6, e7, ab (hoff 15 (by kernel_rfl)) (by decide), b5, fun _ _ => (fun k_ hk_ => (by have h_ := l8.out.1 k_ hk_; first | exact h_.2 | exact h_.1.2 | exact h_.1.1.2 | exact h_.1.1.1.2 | exact h_.1.1.1.1.2 | exact h_.1.1.1.1.1.2 | exact h_)), fun _ _ => (fun k_ hk_ => (by have h_ := l8.out.1 k_ hk_; first | exact h_.2 | exact h_.1.2 | exact h_.1.1.2 | exact h_.1.1.1.2 | exact h_.1.1.1.1.2 | exact h_.1.1.1.1.1.2 | exact h_)), fun _ => rfl, ab (hoff 9 (by kernel_rfl)) (by decide), ab (hoff 10 (by kernel_rfl)) (by decide), e8, ab (hoff 14 (by kernel_rfl)) (by decide)⟩
              refine steps_cons ?_ ?_
              ·rintro b a w' ⟨m5, m6, m3, g6, m8_, m9_, m10_, m13_, m14_, ha, f6, i4, c0, c4, d1, f7, i3, h0, h5, i2, i9, h6, h7, d8, d9, e0, e1, e2, e3, e6, e7, g5, b5, b8, b9, i8, i6, g3, e8, h9⟩ hb_ hon hoff
               refine ⟨_, rfl, fun K hK => ?_⟩
               have e127 : a.tmps[127]? = some (m8_) := by rw [ha]; exact putSel_on (e := (8, 127, m8_)) 6 rfl rfl (hon 8 (by kernel_rfl)) rfl
               rw [i8 (hon 8 (by kernel_rfl))] at e127
               replace ha := Aside0.mk ha
               have d2 := Aside0.mk f6
               have g2 := Aside0.mk i4
               have b0 := Aside0.mk c0
               have b1 := Aside0.mk c4
               have b2 := Aside0.mk d1
               have b3 := Aside0.mk f7
               have HB := Aside0.mk i3
               have l6 := a_ (h0 (hon 5 (by kernel_rfl)))
               have m4 := a_ (h5 (hon 7 (by kernel_rfl)))
               have l8 := a_ (i2 (hon 8 (by kernel_rfl)))
               have PA_HO277_HO280 := a_ (b5 (hon 5 (by kernel_rfl)) (hon 7 (by kernel_rfl)))
               have PA_HO277_HO283 := a_ (b8 (hon 5 (by kernel_rfl)) (hon 8 (by kernel_rfl)))
               have PA_HO280_HO283 := a_ (b9 (hon 7 (by kernel_rfl)) (hon 8 (by kernel_rfl)))
               refine value_ (w1 := w') (v := .tuple #[m3, .agg #[.bool o0, .int .i64 o1, .int .i64 o2, .int .i64 o3], .bool o7]) (by rfl) rfl ?_ ?_
               ·go_simp
                (try simp only [i64_w])
                try rfl
               refine hK.out _ _ ⟨m5, m6, m3, g6, m8_, (.tuple #[m3, .agg #[.bool o0, .int .i64 o1, .int .i64 o2, .int .i64 o3], .bool o7]), m10_, m13_, m14_, (by rw [ha.out]; exact putSel_upk 7 hb_ rfl rfl rfl), f6, i4, c0, c4, d1, f7, i3, h0, h5, i2, i9, h6, h7, d8, d9, e0, e1, e2, e3, e6, e7, ab (hoff 15 (by kernel_rfl)) (by decide), b5, b8, b9, i8, fun _ => rfl, ab (hoff 10 (by kernel_rfl)) (by decide), e8, ab (hoff 14 (by kernel_rfl)) (by decide)⟩
              refine steps_cons ?_ ?_
              ·rintro b a w' ⟨m5, m6, m3, g6, m8_, m9_, m10_, m13_, m14_, ha, f6, i4, c0, c4, d1, f7, i3, h0, h5, i2, i9, h6, h7, d8, d9, e0, e1, e2, e3, e6, e7, g5, b5, b8, b9, i8, i6, g3, e8, h9⟩ hb_ hon hoff
               refine ⟨_, rfl, fun K hK => ?_⟩
               have e118 : a.tmps[118]? = some (m9_) := by rw [ha]; exact putSel_on (e := (9, 118, m9_)) 7 rfl rfl (hon 9 (by kernel_rfl)) rfl
               rw [i6 (hon 9 (by kernel_rfl))] at e118
               replace ha := Aside0.mk ha
               have d2 := Aside0.mk f6
               have g2 := Aside0.mk i4
               have b0 := Aside0.mk c0
               have b1 := Aside0.mk c4
               have b2 := Aside0.mk d1
               have b3 := Aside0.mk f7
               have HB := Aside0.mk i3
               have l6 := a_ (h0 (hon 5 (by kernel_rfl)))
               have m4 := a_ (h5 (hon 7 (by kernel_rfl)))
               have l8 := a_ (i2 (hon 8 (by kernel_rfl)))
               have PA_HO277_HO280 := a_ (b5 (hon 5 (by kernel_rfl)) (hon 7 (by kernel_rfl)))
               have PA_HO277_HO283 := a_ (b8 (hon 5 (by kernel_rfl)) (hon 8 (by kernel_rfl)))
               have PA_HO280_HO283 := a_ (b9 (hon 7 (by kernel_rfl)) (hon 8 (by kernel_rfl)))
               obtain ⟨o8, co10_0, eo_⟩ := Kd.R_slice l8.out
               subst eo_
               refine value_ (w1 := w') (v := .slice o8 o9.length co10_0) (by rfl) rfl ?_ ?_
               ·go_simp
                (try simp only [i64_w])
                try rfl
               refine hK.out _ _ ⟨m5, m6, .slice o8 o9.length co10_0, g6, m8_, m9_, (.slice o8 o9.length co10_0), m13_, m14_, (by rw [ha.out]; exact putSel_upk 8 hb_ rfl rfl rfl), f6, i4, c0, c4, d1, f7, i3, h0, h5, i2, i9, h6, h7, d8, d9, e0, e1, e2, e3, e6, e7, ab (hoff 15 (by kernel_rfl)) (by decide), b5, b8, b9, i8, i6, fun _ => rfl, e8, ab (hoff 14 (by kernel_rfl)) (by decide)⟩
              refine steps_cons ?_ ?_
              ·rintro b a w' ⟨m5, m6, m3, g6, m8_, m9_, m10_, m13_, m14_, ha, f6, i4, c0, c4, d1, f7, i3, h0, h5, i2, i9, h6, h7, d8, d9, e0, e1, e2, e3, e6, e7, g5, b5, b8, b9, i8, i6, g3, e8, h9⟩ hb_ hon hoff
               refine ⟨_, rfl, fun K hK => ?_⟩
               have e118 : a.tmps[118]? = some (m9_) := by rw [ha]; exact putSel_on (e := (9, 118, m9_)) 7 rfl rfl (hon 9 (by kernel_rfl)) rfl
               rw [i6 (hon 9 (by kernel_rfl))] at e118
               replace ha := Aside0.mk ha
               have d2 := Aside0.mk f6
               have g2 := Aside0.mk i4
               have b0 := Aside0.mk c0
               have b1 := Aside0.mk c4
               have b2 := Aside0.mk d1
               have b3 := Aside0.mk f7
               have HB := Aside0.mk i3
               have l6 := a_ (h0 (hon 5 (by kernel_rfl)))
               have m4 := a_ (h5 (hon 7 (by kernel_rfl)))
               have l8 := a_ (i2 (hon 8 (by kernel_rfl)))
               have PA_HO277_HO280 := a_ (b5 (hon 5 (by kernel_rfl)) (hon 7 (by kernel_rfl)))
               have PA_HO277_HO283 := a_ (b8 (hon 5 (by kernel_rfl)) (hon 8 (by kernel_rfl)))
               have PA_HO280_HO283 := a_ (b9 (hon 7 (by kernel_rfl)) (hon 8 (by kernel_rfl)))
               obtain ⟨u5, co11_0, eo_⟩ := Kd.R_slice l8.out
               subst eo_
               refine value_ (w1 := w') (v := .agg #[.bool o0, .int .i64 o1, .int .i64 o2, .int .i64 o3]) (by rfl) rfl ?_ ?_
               ·go_simp
                (try simp only [i64_w])
                try rfl
               refine hK.out _ _ ⟨m5, m6, .slice u5 o9.length co11_0, g6, m8_, m9_, m10_, m13_, m14_, (by rw [ha.out]; exact putSel_upk 9 hb_ rfl rfl rfl), f6, i4, c0, c4, d1, f7, i3, h0, h5, i2, i9, h6, h7, d8, d9, e0, e1, e2, e3, e6, e7, ab (hoff 15 (by kernel_rfl)) (by decide), b5, b8, b9, i8, i6, g3, e8, h9⟩
              refine steps_cons ?_ ?_
              ·rintro b a w' ⟨m5, m6, m3, g6, m8_, m9_, m10_, m13_, m14_, ha, f6, i4, c0, c4, d1, f7, i3, h0, h5, i2, i9, h6, h7, d8, d9, e0, e1, e2, e3, e6, e7, g5, b5, b8, b9, i8, i6, g3, e8, h9⟩ hb_ hon hoff
               refine ⟨_, rfl, fun K hK => ?_⟩
               have e118 : a.tmps[118]? = some (m9_) := by rw [ha]; exact putSel_on (e := (9, 118, m9_)) 7 rfl rfl (hon 9 (by kernel_rfl)) rfl
               rw [i6 (hon 9 (by kernel_rfl))] at e118
               replace ha := Aside0.mk ha
               have d2 := Aside0.mk f6
               have g2 := Aside0.mk i4
               have b0 := Aside0.mk c0
               have b1 := Aside0.mk c4
               have b2 := Aside0.mk d1
               have b3 := Aside0.mk f7
               have HB := Aside0.mk i3
               have l6 := a_ (h0 (hon 5 (by kernel_rfl)))
               have m4 := a_ (h5 (hon 7 (by kernel_rfl)))
               have l8 := a_ (i2 (hon 8 (by kernel_rfl)))
               have PA_HO277_HO280 := a_ (b5 (hon 5 (by kernel_rfl)) (hon 7 (by kernel_rfl)))
               have PA_HO277_HO283 := a_ (b8 (hon 5 (by kernel_rfl)) (hon 8 (by kernel_rfl)))
               have PA_HO280_HO283 := a_ (b9 (hon 7 (by kernel_rfl)) (hon 8 (by kernel_rfl)))
               obtain ⟨u6, co12_0, eo_⟩ := Kd.R_slice l8.out
               subst eo_
               refine value_ (w1 := w') (v := .bool o7) (by rfl) rfl ?_ ?_
               ·go_simp
                (try simp only [i64_w])
                try rfl
               refine hK.out _ _ ⟨m5, m6, .slice u6 o9.length co12_0, g6, m8_, m9_, m10_, m13_, m14_, (by rw [ha.out]; exact putSel_upk 10 hb_ rfl rfl rfl), f6, i4, c0, c4, d1, f7, i3, h0, h5, i2, i9, h6, h7, d8, d9, e0, e1, e2, e3, e6, e7, g5, b5, b8, b9, i8, i6, g3, e8, h9⟩
              refine steps_cons ?_ ?_
              ·rintro b a w' ⟨m5, m6, m3, g6, m8_, m9_, m10_, m13_, m14_, ha, f6, i4, c0, c4, d1, f7, i3, h0, h5, i2, i9, h6, h7, d8, d9, e0, e1, e2, e3, e6, e7, g5, b5, b8, b9, i8, i6, g3, e8, h9⟩ hb_ hon hoff
               refine ⟨_, rfl, fun K hK => ?_⟩
               replace ha := Aside0.mk ha
               have d2 := Aside0.mk f6
               have g2 := Aside0.mk i4
               have b0 := Aside0.mk c0
               have b1 := Aside0.mk c4
               have b2 := Aside0.mk d1
               have b3 := Aside0.mk f7
               have HB := Aside0.mk i3
               refine box_step ?hg (N := 21) ?hd (cs := #[.bool false, .int .i64 0, .int .i64 0, .int .i64 0]) (t := 27) ?hr ?_; (case hd => rfl); (case hg => rfl); (case hr => first | (go_simp; done) | (go_simp; rfl))
               intro g6 hg D9 hbox hb
               have n0_ := a_ (Kd.R_below (rk g2.out) hb)
               have n1_ := a_ (Kd.R_below (rk d2.out) hb)
               have n2_ := a_ (blk_below (pk b0.out) hb)
               have n3_ := a_ (blk_below (pk b1.out) hb)
               have n4_ := a_ (blk_below (pk b2.out) hb)
               have n5_ := a_ (blk_below (pk b3.out) hb)
               have n6_ := a_ (below_step (by repeat (with_reducible first | exact HB.out | refine bz ?_ (by assumption) | apply bA | apply bN | apply bD)) hb)
               have n7_ := a_ (hbox)
               have n8_ := a_ (bsg hg HB.out)
               have n9_ := a_ (bsg hg HB.out)
               have n10_ := a_ (nel hg b0.out)
               have n11_ := a_ (nle hg b0.out)
               have n12_ := a_ (nel hg b1.out)
               have n13_ := a_ (nle hg b1.out)
               have n14_ := a_ (nel hg b2.out)
               have n15_ := a_ (nle hg b2.out)
               have n16_ := a_ (nel hg b3.out)
               have n17_ := a_ (nle hg b3.out)
               have z_HO277 := fun (h0_ : b 5 = true) => (show Kd.R (Kd.int .i64) 3 D9 w.heap.size (fun k_ => N_ (.slice n4 i5.length n5) k_ ∧ N_ h8 k_) m5 t275 from by first | exact (Kd.R_below (rk (h0 h0_)) hb) | exact Kd.R_mono (Kd.R_below (rk (h0 h0_)) hb) (fun _ h_ => by first | trivial | exact h_ | exact h_.1))
               have z_HO280 := fun (h0_ : b 7 = true) => (show Kd.R (Kd.int .i64) 3 D9 w.heap.size (fun k_ => N_ (.slice n4 i5.length n5) k_ ∧ N_ h8 k_) m6 t278 from by first | exact (Kd.R_below (rk (h5 h0_)) hb) | exact Kd.R_mono (Kd.R_below (rk (h5 h0_)) hb) (fun _ h_ => by first | trivial | exact h_ | exact h_.1))
               have z_HO283 := fun (h0_ : b 8 = true) => (show Kd.R (Kd.int .i64) 3 D9 w.heap.size (fun k_ => N_ (.slice n4 i5.length n5) k_ ∧ N_ h8 k_) m3 o9 from by first | exact (Kd.R_below (rk (i2 h0_)) hb) | exact Kd.R_mono (Kd.R_below (rk (i2 h0_)) hb) (fun _ h_ => by first | trivial | exact h_ | exact h_.1))
               clear g2
               clear d2
               clear b0
               clear b1
               clear b2
               clear b3
               clear HB
               have g2 := n0_
               have d2 := n1_
               have b0 := n2_
               have b1 := n3_
               have b2 := n4_
               have b3 := n5_
               have HB := n6_
               have j6 := n7_
               have r1 := n8_
               have r2 := n9_
               have k6 := n10_
               have l9 := n11_
               have k7 := n12_
               have m0 := n13_
               have k8 := n14_
               have m1 := n15_
               have k9 := n16_
               have m2 := n17_
               clear n0_ n1_ n2_ n3_ n4_ n5_ n6_ n7_ n8_ n9_ n10_ n11_ n12_ n13_ n14_ n15_ n16_ n17_
               clear hb hbox hg
               refine hK.out _ _ ⟨m5, m6, m3, g6, m8_, m9_, m10_, (.pointer (some ⟨g6, 0, none⟩)), m14_, (by rw [ha.out]; exact putSel_upk 11 hb_ rfl rfl rfl), (rk d2.out), (rk g2.out), (pk b0.out), (pk b1.out), (pk b2.out), (pk b3.out), (by repeat (with_reducible first | exact HB.out | refine bz ?_ (by assumption) | apply bA | apply bN | apply bD)), z_HO277, z_HO280, z_HO283, fun _ _ => (pk j6.out), fun _ => r1.out, fun _ => r2.out, fun _ => k6.out, fun _ => l9.out, fun _ => k7.out, fun _ => m0.out, fun _ => k8.out, fun _ => m1.out, fun _ => k9.out, fun _ => m2.out, ab (hoff 15 (by kernel_rfl)) (by decide), b5, b8, b9, i8, i6, g3, fun _ => rfl, ab (hoff 14 (by kernel_rfl)) (by decide)⟩
              refine steps_cons ?_ ?_
              ·rintro b a w' ⟨m5, m6, m3, g6, m8_, m9_, m10_, m13_, m14_, ha, f6, i4, c0, c4, d1, f7, i3, h0, h5, i2, i9, h6, h7, d8, d9, e0, e1, e2, e3, e6, e7, g5, b5, b8, b9, i8, i6, g3, e8, h9⟩ hb_ hon hoff
               refine ⟨_, rfl, fun K hK => ?_⟩
               have e128 : a.tmps[128]? = some (m10_) := by rw [ha]; exact putSel_on (e := (10, 128, m10_)) 8 rfl rfl (hon 10 (by kernel_rfl)) rfl
               rw [g3 (hon 10 (by kernel_rfl))] at e128
               replace ha := Aside0.mk ha
               have d2 := Aside0.mk f6
               have g2 := Aside0.mk i4
               have b0 := Aside0.mk c0
               have b1 := Aside0.mk c4
               have b2 := Aside0.mk d1
               have b3 := Aside0.mk f7
               have HB := Aside0.mk i3
               have l6 := a_ (h0 (hon 5 (by kernel_rfl)))
               have m4 := a_ (h5 (hon 7 (by kernel_rfl)))
               have l8 := a_ (i2 (hon 8 (by kernel_rfl)))
               have j6 := a_ (i9 (hon 13 (by kernel_rfl)) (hoff 15 (by kernel_rfl)))
               have r1 := a_ (h6 (hon 13 (by kernel_rfl)))
               have r2 := a_ (h7 (hon 13 (by kernel_rfl)))
               have k6 := a_ (d8 (hon 13 (by kernel_rfl)))
               have l9 := a_ (d9 (hon 13 (by kernel_rfl)))
               have k7 := a_ (e0 (hon 13 (by kernel_rfl)))
               have m0 := a_ (e1 (hon 13 (by kernel_rfl)))
               have k8 := a_ (e2 (hon 13 (by kernel_rfl)))
               have m1 := a_ (e3 (hon 13 (by kernel_rfl)))
               have k9 := a_ (e6 (hon 13 (by kernel_rfl)))
               have m2 := a_ (e7 (hon 13 (by kernel_rfl)))
               have PA_HO277_HO280 := a_ (b5 (hon 5 (by kernel_rfl)) (hon 7 (by kernel_rfl)))
               have PA_HO277_HO283 := a_ (b8 (hon 5 (by kernel_rfl)) (hon 8 (by kernel_rfl)))
               have PA_HO280_HO283 := a_ (b9 (hon 7 (by kernel_rfl)) (hon 8 (by kernel_rfl)))
               refine value_ (w1 := w') (v := m3) (by rfl) rfl ?_ ?_
               ·go_simp
                (try simp only [i64_w])
                try rfl
               refine hK.out _ _ ⟨m5, m6, m3, g6, m8_, m9_, m10_, m13_, (m3), (by rw [ha.out]; exact putSel_upk 12 hb_ rfl rfl rfl), f6, i4, c0, c4, d1, f7, i3, h0, h5, i2, i9, h6, h7, d8, d9, e0, e1, e2, e3, e6, e7, ab (hoff 15 (by kernel_rfl)) (by decide), b5, b8, b9, i8, i6, g3, e8, fun _ => rfl⟩
              refine steps_cons ?_ ?_
              ·rintro b a w' ⟨m5, m6, m3, g6, m8_, m9_, m10_, m13_, m14_, ha, f6, i4, c0, c4, d1, f7, i3, h0, h5, i2, i9, h6, h7, d8, d9, e0, e1, e2, e3, e6, e7, g5, b5, b8, b9, i8, i6, g3, e8, h9⟩ hb_ hon hoff
               refine ⟨_, rfl, fun K hK => ?_⟩
               have e21 : a.tmps[21]? = some (m13_) := by rw [ha]; exact putSel_on (e := (13, 21, m13_)) 11 rfl rfl (hon 13 (by kernel_rfl)) rfl
               rw [e8 (hon 13 (by kernel_rfl))] at e21
               have e129 : a.tmps[129]? = some (.agg #[.bool o0, .int .i64 o1, .int .i64 o2, .int .i64 o3]) := by rw [ha]; exact putSel_on (e := (11, 129, .agg #[.bool o0, .int .i64 o1, .int .i64 o2, .int .i64 o3])) 9 rfl rfl (hon 11 (by kernel_rfl)) rfl
               replace ha := Aside0.mk ha
               have d2 := Aside0.mk f6
               have g2 := Aside0.mk i4
               have b0 := Aside0.mk c0
               have b1 := Aside0.mk c4
               have b2 := Aside0.mk d1
               have b3 := Aside0.mk f7
               have HB := Aside0.mk i3
               have l6 := a_ (h0 (hon 5 (by kernel_rfl)))
               have m4 := a_ (h5 (hon 7 (by kernel_rfl)))
               have l8 := a_ (i2 (hon 8 (by kernel_rfl)))
               have j6 := a_ (i9 (hon 13 (by kernel_rfl)) hb_)
               have r1 := a_ (h6 (hon 13 (by kernel_rfl)))
               have r2 := a_ (h7 (hon 13 (by kernel_rfl)))
               have k6 := a_ (d8 (hon 13 (by kernel_rfl)))
               have l9 := a_ (d9 (hon 13 (by kernel_rfl)))
               have k7 := a_ (e0 (hon 13 (by kernel_rfl)))
               have m0 := a_ (e1 (hon 13 (by kernel_rfl)))
               have k8 := a_ (e2 (hon 13 (by kernel_rfl)))
               have m1 := a_ (e3 (hon 13 (by kernel_rfl)))
               have k9 := a_ (e6 (hon 13 (by kernel_rfl)))
               have m2 := a_ (e7 (hon 13 (by kernel_rfl)))
               have PA_HO277_HO280 := a_ (b5 (hon 5 (by kernel_rfl)) (hon 7 (by kernel_rfl)))
               have PA_HO277_HO283 := a_ (b8 (hon 5 (by kernel_rfl)) (hon 8 (by kernel_rfl)))
               have PA_HO280_HO283 := a_ (b9 (hon 7 (by kernel_rfl)) (hon 8 (by kernel_rfl)))
               have hs144 : w'.cell? ⟨g6, 0, none⟩ = some (.bool false) := (blk_cell j6.out 0).trans rfl
               have hfs144 := blk_frozen j6.out 0
               have hns144_0 := k6.out
               have hns144_1 := k7.out
               have hns144_2 := k8.out
               have hns144_3 := k9.out
               have hms144_0 := l9.out
               have hms144_1 := m0.out
               have hms144_2 := m1.out
               have hms144_3 := m2.out
               have hs145 : w'.cell? ⟨g6, 1, none⟩ = some (.int .i64 0) := (blk_cell j6.out 1).trans rfl
               have hfs145 := blk_frozen j6.out 1
               have hns145_0 := k6.out
               have hns145_1 := k7.out
               have hns145_2 := k8.out
               have hns145_3 := k9.out
               have hms145_0 := l9.out
               have hms145_1 := m0.out
               have hms145_2 := m1.out
               have hms145_3 := m2.out
               have hs146 : w'.cell? ⟨g6, 2, none⟩ = some (.int .i64 0) := (blk_cell j6.out 2).trans rfl
               have hfs146 := blk_frozen j6.out 2
               have hns146_0 := k6.out
               have hns146_1 := k7.out
               have hns146_2 := k8.out
               have hns146_3 := k9.out
               have hms146_0 := l9.out
               have hms146_1 := m0.out
               have hms146_2 := m1.out
               have hms146_3 := m2.out
               have hs147 : w'.cell? ⟨g6, 3, none⟩ = some (.int .i64 0) := (blk_cell j6.out 3).trans rfl
               have hfs147 := blk_frozen j6.out 3
               have hns147_0 := k6.out
               have hns147_1 := k7.out
               have hns147_2 := k8.out
               have hns147_3 := k9.out
               have hms147_0 := l9.out
               have hms147_1 := m0.out
               have hms147_2 := m1.out
               have hms147_3 := m2.out
               refine skip_ (w1 := ?_) ?_ ?_ ?_ ?_
               rotate_left
               ·rfl
               ·rfl
               ·go_simp
                rfl
               refine hK.out _ _ ⟨m5, m6, m3, g6, m8_, m9_, m10_, m13_, m14_, (by rw [ha.out]; exact putSel_none (v := undef) rfl), (rk (Kd.R_mono (fr4 d2.out j6.out (by decide) 0 (.bool o0) 1 (.int .i64 o1) 2 (.int .i64 o2) 3 (.int .i64 o3)) (fun _ hk => hk.1))), (rk (Kd.R_mono (fr4 g2.out j6.out (by decide) 0 (.bool o0) 1 (.int .i64 o1) 2 (.int .i64 o2) 3 (.int .i64 o3)) (fun _ hk => hk.1))), (by refine pk ?_; refine blk_far ?_ k6.out _; refine pk ?_; refine blk_far ?_ k6.out _; refine pk ?_; refine blk_far ?_ k6.out _; refine pk ?_; refine blk_far ?_ k6.out _; refine pk ?_; exact b0.out), (by refine pk ?_; refine blk_far ?_ k7.out _; refine pk ?_; refine blk_far ?_ k7.out _; refine pk ?_; refine blk_far ?_ k7.out _; refine pk ?_; refine blk_far ?_ k7.out _; refine pk ?_; exact b1.out), (by refine pk ?_; refine blk_far ?_ k8.out _; refine pk ?_; refine blk_far ?_ k8.out _; refine pk ?_; refine blk_far ?_ k8.out _; refine pk ?_; refine blk_far ?_ k8.out _; refine pk ?_; exact b2.out), (by refine pk ?_; refine blk_far ?_ k9.out _; refine pk ?_; refine blk_far ?_ k9.out _; refine pk ?_; refine blk_far ?_ k9.out _; refine pk ?_; refine blk_far ?_ k9.out _; refine pk ?_; exact b3.out), (by repeat (with_reducible first | exact HB.out | refine bz ?_ (by assumption) | apply bA | apply bN | apply bD)), fun _ => (rk (Kd.R_mono (fr4 l6.out j6.out (by decide) 0 (.bool o0) 1 (.int .i64 o1) 2 (.int .i64 o2) 3 (.int .i64 o3)) (fun _ hk => hk.1))), fun _ => (rk (Kd.R_mono (fr4 m4.out j6.out (by decide) 0 (.bool o0) 1 (.int .i64 o1) 2 (.int .i64 o2) 3 (.int .i64 o3)) (fun _ hk => hk.1))), fun _ => (rk (Kd.R_mono (fr4 l8.out j6.out (by decide) 0 (.bool o0) 1 (.int .i64 o1) 2 (.int .i64 o2) 3 (.int .i64 o3)) (fun _ hk => hk.1))), fun _ h1_ => absurd ((up_self b 15).symm.trans h1_) (by decide), fun _ => r1.out, fun _ => r2.out, fun _ => k6.out, fun _ => l9.out, fun _ => k7.out, fun _ => m0.out, fun _ => k8.out, fun _ => m1.out, fun _ => k9.out, fun _ => m2.out, fun _ => (by refine pk ?_; refine blk_put (cs := #[.bool o0, .int .i64 o1, .int .i64 o2, .int .i64 0]) ?_ 3 _ rfl; refine pk ?_; refine blk_put (cs := #[.bool o0, .int .i64 o1, .int .i64 0, .int .i64 0]) ?_ 2 _ rfl; refine pk ?_; refine blk_put (cs := #[.bool o0, .int .i64 0, .int .i64 0, .int .i64 0]) ?_ 1 _ rfl; refine pk ?_; refine blk_put (cs := #[.bool false, .int .i64 0, .int .i64 0, .int .i64 0]) ?_ 0 _ rfl; refine pk ?_; exact j6.out), b5, b8, b9, i8, i6, g3, e8, h9⟩
              refine steps_cons ?_ ?_
              ·rintro b a w' ⟨m5, m6, m3, g6, m8_, m9_, m10_, m13_, m14_, ha, f6, i4, c0, c4, d1, f7, i3, h0, h5, i2, i9, h6, h7, d8, d9, e0, e1, e2, e3, e6, e7, g5, b5, b8, b9, i8, i6, g3, e8, h9⟩ hb_ hon hoff
               refine ⟨_, rfl, fun K hK => ?_⟩
               have e130 : a.tmps[130]? = some (.bool o7) := by rw [ha]; exact putSel_on (e := (12, 130, .bool o7)) 10 rfl rfl (hon 12 (by kernel_rfl)) rfl
               replace ha := Aside0.mk ha
               have d2 := Aside0.mk f6
               have g2 := Aside0.mk i4
               have b0 := Aside0.mk c0
               have b1 := Aside0.mk c4
               have b2 := Aside0.mk d1
               have b3 := Aside0.mk f7
               have HB := Aside0.mk i3
               have l6 := a_ (h0 (hon 5 (by kernel_rfl)))
               have m4 := a_ (h5 (hon 7 (by kernel_rfl)))
               have l8 := a_ (i2 (hon 8 (by kernel_rfl)))
               have r1 := a_ (h6 (hon 13 (by kernel_rfl)))
               have r2 := a_ (h7 (hon 13 (by kernel_rfl)))
               have k6 := a_ (d8 (hon 13 (by kernel_rfl)))
               have l9 := a_ (d9 (hon 13 (by kernel_rfl)))
               have k7 := a_ (e0 (hon 13 (by kernel_rfl)))
               have m0 := a_ (e1 (hon 13 (by kernel_rfl)))
               have k8 := a_ (e2 (hon 13 (by kernel_rfl)))
               have m1 := a_ (e3 (hon 13 (by kernel_rfl)))
               have k9 := a_ (e6 (hon 13 (by kernel_rfl)))
               have m2 := a_ (e7 (hon 13 (by kernel_rfl)))
               have j6 := a_ (g5 (hon 15 (by kernel_rfl)))
               have PA_HO277_HO280 := a_ (b5 (hon 5 (by kernel_rfl)) (hon 7 (by kernel_rfl)))
               have PA_HO277_HO283 := a_ (b8 (hon 5 (by kernel_rfl)) (hon 8 (by kernel_rfl)))
               have PA_HO280_HO283 := a_ (b9 (hon 7 (by kernel_rfl)) (hon 8 (by kernel_rfl)))
               refine value_ (w1 := w') (v := .bool o7) (by rfl) rfl ?_ ?_
               ·go_simp
                (try simp only [i64_w])
                try rfl
               refine hK.out _ _ ⟨m5, m6, m3, g6, m8_, m9_, m10_, m13_, m14_, (by rw [ha.out]; exact putSel_upk 13 hb_ rfl rfl rfl), f6, i4, c0, c4, d1, f7, i3, h0, h5, i2, fun _ h1_ => absurd ((hon 15 (by kernel_rfl)).symm.trans h1_) (by decide), h6, h7, d8, d9, e0, e1, e2, e3, e6, e7, g5, b5, b8, b9, i8, i6, g3, e8, h9⟩
              exact steps_nil
             rintro b a Zd hall ⟨m5, m6, m3, g6, m8_, m9_, m10_, m13_, m14_, ha, f6, i4, c0, c4, d1, f7, i3, h0, h5, i2, i9, h6, h7, d8, d9, e0, e1, e2, e3, e6, e7, g5, b5, b8, b9, i8, i6, g3, e8, h9⟩
             clear b0 b1 b2 b3 HB d2 g2
             have hb0_ := hall 0 (by kernel_rfl)
             have hb1_ := hall 1 (by kernel_rfl)
             have hb2_ := hall 2 (by kernel_rfl)
             have hb3_ := hall 3 (by kernel_rfl)
             have hb5_ := hall 5 (by kernel_rfl)
             have hb7_ := hall 7 (by kernel_rfl)
             have hb8_ := hall 8 (by kernel_rfl)
             have hb9_ := hall 9 (by kernel_rfl)
             have hb10_ := hall 10 (by kernel_rfl)
             have hb11_ := hall 11 (by kernel_rfl)
             have hb12_ := hall 12 (by kernel_rfl)
             have hb13_ := hall 13 (by kernel_rfl)
             have hb14_ := hall 14 (by kernel_rfl)
             have hb15_ := hall 15 (by kernel_rfl)
             have hb16_ := hall 16 (by kernel_rfl)
             subst ha
             obtain rfl := i8 hb8_
             obtain rfl := i6 hb9_
             obtain rfl := (g3 hb10_).symm
             obtain rfl := e8 hb13_
             obtain rfl := (h9 hb14_).symm
             simp only [putSel, hb0_, hb1_, hb2_, hb3_, hb5_, hb7_, hb8_, hb9_, hb10_, hb11_, hb12_, hb13_, hb14_, hb15_, hb16_, if_true, Act.put, sB, sC, sD]
             have d2 := Aside0.mk f6
             clear f6
             have g2 := Aside0.mk i4
             clear i4
             have b0 := Aside0.mk c0
             clear c0
             have b1 := Aside0.mk c4
             clear c4
             have b2 := Aside0.mk d1
             clear d1
             have b3 := Aside0.mk f7
             clear f7
             have HB := Aside0.mk i3
             clear i3
             have l6 := a_ (h0 hb5_)
             clear h0
             have m4 := a_ (h5 hb7_)
             clear h5
             have l8 := a_ (i2 hb8_)
             clear i2
             clear i9
             have r1 := a_ (h6 hb13_)
             clear h6
             have r2 := a_ (h7 hb13_)
             clear h7
             have k6 := a_ (d8 hb13_)
             clear d8
             have l9 := a_ (d9 hb13_)
             clear d9
             have k7 := a_ (e0 hb13_)
             clear e0
             have m0 := a_ (e1 hb13_)
             clear e1
             have k8 := a_ (e2 hb13_)
             clear e2
             have m1 := a_ (e3 hb13_)
             clear e3
             have k9 := a_ (e6 hb13_)
             clear e6
             have m2 := a_ (e7 hb13_)
             clear e7
             have j6 := a_ (g5 hb15_)
             clear g5
             have PA_HO277_HO280 := a_ (b5 hb5_ hb7_)
             clear b5
             have PA_HO277_HO283 := a_ (b8 hb5_ hb8_)
             clear b8
             have PA_HO280_HO283 := a_ (b9 hb7_ hb8_)
             clear b9
             clear hall hb0_ hb1_ hb2_ hb3_ hb5_ hb7_ hb8_ hb9_ hb10_ hb11_ hb12_ hb13_ hb14_ hb15_ hb16_
             have n_ := a_ (Kd.R_reok rfl (ok := fun k_ => (N_ m6 k_ ∧ (N_ m3 k_ ∧ (N_ (.slice n4 i5.length n5) k_ ∧ N_ h8 k_)))) l6.out (fun k_ hk_ => (by have hx_ := l6.out.1 k_ hk_; repeat' first | trivial | exact (fun e_ => PA_HO277_HO280.out _ e_.symm hk_.symm) | exact (fun e_ => PA_HO277_HO283.out _ e_.symm hk_.symm) | exact hx_ | exact hx_.1 | exact hx_.2 | exact hx_.2.1 | exact hx_.2.2 | exact hx_.2.2.1 | exact hx_.2.2.2 | refine And.intro ?_ ?_)))
             clear l6
             have l6 := n_
             clear n_
             have n_ := a_ (Kd.R_reok rfl (ok := fun k_ => (N_ m5 k_ ∧ (N_ m3 k_ ∧ (N_ (.slice n4 i5.length n5) k_ ∧ N_ h8 k_)))) m4.out (fun k_ hk_ => (by have hx_ := m4.out.1 k_ hk_; repeat' first | trivial | exact PA_HO277_HO280.out k_ hk_ | exact (fun e_ => PA_HO280_HO283.out _ e_.symm hk_.symm) | exact hx_ | exact hx_.1 | exact hx_.2 | exact hx_.2.1 | exact hx_.2.2 | exact hx_.2.2.1 | exact hx_.2.2.2 | refine And.intro ?_ ?_)))
             clear m4
             have m4 := n_
             clear n_
             have n_ := a_ (Kd.R_reok rfl (ok := fun k_ => (N_ m5 k_ ∧ (N_ m6 k_ ∧ (N_ (.slice n4 i5.length n5) k_ ∧ N_ h8 k_)))) l8.out (fun k_ hk_ => (by have hx_ := l8.out.1 k_ hk_; repeat' first | trivial | exact PA_HO277_HO283.out k_ hk_ | exact PA_HO280_HO283.out k_ hk_ | exact hx_ | exact hx_.1 | exact hx_.2 | exact hx_.2.1 | exact hx_.2.2 | exact hx_.2.2.1 | exact hx_.2.2.2 | refine And.intro ?_ ?_)))
             clear l8
             have l8 := n_
             clear n_
             go_upto_region 29 with (fail)
             go_cut [145] (fun V8 wc => ∃ (kq : Nat) (x145_130 : Bool), V8 = .bool x145_130 ∧ Aside0 (laws_FnExactRunHold.j2 kq n6 n9 x145_130 = some r) ∧ Aside0 (kq ≤ l7) ∧ Aside0 (Kd.R (Kd.int .i64) 3 wc w.heap.size (fun _ => True) (.slice n4 i5.length n5) n6) ∧ Aside0 (wc.heap[h1]? = some (.cells #[.int .i64 a0_0, .int .i64 a0_1, .int .i64 a0_2, .int .i64 a0_3, .int .i64 a0_4, .int .i64 a0_5, .int .i64 a0_6] 23 (0, 0))) ∧ Aside0 (wc.heap[j9]? = some (.cells #[.bool a1_0, .int .i64 a1_1, .int .i64 a1_2, .int .i64 a1_3] 25 (0, 0))) ∧ Aside0 (wc.heap[f5]? = some (.cells #[.bool f8, .int .i64 f9, .int .i64 g0, .int .i64 g1] 27 (0, 0))) ∧ Aside0 (wc.heap[f1]? = some (.cells #[.bool j5, .int .i64 j8, .int .i64 k0, .int .i64 k1] 27 (0, 0))) ∧ Aside0 (wc.heap[g6]? = some (.cells #[.bool o0, .int .i64 o1, .int .i64 o2, .int .i64 o3] 27 (0, 0))) ∧ Aside0 (Below w.heap.size w wc))
             case first =>
              have H := HC131.out
              clear HC131
              replace H := Option.bind_eq_some_iff.mp H
              obtain ⟨t290, J2, H⟩ := H
              have J7 := Aside0.mk J2
              clear J2
              by_cases c149 : t290 = true
              ·subst c149
               have H1 : ((laws_eqHold.f o0 o1 o2 o3 f8 f9 g0 g1).bind fun t291 => (if t291 = true then (laws_FnExactRunHold.j2 l7 n6 n9 (o7 != i7)) else (laws_FnExactRunHold.j2 l7 n6 n9 true))) = some r := by rw [if_pos rfl] at H; exact H
               clear H
               have H := H1
               clear H1
               replace H := Option.bind_eq_some_iff.mp H
               obtain ⟨t291, J3, H⟩ := H
               have A1 := Aside0.mk J3
               clear J3
               by_cases c151 : t291 = true
               ·subst c151
                have H1 : (laws_FnExactRunHold.j2 l7 n6 n9 (o7 != i7)) = some r := by rw [if_pos rfl] at H; exact H
                clear H
                have H := H1
                clear H1
                have H' := Aside0.mk H
                clear H
                obtain ⟨M9, N0, N1⟩ := Kd.R_slice l8.out
                subst N1
                obtain ⟨N2, N3, N4⟩ := Kd.R_slice g2.out
                subst N4
                go_wp2_with (first | ((with_reducible refine gate_callee (f := 11) rfl ?_); refine goesL_ (some 133) rfl rfl Try.func11 (by kernel_rfl) rfl #[.slice M9 o9.length N0, .slice N2 g8.length N3] rfl (by (try simp only [lA, lB, lC]); first | done | rfl | (simp only [lD, lE]; rfl)) ?_; (with_reducible refine (laws_eqIntS.calls l7 _ _ o9 _ _ g8 true _ ?side1 ?side2 ?side3 ?side4 J7.out).mono ?_); (case side1 => exact cu (Kd.R_reads' l8.out).2.2); (case side2 => exact (Kd.R_reads' l8.out).2.1); (case side3 => exact cu (Kd.R_reads' g2.out).2.2); (case side4 => exact (Kd.R_reads' g2.out).2.1); rintro e w' ⟨rfl, ⟨nd, rfl⟩⟩; refine ⟨_, rfl, ?_⟩; have V9 := l9.out; have W0 := k6.out; have W1 := m0.out; have W2 := k7.out; have W3 := m1.out; have W4 := k8.out; have W5 := m2.out; have W6 := k9.out; have E0 : _ = some (Value.bool o0) := (blk_cell j6.out 0).trans rfl; have E1 : _ = some (Value.int .i64 o1) := (blk_cell j6.out 1).trans rfl; have E2 : _ = some (Value.int .i64 o2) := (blk_cell j6.out 2).trans rfl; have E3 : _ = some (Value.int .i64 o3) := (blk_cell j6.out 3).trans rfl; have E4 := blk_frozen j6.out 0; have E5 := blk_frozen j6.out 1; have E6 := blk_frozen j6.out 2; have E7 := blk_frozen j6.out 3; have W7 := k2.out; have W8 := j3.out; have W9 := k3.out; have X0 := j4.out; have X1 := f4.out; have X2 := j7.out; have E8 : _ = some (Value.bool f8) := (blk_cell b2.out 0).trans rfl; have E9 : _ = some (Value.int .i64 f9) := (blk_cell b2.out 1).trans rfl; have F0 : _ = some (Value.int .i64 g0) := (blk_cell b2.out 2).trans rfl; have F1 : _ = some (Value.int .i64 g1) := (blk_cell b2.out 3).trans rfl; have F2 := blk_frozen b2.out 0; have F3 := blk_frozen b2.out 1; have F4 := blk_frozen b2.out 2; have F5 := blk_frozen b2.out 3) | (go_at_call 12; (with_reducible refine (laws_eqHold.calls o0 o1 o2 o3 f8 f9 g0 g1 true _ A1.out).mono ?_); rintro e Ze ⟨rfl, hb⟩; replace g2 := a_ (Kd.R_below (rk g2.out) hb); replace d2 := a_ (Kd.R_below (rk d2.out) hb); replace l6 := a_ (Kd.R_below (rk l6.out) hb); replace m4 := a_ (Kd.R_below (rk m4.out) hb); replace l8 := a_ (Kd.R_below (rk l8.out) hb); replace b0 := a_ (blk_below (pk b0.out) hb); replace b1 := a_ (blk_below (pk b1.out) hb); replace b2 := a_ (blk_below (pk b2.out) hb); replace b3 := a_ (blk_below (pk b3.out) hb); replace j6 := a_ (blk_below (pk j6.out) hb); replace HB := a_ (below_step (by repeat (with_reducible first | exact HB.out | refine bz ?_ (by assumption) | apply bA | apply bN | apply bD)) hb); clear hb))
                go_meet
                case rel => exact ⟨_, ((o7 != i7)), (by first | rfl | (simp; done) | (simp [*]; done)), H', ⟨by have := u7.out; have := J6.out; first | omega | exact Nat.le_refl _⟩, ⟨rk (Kd.R_mono d2.out (fun _ hk => trivial))⟩, ⟨pk b0.out⟩, ⟨pk b1.out⟩, ⟨pk b2.out⟩, ⟨pk b3.out⟩, ⟨pk j6.out⟩, ⟨by repeat (with_reducible first | exact HB.out | refine bz ?_ (by assumption) | apply bA | apply bN | apply bD)⟩⟩
               ·replace c151 := Bool.eq_false_iff.mpr c151
                subst c151
                have H1 : (laws_FnExactRunHold.j2 l7 n6 n9 true) = some r := by rw [if_neg (show ¬ (false = true) by decide)] at H; exact H
                clear H
                have H := H1
                clear H1
                have H' := Aside0.mk H
                clear H
                obtain ⟨N5, N6, N7⟩ := Kd.R_slice l8.out
                subst N7
                obtain ⟨N8, N9, O0⟩ := Kd.R_slice g2.out
                subst O0
                go_wp2_with (first | ((with_reducible refine gate_callee (f := 11) rfl ?_); refine goesL_ (some 133) rfl rfl Try.func11 (by kernel_rfl) rfl #[.slice N5 o9.length N6, .slice N8 g8.length N9] rfl (by (try simp only [lA, lB, lC]); first | done | rfl | (simp only [lD, lE]; rfl)) ?_; (with_reducible refine (laws_eqIntS.calls l7 _ _ o9 _ _ g8 true _ ?side1 ?side2 ?side3 ?side4 J7.out).mono ?_); (case side1 => exact cu (Kd.R_reads' l8.out).2.2); (case side2 => exact (Kd.R_reads' l8.out).2.1); (case side3 => exact cu (Kd.R_reads' g2.out).2.2); (case side4 => exact (Kd.R_reads' g2.out).2.1); rintro e w' ⟨rfl, ⟨nd, rfl⟩⟩; refine ⟨_, rfl, ?_⟩; have X3 := l9.out; have X4 := k6.out; have X5 := m0.out; have X6 := k7.out; have X7 := m1.out; have X8 := k8.out; have X9 := m2.out; have Y0 := k9.out; have F6 : _ = some (Value.bool o0) := (blk_cell j6.out 0).trans rfl; have F7 : _ = some (Value.int .i64 o1) := (blk_cell j6.out 1).trans rfl; have F8 : _ = some (Value.int .i64 o2) := (blk_cell j6.out 2).trans rfl; have F9 : _ = some (Value.int .i64 o3) := (blk_cell j6.out 3).trans rfl; have G0 := blk_frozen j6.out 0; have G1 := blk_frozen j6.out 1; have G2 := blk_frozen j6.out 2; have G3 := blk_frozen j6.out 3; have Y1 := k2.out; have Y2 := j3.out; have Y3 := k3.out; have Y4 := j4.out; have Y5 := f4.out; have Y6 := j7.out; have G4 : _ = some (Value.bool f8) := (blk_cell b2.out 0).trans rfl; have G5 : _ = some (Value.int .i64 f9) := (blk_cell b2.out 1).trans rfl; have G6 : _ = some (Value.int .i64 g0) := (blk_cell b2.out 2).trans rfl; have G7 : _ = some (Value.int .i64 g1) := (blk_cell b2.out 3).trans rfl; have G8 := blk_frozen b2.out 0; have G9 := blk_frozen b2.out 1; have H0 := blk_frozen b2.out 2; have H2 := blk_frozen b2.out 3) | (go_at_call 12; (with_reducible refine (laws_eqHold.calls o0 o1 o2 o3 f8 f9 g0 g1 false _ A1.out).mono ?_); rintro e Zf ⟨rfl, hb⟩; replace g2 := a_ (Kd.R_below (rk g2.out) hb); replace d2 := a_ (Kd.R_below (rk d2.out) hb); replace l6 := a_ (Kd.R_below (rk l6.out) hb); replace m4 := a_ (Kd.R_below (rk m4.out) hb); replace l8 := a_ (Kd.R_below (rk l8.out) hb); replace b0 := a_ (blk_below (pk b0.out) hb); replace b1 := a_ (blk_below (pk b1.out) hb); replace b2 := a_ (blk_below (pk b2.out) hb); replace b3 := a_ (blk_below (pk b3.out) hb); replace j6 := a_ (blk_below (pk j6.out) hb); replace HB := a_ (below_step (by repeat (with_reducible first | exact HB.out | refine bz ?_ (by assumption) | apply bA | apply bN | apply bD)) hb); clear hb))
                go_meet
                case rel => exact ⟨_, (true), (by first | rfl | (simp; done) | (simp [*]; done)), H', ⟨by have := u7.out; have := J6.out; first | omega | exact Nat.le_refl _⟩, ⟨rk (Kd.R_mono d2.out (fun _ hk => trivial))⟩, ⟨pk b0.out⟩, ⟨pk b1.out⟩, ⟨pk b2.out⟩, ⟨pk b3.out⟩, ⟨pk j6.out⟩, ⟨by repeat (with_reducible first | exact HB.out | refine bz ?_ (by assumption) | apply bA | apply bN | apply bD)⟩⟩
              ·replace c149 := Bool.eq_false_iff.mpr c149
               subst c149
               have H1 : (laws_FnExactRunHold.j2 l7 n6 n9 true) = some r := by rw [if_neg (show ¬ (false = true) by decide)] at H; exact H
               clear H
               have H := H1
               clear H1
               have H' := Aside0.mk H
               clear H
               obtain ⟨O1, O2, O3⟩ := Kd.R_slice l8.out
               subst O3
               obtain ⟨O4, O5, O6⟩ := Kd.R_slice g2.out
               subst O6
               go_wp2_with (first | ((with_reducible refine gate_callee (f := 11) rfl ?_); refine goesL_ (some 133) rfl rfl Try.func11 (by kernel_rfl) rfl #[.slice O1 o9.length O2, .slice O4 g8.length O5] rfl (by (try simp only [lA, lB, lC]); first | done | rfl | (simp only [lD, lE]; rfl)) ?_; (with_reducible refine (laws_eqIntS.calls l7 _ _ o9 _ _ g8 false _ ?side1 ?side2 ?side3 ?side4 J7.out).mono ?_); (case side1 => exact cu (Kd.R_reads' l8.out).2.2); (case side2 => exact (Kd.R_reads' l8.out).2.1); (case side3 => exact cu (Kd.R_reads' g2.out).2.2); (case side4 => exact (Kd.R_reads' g2.out).2.1); rintro e w' ⟨rfl, ⟨nd, rfl⟩⟩; refine ⟨_, rfl, ?_⟩))
               go_meet
               case rel => exact ⟨_, (true), (by first | rfl | (simp; done) | (simp [*]; done)), H', ⟨by have := u7.out; have := J6.out; first | omega | exact Nat.le_refl _⟩, ⟨rk (Kd.R_mono d2.out (fun _ hk => trivial))⟩, ⟨pk b0.out⟩, ⟨pk b1.out⟩, ⟨pk b2.out⟩, ⟨pk b3.out⟩, ⟨pk j6.out⟩, ⟨by repeat (with_reducible first | exact HB.out | refine bz ?_ (by assumption) | apply bA | apply bN | apply bD)⟩⟩
             case rest =>
              clear HC131
              try clear c1; try clear p2; try clear c3; try clear c9; try clear c10; try clear c11; try clear c14; try clear c15; try clear c16; try clear c17; try clear c149; try clear c151; try clear c154; try clear c155; try clear c156; try clear c157; try clear c159; try clear c160; try clear c161; try clear c166; try clear c167; try clear c168; try clear c169; try clear c171; try clear c172; try clear c173; try clear E0; try clear E1; try clear E2; try clear E3; try clear E8; try clear E9; try clear F0; try clear F1; try clear F6; try clear F7; try clear F8; try clear F9; try clear G4; try clear G5; try clear G6; try clear G7; try clear E4; try clear E5; try clear E6; try clear E7; try clear F2; try clear F3; try clear F4; try clear F5; try clear G0; try clear G1; try clear G2; try clear G3; try clear G8; try clear G9; try clear H0; try clear H2
              obtain ⟨kq, x145_130, rfl, HA, Xz, d2, b0, b1, b2, b3, j6, HB⟩ := hcut
              have o4 := (Kd.R_reads' d2.out).1
              rw [o4] at d2
              (try simp only [o4])
              (try simp only [o4] at b0)
              (try simp only [o4] at b1)
              (try simp only [o4] at b2)
              (try simp only [o4] at b3)
              (try simp only [o4] at j6)
              cases kq with
              | zero => exact absurd HA.out (by simp [laws_FnExactRunHold.j2])
              | succ J4 =>
               have H := HA.out
               clear HA
               simp only [laws_FnExactRunHold.j2] at H
               by_cases c178 : x145_130 = true
               ·subst c178
                have H1 : (none) = some r := by rw [if_pos rfl] at H; exact H
                clear H
                have H := H1
                clear H1
                exact absurd H (by simp)
               ·replace c178 := Bool.eq_false_iff.mpr c178
                subst c178
                have H1 : ((laws_heldIntS.f J4 n6 1).bind fun t292 => (if t292 < 0 then (none) else (if t292 = n9 then (some true) else (none)))) = some r := by rw [if_neg (show ¬ (false = true) by decide)] at H; exact H
                clear H
                have H := H1
                clear H1
                replace H := Option.bind_eq_some_iff.mp H
                obtain ⟨t292, J5, H⟩ := H
                have Y7 := Aside0.mk J5
                clear J5
                by_cases c180 : t292 < 0
                ·rw [if_pos c180] at H
                 exact absurd H (by simp)
                ·rw [if_neg c180] at H
                 have Y8 : decide (t292 < 0) = false := decide_eq_false c180
                 clear c180
                 by_cases c181 : t292 = n9
                 ·rw [if_pos c181] at H
                  have Y9 : (t292 == n9) = true := beq_iff_eq.mpr c181
                  have Z0 : (t292 != n9) = false := bne_eq_false_iff_eq.mpr c181
                  clear c181
                  obtain rfl := Option.some.inj H
                  go_wp2_with (first | ((with_reducible refine gate_callee (f := 14) rfl ?_); refine goesL_ (some 148) rfl rfl Try.func14 (by kernel_rfl) rfl #[.slice n4 n6.length n5, .int .i64 1] rfl (by (try simp only [lA, lB, lC]); first | done | rfl | (simp only [lD, lE]; rfl)) ?_; (with_reducible refine (laws_heldIntS.calls J4 _ _ n6 1 t292 _ ?side1 ?side2 Y7.out).mono ?_); (case side1 => exact cu (Kd.R_reads' d2.out).2.2); (case side2 => exact (Kd.R_reads' d2.out).2.1); rintro e w' ⟨rfl, ⟨nd, rfl⟩⟩; refine ⟨_, rfl, ?_⟩))
                  go_ret
                  exact ⟨by first | rfl | (simp [errW_none, errW_some] <;> rfl) | (simp [*, errW_none, errW_some] <;> rfl), by repeat (with_reducible first | exact HB.out | refine bz ?_ (by assumption) | apply bA | apply bN | apply bD)⟩
                 ·rw [if_neg c181] at H
                  exact absurd H (by simp)
            ·rw [if_neg c125] at H
             exact absurd H (by simp)
       ·replace c84 := Bool.eq_false_iff.mpr c84
        subst c84
        have H1 : (none) = some r := by rw [if_neg (show ¬ (false = true) by decide)] at H; exact H
        clear H
        have H := H1
        clear H1
        exact absurd H (by simp)
      ·replace c81 := Bool.eq_false_iff.mpr c81
       subst c81
       have H1 : (none) = some r := by rw [if_neg (show ¬ (false = true) by decide)] at H; exact H
       clear H
       have H := H1
       clear H1
       exact absurd H (by simp)

end Go.Proofs.Ytineniimpdjpnaa.PFnExactRunHold
