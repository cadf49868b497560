-- Written by a program of this session out of the loaded functions' print; helper lemmas as print.sh lays them.
import Derived.Test.YtgkjnocjdonjdaaUp2
import Derived.Test.YtgkjnocjdonjdaaUp
import Derived.Test.YtgkjnocjdonjdaaRFnExactAddRayx0
import Derived.Test.YtgkjnocjdonjdaaRFnExactAddRayx1
import Derived.Test.YtgkjnocjdonjdaaRFnExactAddRayx3
import Derived.Test.YtgkjnocjdonjdaaRFnExactAddRayx4
import Derived.Test.YtgkjnocjdonjdaaRFnExactAddRayx6
import Derived.Test.YtgkjnocjdonjdaaRFnExactAddRayx7
namespace Go.Proofs.Ytgkjnocjdonjdaa.PFnExactAddRay
open Go.RowKit Go.Proofs.YtgkjnocjdonjdaaW.PrintWords Go.Proofs.YtgkjnocjdonjdaaW.PrintLast Go.Proofs.YtgkjnocjdonjdaaW.PrintMore
attribute [local go_sem] max2_int min2_int max_two min_two max_three min_three max_four min_four  -- for this text's walks alone
set_option linter.unusedVariables false
set_option linter.unusedSimpArgs false

/-! ### laws_FnExactAddRay: function 4 -/
mutual
def laws_FnExactAddRay.j0 : Nat → Int → Int → Int → Int → Bool → Bool → Bool → Bool → Int → List Int → List Int → Int → List Int → List Int → Int → List Int → List Int → Int → List Int → List Int → Option (Bool)
 | 0, _, _, _, _, _, _, _, _, _, _, _, _, _, _, _, _, _, _, _, _ => none
 | k + 1, x1, x2, x3, x4, x5, x15, x18, x60, x235000, x235001, x235002, x252000, x252001, x252002, x260000, x260001, x260002, x269000, x269001, x269002 => if x60 = true then (none) else ((laws_toCounts.f k x235000 x235001 x235002).bind fun bt270 => ((laws_eqCounts.f k x260000 x260001 x260002 bt270.1 bt270.2.1 bt270.2.2).bind fun t277 => (if t277 = true then ((laws_markCounts.f k x260000 x260001 x260002 1).bind fun bt278 => (if bt278.1 < 0 then (laws_FnExactAddRay.j1 k x1 x2 x3 x4 x5 x15 true x235000 x235001 x235002 x252000 x252001 x252002 x269000 x269001 x269002) else ((laws_eqCounts.f k x269000 x269001 x269002 x252000 x252001 x252002).bind fun t281 => (if t281 = true then (laws_FnExactAddRay.j1 k x1 x2 x3 x4 x5 x15 (x18 != x15) x235000 x235001 x235002 x252000 x252001 x252002 x269000 x269001 x269002) else (laws_FnExactAddRay.j1 k x1 x2 x3 x4 x5 x15 true x235000 x235001 x235002 x252000 x252001 x252002 x269000 x269001 x269002))))) else (none))))
def laws_FnExactAddRay.j1 : Nat → Int → Int → Int → Int → Bool → Bool → Bool → Int → List Int → List Int → Int → List Int → List Int → Int → List Int → List Int → Option (Bool)
 | 0, _, _, _, _, _, _, _, _, _, _, _, _, _, _, _, _ => none
 | k + 1, x1, x2, x3, x4, x5, x15, x81, x235000, x235001, x235002, x252000, x252001, x252002, x269000, x269001, x269002 => if x81 = true then (none) else ((laws_markCounts.f k x269000 x269001 x269002 1).bind fun bt282 => ((laws_heldCounts.f k x269000 bt282.2.1 bt282.2.2 1).bind fun t285 => (if t285 < 0 then (none) else (if t285 = bt282.1 then ((laws_toCounts.f k x235000 x235001 x235002).bind fun bt286 => ((impl_AddRay.f k bt286.1 bt286.2.1 bt286.2.2 x1 x2 x3 x4 x5).bind fun bt293 => ((laws_eqCounts.f k bt293.1 bt293.2.1 bt293.2.2.1 x252000 x252001 x252002).bind fun t302 => (if t302 = true then (laws_FnExactAddRay.j2 k bt282.1 (bt293.2.2.2 != x15) x269000 bt282.2.1 bt282.2.2) else (laws_FnExactAddRay.j2 k bt282.1 true x269000 bt282.2.1 bt282.2.2))))) else (none)))))
def laws_FnExactAddRay.j2 : Nat → Int → Bool → Int → List Int → List Int → Option (Bool)
 | 0, _, _, _, _, _ => none
 | k + 1, x20, x112, x269000, x269001, x269002 => if x112 = true then (none) else ((laws_heldCounts.f k x269000 x269001 x269002 1).bind fun t303 => (if t303 < 0 then (none) else (if t303 = x20 then (some true) else (none))))
end
def laws_FnExactAddRay.f (k : Nat) (a0_0 : Int) (l0_1 : List Int) (l0_2 : List Int) (a1 : Int) (a2 : Int) (a3 : Int) (a4 : Int) (a5 : Bool) : Option (Bool) := (laws_szCounts.f a0_0 l0_1 l0_2 1048576).bind fun t235 => (if t235 < 0 then (some true) else ((laws_toCounts.f k a0_0 l0_1 l0_2).bind fun bt236 => ((spec_AddRay.f k bt236.1 bt236.2.1 bt236.2.2 a1 a2 a3 a4 a5).bind fun bt243 => ((laws_toCounts.f k a0_0 l0_1 l0_2).bind fun bt252 => ((impl_AddRay.f k bt252.1 bt252.2.1 bt252.2.2 a1 a2 a3 a4 a5).bind fun bt260 => ((laws_eqCounts.f k bt260.1 bt260.2.1 bt260.2.2.1 bt243.1 bt243.2.1 bt243.2.2.1).bind fun t269 => (if t269 = true then (laws_FnExactAddRay.j0 k a1 a2 a3 a4 a5 bt243.2.2.2 bt260.2.2.2 (bt260.2.2.2 != bt243.2.2.2) a0_0 l0_1 l0_2 bt243.1 bt243.2.1 bt243.2.2.1 bt252.1 bt252.2.1 bt252.2.2 bt260.1 bt260.2.1 bt260.2.2.1) else (laws_FnExactAddRay.j0 k a1 a2 a3 a4 a5 bt243.2.2.2 bt260.2.2.2 true a0_0 l0_1 l0_2 bt243.1 bt243.2.1 bt243.2.2.1 bt252.1 bt252.2.1 bt252.2.2 bt260.1 bt260.2.1 bt260.2.2.1))))))))
theorem laws_FnExactAddRay.mono_l : ∀ k, (∀ y0 y1 y2 y3 y4 y5 y6 y7 y8 y9 y10 y11 y12 y13 y14 y15 y16 y17 y18 y19, LeO (laws_FnExactAddRay.j0 k y0 y1 y2 y3 y4 y5 y6 y7 y8 y9 y10 y11 y12 y13 y14 y15 y16 y17 y18 y19) (laws_FnExactAddRay.j0 (k + 1) y0 y1 y2 y3 y4 y5 y6 y7 y8 y9 y10 y11 y12 y13 y14 y15 y16 y17 y18 y19)) ∧ (∀ y0 y1 y2 y3 y4 y5 y6 y7 y8 y9 y10 y11 y12 y13 y14 y15, LeO (laws_FnExactAddRay.j1 k y0 y1 y2 y3 y4 y5 y6 y7 y8 y9 y10 y11 y12 y13 y14 y15) (laws_FnExactAddRay.j1 (k + 1) y0 y1 y2 y3 y4 y5 y6 y7 y8 y9 y10 y11 y12 y13 y14 y15)) ∧ (∀ y0 y1 y2 y3 y4, LeO (laws_FnExactAddRay.j2 k y0 y1 y2 y3 y4) (laws_FnExactAddRay.j2 (k + 1) y0 y1 y2 y3 y4))
 | 0 => ⟨fun _ _ _ _ _ _ _ _ _ _ _ _ _ _ _ _ _ _ _ _ r h => by simp [laws_FnExactAddRay.j0] at h, fun _ _ _ _ _ _ _ _ _ _ _ _ _ _ _ _ r h => by simp [laws_FnExactAddRay.j1] at h, fun _ _ _ _ _ r h => by simp [laws_FnExactAddRay.j2] at h⟩
 | k + 1 => by
  obtain ⟨ih0, ih1, ih2⟩ := laws_FnExactAddRay.mono_l k
  refine ⟨?_, ?_, ?_⟩
  ·intro y0 y1 y2 y3 y4 y5 y6 y7 y8 y9 y10 y11 y12 y13 y14 y15 y16 y17 y18 y19
   unfold laws_FnExactAddRay.j0
   repeat' first
   | (with_reducible exact ih0 _ _ _ _ _ _ _ _ _ _ _ _ _ _ _ _ _ _ _ _)
   | (with_reducible exact ih1 _ _ _ _ _ _ _ _ _ _ _ _ _ _ _ _)
   | (with_reducible exact ih2 _ _ _ _ _)
   | (with_reducible exact impl_AddRay.mono _ _ _ _ _ _ _ _ _)
   | (with_reducible exact laws_eqCounts.mono _ _ _ _ _ _ _)
   | (with_reducible exact laws_heldCounts.mono _ _ _ _ _)
   | (with_reducible exact laws_markCounts.mono _ _ _ _ _)
   | (with_reducible exact laws_toCounts.mono _ _ _ _)
   | (with_reducible exact spec_AddRay.mono _ _ _ _ _ _ _ _ _)
   | (with_reducible exact LeO.refl _)
   | (with_reducible exact LeO.none _)
   | (with_reducible refine LeO.ite ?_ ?_)
   | (with_reducible refine LeO.bind ?_ (fun _ => ?_))
   | exact ih0 _ _ _ _ _ _ _ _ _ _ _ _ _ _ _ _ _ _ _ _
   | exact ih1 _ _ _ _ _ _ _ _ _ _ _ _ _ _ _ _
   | exact ih2 _ _ _ _ _
   | exact impl_AddRay.mono _ _ _ _ _ _ _ _ _
   | exact laws_eqCounts.mono _ _ _ _ _ _ _
   | exact laws_heldCounts.mono _ _ _ _ _
   | exact laws_markCounts.mono _ _ _ _ _
   | exact laws_toCounts.mono _ _ _ _
   | exact spec_AddRay.mono _ _ _ _ _ _ _ _ _
   | exact LeO.none _
   | refine LeO.ite ?_ ?_
   | refine LeO.bind ?_ (fun _ => ?_)
  ·intro y0 y1 y2 y3 y4 y5 y6 y7 y8 y9 y10 y11 y12 y13 y14 y15
   unfold laws_FnExactAddRay.j1
   repeat' first
   | (with_reducible exact ih0 _ _ _ _ _ _ _ _ _ _ _ _ _ _ _ _ _ _ _ _)
   | (with_reducible exact ih1 _ _ _ _ _ _ _ _ _ _ _ _ _ _ _ _)
   | (with_reducible exact ih2 _ _ _ _ _)
   | (with_reducible exact impl_AddRay.mono _ _ _ _ _ _ _ _ _)
   | (with_reducible exact laws_eqCounts.mono _ _ _ _ _ _ _)
   | (with_reducible exact laws_heldCounts.mono _ _ _ _ _)
   | (with_reducible exact laws_markCounts.mono _ _ _ _ _)
   | (with_reducible exact laws_toCounts.mono _ _ _ _)
   | (with_reducible exact spec_AddRay.mono _ _ _ _ _ _ _ _ _)
   | (with_reducible exact LeO.refl _)
   | (with_reducible exact LeO.none _)
   | (with_reducible refine LeO.ite ?_ ?_)
   | (with_reducible refine LeO.bind ?_ (fun _ => ?_))
   | exact ih0 _ _ _ _ _ _ _ _ _ _ _ _ _ _ _ _ _ _ _ _
   | exact ih1 _ _ _ _ _ _ _ _ _ _ _ _ _ _ _ _
   | exact ih2 _ _ _ _ _
   | exact impl_AddRay.mono _ _ _ _ _ _ _ _ _
   | exact laws_eqCounts.mono _ _ _ _ _ _ _
   | exact laws_heldCounts.mono _ _ _ _ _
   | exact laws_markCounts.mono _ _ _ _ _
   | exact laws_toCounts.mono _ _ _ _
   | exact spec_AddRay.mono _ _ _ _ _ _ _ _ _
   | exact LeO.none _
   | refine LeO.ite ?_ ?_
   | refine LeO.bind ?_ (fun _ => ?_)
  ·intro y0 y1 y2 y3 y4
   unfold laws_FnExactAddRay.j2
   repeat' first
   | (with_reducible exact ih0 _ _ _ _ _ _ _ _ _ _ _ _ _ _ _ _ _ _ _ _)
   | (with_reducible exact ih1 _ _ _ _ _ _ _ _ _ _ _ _ _ _ _ _)
   | (with_reducible exact ih2 _ _ _ _ _)
   | (with_reducible exact impl_AddRay.mono _ _ _ _ _ _ _ _ _)
   | (with_reducible exact laws_eqCounts.mono _ _ _ _ _ _ _)
   | (with_reducible exact laws_heldCounts.mono _ _ _ _ _)
   | (with_reducible exact laws_markCounts.mono _ _ _ _ _)
   | (with_reducible exact laws_toCounts.mono _ _ _ _)
   | (with_reducible exact spec_AddRay.mono _ _ _ _ _ _ _ _ _)
   | (with_reducible exact LeO.refl _)
   | (with_reducible exact LeO.none _)
   | (with_reducible refine LeO.ite ?_ ?_)
   | (with_reducible refine LeO.bind ?_ (fun _ => ?_))
   | exact ih0 _ _ _ _ _ _ _ _ _ _ _ _ _ _ _ _ _ _ _ _
   | exact ih1 _ _ _ _ _ _ _ _ _ _ _ _ _ _ _ _
   | exact ih2 _ _ _ _ _
   | exact impl_AddRay.mono _ _ _ _ _ _ _ _ _
   | exact laws_eqCounts.mono _ _ _ _ _ _ _
   | exact laws_heldCounts.mono _ _ _ _ _
   | exact laws_markCounts.mono _ _ _ _ _
   | exact laws_toCounts.mono _ _ _ _
   | exact spec_AddRay.mono _ _ _ _ _ _ _ _ _
   | exact LeO.none _
   | refine LeO.ite ?_ ?_
   | refine LeO.bind ?_ (fun _ => ?_)
theorem laws_FnExactAddRay.mono : ∀ a0 a1 a2 a3 a4 a5 a6 a7 k, LeO (laws_FnExactAddRay.f k a0 a1 a2 a3 a4 a5 a6 a7) (laws_FnExactAddRay.f (k + 1) a0 a1 a2 a3 a4 a5 a6 a7) := by
 intro a0 a1 a2 a3 a4 a5 a6 a7 k
 obtain ⟨ih0, ih1, ih2⟩ := laws_FnExactAddRay.mono_l k
 unfold laws_FnExactAddRay.f
 repeat' first
   | (with_reducible exact ih0 _ _ _ _ _ _ _ _ _ _ _ _ _ _ _ _ _ _ _ _)
   | (with_reducible exact ih1 _ _ _ _ _ _ _ _ _ _ _ _ _ _ _ _)
   | (with_reducible exact ih2 _ _ _ _ _)
   | (with_reducible exact impl_AddRay.mono _ _ _ _ _ _ _ _ _)
   | (with_reducible exact laws_eqCounts.mono _ _ _ _ _ _ _)
   | (with_reducible exact laws_heldCounts.mono _ _ _ _ _)
   | (with_reducible exact laws_markCounts.mono _ _ _ _ _)
   | (with_reducible exact laws_toCounts.mono _ _ _ _)
   | (with_reducible exact spec_AddRay.mono _ _ _ _ _ _ _ _ _)
   | (with_reducible exact LeO.refl _)
   | (with_reducible exact LeO.none _)
   | (with_reducible refine LeO.ite ?_ ?_)
   | (with_reducible refine LeO.bind ?_ (fun _ => ?_))
   | exact ih0 _ _ _ _ _ _ _ _ _ _ _ _ _ _ _ _ _ _ _ _
   | exact ih1 _ _ _ _ _ _ _ _ _ _ _ _ _ _ _ _
   | exact ih2 _ _ _ _ _
   | exact impl_AddRay.mono _ _ _ _ _ _ _ _ _
   | exact laws_eqCounts.mono _ _ _ _ _ _ _
   | exact laws_heldCounts.mono _ _ _ _ _
   | exact laws_markCounts.mono _ _ _ _ _
   | exact laws_toCounts.mono _ _ _ _
   | exact spec_AddRay.mono _ _ _ _ _ _ _ _ _
   | exact LeO.none _
   | refine LeO.ite ?_ ?_
   | refine LeO.bind ?_ (fun _ => ?_)
set_option maxHeartbeats 8000000 in
set_option maxRecDepth 100000 in
theorem laws_FnExactAddRay.calls (k : Nat) (a0_0 : Int) (A0_1 : Option Addr) (c0_1 : Nat) (l0_1 : List Int) (A0_2 : Option Addr) (c0_2 : Nat) (l0_2 : List Int) (a1 : Int) (a2 : Int) (a3 : Int) (a4 : Int) (a5 : Bool) (r : Bool) (w : World) (hr0_1 : Kd.C (Kd.int .i64) w A0_1 l0_1.length l0_1) (hc0_1 : l0_1.length ≤ c0_1) (hr0_2 : Kd.C (Kd.int .i64) w A0_2 l0_2.length l0_2) (hc0_2 : l0_2.length ≤ c0_2) (h : laws_FnExactAddRay.f k a0_0 l0_1 l0_2 a1 a2 a3 a4 a5 = some r) :
  Calls Try.prog 4 #[.agg #[.int .i64 a0_0, .slice A0_1 l0_1.length c0_1, .slice A0_2 l0_2.length c0_2], .int .i64 a1, .int .i64 a2, .int .i64 a3, .int .i64 a4, .bool a5] w fun e w' => e = .returned (.bool r) ∧ Below w.heap.size w w' := by
 have hu29 := Try.underlying29
 have hu31 := Try.underlying31
 have HR0_1 := Aside0.mk hr0_1
 have HC0_1 := Aside0.mk hc0_1
 clear hr0_1 hc0_1
 have HR0_2 := Aside0.mk hr0_2
 have HC0_2 := Aside0.mk hc0_2
 clear hr0_2 hc0_2
 have HB := a_ (Below.refl w.heap.size w)
 have H : ((laws_szCounts.f a0_0 l0_1 l0_2 1048576).bind fun t235 => (if t235 < 0 then (some true) else ((laws_toCounts.f k a0_0 l0_1 l0_2).bind fun bt236 => ((spec_AddRay.f k bt236.1 bt236.2.1 bt236.2.2 a1 a2 a3 a4 a5).bind fun bt243 => ((laws_toCounts.f k a0_0 l0_1 l0_2).bind fun bt252 => ((impl_AddRay.f k bt252.1 bt252.2.1 bt252.2.2 a1 a2 a3 a4 a5).bind fun bt260 => ((laws_eqCounts.f k bt260.1 bt260.2.1 bt260.2.2.1 bt243.1 bt243.2.1 bt243.2.2.1).bind fun t269 => (if t269 = true then (laws_FnExactAddRay.j0 k a1 a2 a3 a4 a5 bt243.2.2.2 bt260.2.2.2 (bt260.2.2.2 != bt243.2.2.2) a0_0 l0_1 l0_2 bt243.1 bt243.2.1 bt243.2.2.1 bt252.1 bt252.2.1 bt252.2.2 bt260.1 bt260.2.1 bt260.2.2.1) else (laws_FnExactAddRay.j0 k a1 a2 a3 a4 a5 bt243.2.2.2 bt260.2.2.2 true a0_0 l0_1 l0_2 bt243.1 bt243.2.1 bt243.2.2.1 bt252.1 bt252.2.1 bt252.2.2 bt260.1 bt260.2.1 bt260.2.2.1))))))))) = some r := h
 clear h
 replace H := Option.bind_eq_some_iff.mp H
 obtain ⟨t235, A70, H⟩ := H
 have A7 := Aside0.mk A70
 clear A70
 by_cases c8 : t235 < 0
 ·rw [if_pos c8] at H
  have c8b0 : decide (t235 < 0) = true := decide_eq_true c8
  clear c8
  obtain rfl := Option.some.inj H
  go_enter Try.func4, Try.ntmps4
  go_wp2_with (first | ((with_reducible refine gate_dst (N := 6) rfl ?_); refine box_event ?hg (N := 6) ?hd (cs := #[.int .i64 a0_0, .slice A0_1 l0_1.length c0_1, .slice A0_2 l0_2.length c0_2]) (t := 29) ?hr ?_; (case hd => rfl); (case hg => rfl); (case hr => first | (go_simp; done) | (go_simp; rfl)); intro gb234 hg w9 hbox hb; have BK234 := a_ (hbox); have GW234 := a_ (bsg hg HB.out); have GE234 := a_ (bsg hg HB.out); replace HB := a_ (below_step (un HB.out) hb); clear hb hbox hg; have hcz10_0 : _ = some (Value.int .i64 a0_0) := (blk_cell BK234.out 0).trans rfl; have hcz10_1 : _ = some (Value.slice A0_1 l0_1.length c0_1) := (blk_cell BK234.out 1).trans rfl; have hcz10_2 : _ = some (Value.slice A0_2 l0_2.length c0_2) := (blk_cell BK234.out 2).trans rfl; have hfz10_0 := blk_frozen BK234.out 0; have hfz10_1 := blk_frozen BK234.out 1; have hfz10_2 := blk_frozen BK234.out 2) | ((with_reducible refine gate_callee (f := 11) rfl ?_); refine goesL_ (some 26) rfl rfl Try.func11 (by kernel_rfl) rfl #[.agg #[.int .i64 a0_0, .slice A0_1 l0_1.length c0_1, .slice A0_2 l0_2.length c0_2], .int .i64 1048576] rfl (by (try simp only [lA, lB, lC]); first | done | rfl | (simp only [lD, lE]; rfl)) ?_; (with_reducible refine (laws_szCounts.calls a0_0 _ _ l0_1 _ _ l0_2 1048576 t235 _ ?side1 ?side2 ?side3 ?side4 A7.out).mono ?_); (case side1 => exact Kd.C_below HR0_1.out (un HB.out)); (case side2 => exact HC0_1.out); (case side3 => exact Kd.C_below HR0_2.out (un HB.out)); (case side4 => exact HC0_2.out); rintro e w11 ⟨rfl, hb⟩; refine ⟨_, rfl, ?_⟩; replace BK234 := a_ (blk_below (pk BK234.out) hb); replace HB := a_ (below_step (by repeat (with_reducible first | exact HB.out | refine bz ?_ (by assumption) | apply bA | apply bN | apply bD)) hb); clear hb))
  go_ret
  exact ⟨by first | rfl | (simp [errW_none, errW_some] <;> rfl) | (simp [*, errW_none, errW_some] <;> rfl), by repeat (with_reducible first | exact HB.out | refine bz ?_ (by assumption) | apply bA | apply bN | apply bD)⟩
 ·rw [if_neg c8] at H
  have c8b0 : decide (t235 < 0) = false := decide_eq_false c8
  clear c8
  replace H := Option.bind_eq_some_iff.mp H
  obtain ⟨⟨t236, t237, t240⟩, A120, H⟩ := H
  replace H : ((spec_AddRay.f k t236 t237 t240 a1 a2 a3 a4 a5).bind fun bt243 => ((laws_toCounts.f k a0_0 l0_1 l0_2).bind fun bt252 => ((impl_AddRay.f k bt252.1 bt252.2.1 bt252.2.2 a1 a2 a3 a4 a5).bind fun bt260 => ((laws_eqCounts.f k bt260.1 bt260.2.1 bt260.2.2.1 bt243.1 bt243.2.1 bt243.2.2.1).bind fun t269 => (if t269 = true then (laws_FnExactAddRay.j0 k a1 a2 a3 a4 a5 bt243.2.2.2 bt260.2.2.2 (bt260.2.2.2 != bt243.2.2.2) a0_0 l0_1 l0_2 bt243.1 bt243.2.1 bt243.2.2.1 bt252.1 bt252.2.1 bt252.2.2 bt260.1 bt260.2.1 bt260.2.2.1) else (laws_FnExactAddRay.j0 k a1 a2 a3 a4 a5 bt243.2.2.2 bt260.2.2.2 true a0_0 l0_1 l0_2 bt243.1 bt243.2.1 bt243.2.2.1 bt252.1 bt252.2.1 bt252.2.2 bt260.1 bt260.2.1 bt260.2.2.1)))))) = some r := H
  have A12 := Aside0.mk A120
  clear A120
  replace H := Option.bind_eq_some_iff.mp H
  obtain ⟨⟨t243, t244, t247, t250⟩, A130, H⟩ := H
  replace H : ((laws_toCounts.f k a0_0 l0_1 l0_2).bind fun bt252 => ((impl_AddRay.f k bt252.1 bt252.2.1 bt252.2.2 a1 a2 a3 a4 a5).bind fun bt260 => ((laws_eqCounts.f k bt260.1 bt260.2.1 bt260.2.2.1 t243 t244 t247).bind fun t269 => (if t269 = true then (laws_FnExactAddRay.j0 k a1 a2 a3 a4 a5 t250 bt260.2.2.2 (bt260.2.2.2 != t250) a0_0 l0_1 l0_2 t243 t244 t247 bt252.1 bt252.2.1 bt252.2.2 bt260.1 bt260.2.1 bt260.2.2.1) else (laws_FnExactAddRay.j0 k a1 a2 a3 a4 a5 t250 bt260.2.2.2 true a0_0 l0_1 l0_2 t243 t244 t247 bt252.1 bt252.2.1 bt252.2.2 bt260.1 bt260.2.1 bt260.2.2.1))))) = some r := H
  have A13 := Aside0.mk A130
  clear A130
  replace H := Option.bind_eq_some_iff.mp H
  obtain ⟨⟨t252, t253, t256⟩, A140, H⟩ := H
  replace H : ((impl_AddRay.f k t252 t253 t256 a1 a2 a3 a4 a5).bind fun bt260 => ((laws_eqCounts.f k bt260.1 bt260.2.1 bt260.2.2.1 t243 t244 t247).bind fun t269 => (if t269 = true then (laws_FnExactAddRay.j0 k a1 a2 a3 a4 a5 t250 bt260.2.2.2 (bt260.2.2.2 != t250) a0_0 l0_1 l0_2 t243 t244 t247 t252 t253 t256 bt260.1 bt260.2.1 bt260.2.2.1) else (laws_FnExactAddRay.j0 k a1 a2 a3 a4 a5 t250 bt260.2.2.2 true a0_0 l0_1 l0_2 t243 t244 t247 t252 t253 t256 bt260.1 bt260.2.1 bt260.2.2.1)))) = some r := H
  have A14 := Aside0.mk A140
  clear A140
  replace H := Option.bind_eq_some_iff.mp H
  obtain ⟨⟨t260, t261, t264, t267⟩, A150, H⟩ := H
  replace H : ((laws_eqCounts.f k t260 t261 t264 t243 t244 t247).bind fun t269 => (if t269 = true then (laws_FnExactAddRay.j0 k a1 a2 a3 a4 a5 t250 t267 (t267 != t250) a0_0 l0_1 l0_2 t243 t244 t247 t252 t253 t256 t260 t261 t264) else (laws_FnExactAddRay.j0 k a1 a2 a3 a4 a5 t250 t267 true a0_0 l0_1 l0_2 t243 t244 t247 t252 t253 t256 t260 t261 t264))) = some r := H
  have A15 := Aside0.mk A150
  clear A150
  have HC16 := Aside0.mk H
  clear H
  go_enter Try.func4, Try.ntmps4
  go_upto_region 8 with (first | ((with_reducible refine gate_dst (N := 6) rfl ?_); refine box_event ?hg (N := 6) ?hd (cs := #[.int .i64 a0_0, .slice A0_1 l0_1.length c0_1, .slice A0_2 l0_2.length c0_2]) (t := 29) ?hr ?_; (case hd => rfl); (case hg => rfl); (case hr => first | (go_simp; done) | (go_simp; rfl)); intro gb234 hg w17 hbox hb; have BK234 := a_ (hbox); have GW234 := a_ (bsg hg HB.out); have GE234 := a_ (bsg hg HB.out); replace HB := a_ (below_step (un HB.out) hb); clear hb hbox hg; have hcz18_0 : _ = some (Value.int .i64 a0_0) := (blk_cell BK234.out 0).trans rfl; have hcz18_1 : _ = some (Value.slice A0_1 l0_1.length c0_1) := (blk_cell BK234.out 1).trans rfl; have hcz18_2 : _ = some (Value.slice A0_2 l0_2.length c0_2) := (blk_cell BK234.out 2).trans rfl; have hfz18_0 := blk_frozen BK234.out 0; have hfz18_1 := blk_frozen BK234.out 1; have hfz18_2 := blk_frozen BK234.out 2) | ((with_reducible refine gate_callee (f := 11) rfl ?_); refine goesL_ (some 26) rfl rfl Try.func11 (by kernel_rfl) rfl #[.agg #[.int .i64 a0_0, .slice A0_1 l0_1.length c0_1, .slice A0_2 l0_2.length c0_2], .int .i64 1048576] rfl (by (try simp only [lA, lB, lC]); first | done | rfl | (simp only [lD, lE]; rfl)) ?_; (with_reducible refine (laws_szCounts.calls a0_0 _ _ l0_1 _ _ l0_2 1048576 t235 _ ?side1 ?side2 ?side3 ?side4 A7.out).mono ?_); (case side1 => exact Kd.C_below HR0_1.out (un HB.out)); (case side2 => exact HC0_1.out); (case side3 => exact Kd.C_below HR0_2.out (un HB.out)); (case side4 => exact HC0_2.out); rintro e w19 ⟨rfl, hb⟩; refine ⟨_, rfl, ?_⟩; replace BK234 := a_ (blk_below (pk BK234.out) hb); replace HB := a_ (below_step (by repeat (with_reducible first | exact HB.out | refine bz ?_ (by assumption) | apply bA | apply bN | apply bD)) hb); clear hb; have hcz20_0 : _ = some (Value.int .i64 a0_0) := (blk_cell BK234.out 0).trans rfl; have hcz20_1 : _ = some (Value.slice A0_1 l0_1.length c0_1) := (blk_cell BK234.out 1).trans rfl; have hcz20_2 : _ = some (Value.slice A0_2 l0_2.length c0_2) := (blk_cell BK234.out 2).trans rfl; have hfz20_0 := blk_frozen BK234.out 0; have hfz20_1 := blk_frozen BK234.out 1; have hfz20_2 := blk_frozen BK234.out 2) | ((with_reducible refine gate_callee (f := 13) rfl ?_); refine goesL_ (some 31) rfl rfl Try.func13 (by kernel_rfl) rfl #[.agg #[.int .i64 a0_0, .slice A0_1 l0_1.length c0_1, .slice A0_2 l0_2.length c0_2]] rfl (by (try simp only [lA, lB, lC]); first | done | rfl | (simp only [lD, lE]; rfl)) ?_; (with_reducible refine (laws_toCounts.calls k a0_0 _ _ l0_1 _ _ l0_2 t236 t237 t240 _ ?side1 ?side2 ?side3 ?side4 A12.out).mono ?_); (case side1 => exact Kd.C_below HR0_1.out (un HB.out)); (case side2 => exact HC0_1.out); (case side3 => exact Kd.C_below HR0_2.out (un HB.out)); (case side4 => exact HC0_2.out); rintro e w21 ⟨v238, v241, rfl, ho0, ho1, hb⟩; refine ⟨_, rfl, ?_⟩; have HO239 := a_ (Kd.R_lower ho0 (bs HB.out)); have HO242 := a_ (Kd.R_lower ho1 (bs HB.out)); replace BK234 := a_ (blk_below (pk BK234.out) hb); replace HB := a_ (below_step (by repeat (with_reducible first | exact HB.out | refine bz ?_ (by assumption) | apply bA | apply bN | apply bD)) hb); clear hb ho0 ho1; obtain ⟨Ao22, co22, eo22⟩ := Kd.R_slice HO239.out; subst eo22; obtain ⟨Ao23, co23, eo23⟩ := Kd.R_slice HO242.out; subst eo23) | ((with_reducible refine gate_callee (f := 12) rfl ?_); refine goesL_ (some 37) rfl rfl Try.func12 (by kernel_rfl) rfl #[.agg #[.int .i64 t236, .slice Ao22 t237.length co22, .slice Ao23 t240.length co23], .int .i64 a1, .int .i64 a2, .int .i64 a3, .int .i64 a4, .bool a5] rfl (by (try simp only [lA, lB, lC]); first | done | rfl | (simp only [lD, lE]; rfl)) ?_; (with_reducible refine (spec_AddRay.calls k t236 _ _ t237 _ _ t240 a1 a2 a3 a4 a5 t243 t244 t247 t250 _ ?side1 ?side2 ?side3 ?side4 A13.out).mono ?_); (case side1 => exact cu (Kd.R_reads' HO239.out).2.2); (case side2 => exact (Kd.R_reads' HO239.out).2.1); (case side3 => exact cu (Kd.R_reads' HO242.out).2.2); (case side4 => exact (Kd.R_reads' HO242.out).2.1); rintro e w24 ⟨v245, v248, rfl, ho0, ho1, hb⟩; refine ⟨_, rfl, ?_⟩; have HO246 := a_ (Kd.R_lower (nw (nw ho0 HO239.out) HO242.out) (bs HB.out)); have HO249 := a_ (Kd.R_lower (nw (nw ho1 HO239.out) HO242.out) (bs HB.out)); replace HO239 := a_ (ol2 HO239.out hb ho0 ho1); replace HO242 := a_ (ol2 HO242.out hb ho0 ho1); replace BK234 := a_ (blk_below (pk BK234.out) hb); replace HB := a_ (below_step (by repeat (with_reducible first | exact HB.out | refine bz ?_ (by assumption) | apply bA | apply bN | apply bD)) hb); clear hb ho0 ho1) | ((with_reducible refine gate_dst (N := 14) rfl ?_); refine box_event ?hg (N := 14) ?hd (cs := #[.int .i64 0, .slice none 0 0, .slice none 0 0]) (t := 31) ?hr ?_; (case hd => rfl); (case hg => rfl); (case hr => first | (go_simp; done) | (go_simp; rfl)); intro gb251 hg w25 hbox hb; replace HO239 := a_ (Kd.R_below (rk HO239.out) hb); replace HO242 := a_ (Kd.R_below (rk HO242.out) hb); replace HO246 := a_ (Kd.R_below (rk HO246.out) hb); replace HO249 := a_ (Kd.R_below (rk HO249.out) hb); have BK251 := a_ (hbox); have GW251 := a_ (bsg hg HB.out); have GE251 := a_ (bsg hg HB.out); replace HB := a_ (below_step (by repeat (with_reducible first | exact HB.out | refine bz ?_ (by assumption) | apply bA | apply bN | apply bD)) hb); have NB234_251 := a_ (nel hg BK234.out); have NB251_234 := a_ (nle hg BK234.out); replace BK234 := a_ (blk_below (pk BK234.out) hb); clear hb hbox hg; have hnb26 := NB251_234.out; have hnc26 := NB234_251.out; have hcz27_0 : _ = some (Value.int .i64 0) := (blk_cell BK251.out 0).trans rfl; have hcz27_1 : _ = some (Value.slice none 0 0) := (blk_cell BK251.out 1).trans rfl; have hcz27_2 : _ = some (Value.slice none 0 0) := (blk_cell BK251.out 2).trans rfl; have hfz27_0 := blk_frozen BK251.out 0; have hfz27_1 := blk_frozen BK251.out 1; have hfz27_2 := blk_frozen BK251.out 2; obtain ⟨Ao28, co28, eo28⟩ := Kd.R_slice HO246.out; subst eo28; obtain ⟨Ao29, co29, eo29⟩ := Kd.R_slice HO249.out; subst eo29; have hcz30_0 : _ = some (Value.int .i64 a0_0) := (blk_cell BK234.out 0).trans rfl; have hcz30_1 : _ = some (Value.slice A0_1 l0_1.length c0_1) := (blk_cell BK234.out 1).trans rfl; have hcz30_2 : _ = some (Value.slice A0_2 l0_2.length c0_2) := (blk_cell BK234.out 2).trans rfl; have hfz30_0 := blk_frozen BK234.out 0; have hfz30_1 := blk_frozen BK234.out 1; have hfz30_2 := blk_frozen BK234.out 2) | ((with_reducible refine gate_callee (f := 13) rfl ?_); refine goesL_ (some 41) rfl rfl Try.func13 (by kernel_rfl) rfl #[.agg #[.int .i64 a0_0, .slice A0_1 l0_1.length c0_1, .slice A0_2 l0_2.length c0_2]] rfl (by (try simp only [lA, lB, lC]); first | done | rfl | (simp only [lD, lE]; rfl)) ?_; (with_reducible refine (laws_toCounts.calls k a0_0 _ _ l0_1 _ _ l0_2 t252 t253 t256 _ ?side1 ?side2 ?side3 ?side4 A14.out).mono ?_); (case side1 => exact Kd.C_below HR0_1.out (by repeat (with_reducible first | exact HB.out | refine bz ?_ (by assumption) | apply bA | apply bN | apply bD))); (case side2 => exact HC0_1.out); (case side3 => exact Kd.C_below HR0_2.out (by repeat (with_reducible first | exact HB.out | refine bz ?_ (by assumption) | apply bA | apply bN | apply bD))); (case side4 => exact HC0_2.out); rintro e w31 ⟨v254, v257, rfl, ho0, ho1, hb⟩; refine ⟨_, rfl, ?_⟩; have HO255 := a_ (Kd.R_lower (nw (nw (nw (nw ho0 HO239.out) HO242.out) HO246.out) HO249.out) (bs HB.out)); have HO258 := a_ (Kd.R_lower (nw (nw (nw (nw ho1 HO239.out) HO242.out) HO246.out) HO249.out) (bs HB.out)); replace HO239 := a_ (ol2 (Kd.R_mono (fr3 HO239.out BK251.out (by decide) 0 (.int .i64 t243) 1 (.slice Ao28 t244.length co28) 2 (.slice Ao29 t247.length co29)) (fun _ h_ => h_.1)) hb ho0 ho1); replace HO242 := a_ (ol2 (Kd.R_mono (fr3 HO242.out BK251.out (by decide) 0 (.int .i64 t243) 1 (.slice Ao28 t244.length co28) 2 (.slice Ao29 t247.length co29)) (fun _ h_ => h_.1)) hb ho0 ho1); replace HO246 := a_ (ol2 (Kd.R_mono (fr3 HO246.out BK251.out (by decide) 0 (.int .i64 t243) 1 (.slice Ao28 t244.length co28) 2 (.slice Ao29 t247.length co29)) (fun _ h_ => h_.1)) hb ho0 ho1); replace HO249 := a_ (ol2 (Kd.R_mono (fr3 HO249.out BK251.out (by decide) 0 (.int .i64 t243) 1 (.slice Ao28 t244.length co28) 2 (.slice Ao29 t247.length co29)) (fun _ h_ => h_.1)) hb ho0 ho1); replace BK234 := a_ (blk_below (g := gb234) (o := .cells #[.int .i64 a0_0, .slice A0_1 l0_1.length c0_1, .slice A0_2 l0_2.length c0_2] 29 (0, 0)) (by refine pk ?_; refine blk_far ?_ NB234_251.out _; refine pk ?_; refine blk_far ?_ NB234_251.out _; refine pk ?_; refine blk_far ?_ NB234_251.out _; refine pk ?_; exact BK234.out) hb); replace BK251 := a_ (blk_below (g := gb251) (o := .cells #[.int .i64 t243, .slice Ao28 t244.length co28, .slice Ao29 t247.length co29] 31 (0, 0)) (by refine pk ?_; refine blk_put (cs := #[.int .i64 t243, .slice Ao28 t244.length co28, .slice none 0 0]) ?_ 2 _ rfl; refine pk ?_; refine blk_put (cs := #[.int .i64 t243, .slice none 0 0, .slice none 0 0]) ?_ 1 _ rfl; refine pk ?_; refine blk_put (cs := #[.int .i64 0, .slice none 0 0, .slice none 0 0]) ?_ 0 _ rfl; refine pk ?_; exact BK251.out) hb); replace HB := a_ (below_step (by repeat (with_reducible first | exact HB.out | refine bz ?_ (by assumption) | apply bA | apply bN | apply bD)) hb); clear hb ho0 ho1) | ((with_reducible refine gate_dst (N := 16) rfl ?_); refine box_event ?hg (N := 16) ?hd (cs := #[.int .i64 0, .slice none 0 0, .slice none 0 0]) (t := 31) ?hr ?_; (case hd => rfl); (case hg => rfl); (case hr => first | (go_simp; done) | (go_simp; rfl)); intro gb259 hg w32 hbox hb; replace HO239 := a_ (Kd.R_below (rk HO239.out) hb); replace HO242 := a_ (Kd.R_below (rk HO242.out) hb); replace HO246 := a_ (Kd.R_below (rk HO246.out) hb); replace HO249 := a_ (Kd.R_below (rk HO249.out) hb); replace HO255 := a_ (Kd.R_below (rk HO255.out) hb); replace HO258 := a_ (Kd.R_below (rk HO258.out) hb); have BK259 := a_ (hbox); have GW259 := a_ (bsg hg HB.out); have GE259 := a_ (bsg hg HB.out); replace HB := a_ (below_step (by repeat (with_reducible first | exact HB.out | refine bz ?_ (by assumption) | apply bA | apply bN | apply bD)) hb); have NB234_259 := a_ (nel hg BK234.out); have NB259_234 := a_ (nle hg BK234.out); replace BK234 := a_ (blk_below (pk BK234.out) hb); have NB251_259 := a_ (nel hg BK251.out); have NB259_251 := a_ (nle hg BK251.out); replace BK251 := a_ (blk_below (pk BK251.out) hb); clear hb hbox hg; have hnb33 := NB259_234.out; have hnc33 := NB234_259.out; have hnb34 := NB259_251.out; have hnc34 := NB251_259.out; have hcz35_0 : _ = some (Value.int .i64 0) := (blk_cell BK259.out 0).trans rfl; have hcz35_1 : _ = some (Value.slice none 0 0) := (blk_cell BK259.out 1).trans rfl; have hcz35_2 : _ = some (Value.slice none 0 0) := (blk_cell BK259.out 2).trans rfl; have hfz35_0 := blk_frozen BK259.out 0; have hfz35_1 := blk_frozen BK259.out 1; have hfz35_2 := blk_frozen BK259.out 2; obtain ⟨Ao36, co36, eo36⟩ := Kd.R_slice HO255.out; subst eo36; obtain ⟨Ao37, co37, eo37⟩ := Kd.R_slice HO258.out; subst eo37) | ((with_reducible refine gate_callee (f := 14) rfl ?_); refine goesL_ (some 49) rfl rfl Try.func14 (by kernel_rfl) rfl #[.agg #[.int .i64 t252, .slice Ao36 t253.length co36, .slice Ao37 t256.length co37], .int .i64 a1, .int .i64 a2, .int .i64 a3, .int .i64 a4, .bool a5] rfl (by (try simp only [lA, lB, lC]); first | done | rfl | (simp only [lD, lE]; rfl)) ?_; (with_reducible refine (impl_AddRay.calls k t252 _ _ t253 _ _ t256 a1 a2 a3 a4 a5 t260 t261 t264 t267 _ ?side1 ?side2 ?side3 ?side4 A15.out).mono ?_); (case side1 => exact cu (Kd.R_reads' (fr3 HO255.out BK259.out (by decide) 0 (.int .i64 t252) 1 (.slice Ao36 t253.length co36) 2 (.slice Ao37 t256.length co37))).2.2); (case side2 => exact (Kd.R_reads' HO255.out).2.1); (case side3 => exact cu (Kd.R_reads' (fr3 HO258.out BK259.out (by decide) 0 (.int .i64 t252) 1 (.slice Ao36 t253.length co36) 2 (.slice Ao37 t256.length co37))).2.2); (case side4 => exact (Kd.R_reads' HO258.out).2.1); rintro e w38 ⟨v262, v265, rfl, ho0, ho1, hb⟩; refine ⟨_, rfl, ?_⟩; have HO263 := a_ (Kd.R_lower (nw (nw (nw (nw (nw (nw ho0 HO239.out) HO242.out) HO246.out) HO249.out) HO255.out) HO258.out) (bs HB.out)); have HO266 := a_ (Kd.R_lower (nw (nw (nw (nw (nw (nw ho1 HO239.out) HO242.out) HO246.out) HO249.out) HO255.out) HO258.out) (bs HB.out)); replace HO239 := a_ (ol2 (Kd.R_mono (fr3 HO239.out BK259.out (by decide) 0 (.int .i64 t252) 1 (.slice Ao36 t253.length co36) 2 (.slice Ao37 t256.length co37)) (fun _ h_ => h_.1)) hb ho0 ho1); replace HO242 := a_ (ol2 (Kd.R_mono (fr3 HO242.out BK259.out (by decide) 0 (.int .i64 t252) 1 (.slice Ao36 t253.length co36) 2 (.slice Ao37 t256.length co37)) (fun _ h_ => h_.1)) hb ho0 ho1); replace HO246 := a_ (ol2 (Kd.R_mono (fr3 HO246.out BK259.out (by decide) 0 (.int .i64 t252) 1 (.slice Ao36 t253.length co36) 2 (.slice Ao37 t256.length co37)) (fun _ h_ => h_.1)) hb ho0 ho1); replace HO249 := a_ (ol2 (Kd.R_mono (fr3 HO249.out BK259.out (by decide) 0 (.int .i64 t252) 1 (.slice Ao36 t253.length co36) 2 (.slice Ao37 t256.length co37)) (fun _ h_ => h_.1)) hb ho0 ho1); replace HO255 := a_ (ol2 (Kd.R_mono (fr3 HO255.out BK259.out (by decide) 0 (.int .i64 t252) 1 (.slice Ao36 t253.length co36) 2 (.slice Ao37 t256.length co37)) (fun _ h_ => h_.1)) hb ho0 ho1); replace HO258 := a_ (ol2 (Kd.R_mono (fr3 HO258.out BK259.out (by decide) 0 (.int .i64 t252) 1 (.slice Ao36 t253.length co36) 2 (.slice Ao37 t256.length co37)) (fun _ h_ => h_.1)) hb ho0 ho1); replace BK234 := a_ (blk_below (g := gb234) (o := .cells #[.int .i64 a0_0, .slice A0_1 l0_1.length c0_1, .slice A0_2 l0_2.length c0_2] 29 (0, 0)) (by refine pk ?_; refine blk_far ?_ NB234_259.out _; refine pk ?_; refine blk_far ?_ NB234_259.out _; refine pk ?_; refine blk_far ?_ NB234_259.out _; refine pk ?_; exact BK234.out) hb); replace BK251 := a_ (blk_below (g := gb251) (o := .cells #[.int .i64 t243, .slice Ao28 t244.length co28, .slice Ao29 t247.length co29] 31 (0, 0)) (by refine pk ?_; refine blk_far ?_ NB251_259.out _; refine pk ?_; refine blk_far ?_ NB251_259.out _; refine pk ?_; refine blk_far ?_ NB251_259.out _; refine pk ?_; exact BK251.out) hb); replace BK259 := a_ (blk_below (g := gb259) (o := .cells #[.int .i64 t252, .slice Ao36 t253.length co36, .slice Ao37 t256.length co37] 31 (0, 0)) (by refine pk ?_; refine blk_put (cs := #[.int .i64 t252, .slice Ao36 t253.length co36, .slice none 0 0]) ?_ 2 _ rfl; refine pk ?_; refine blk_put (cs := #[.int .i64 t252, .slice none 0 0, .slice none 0 0]) ?_ 1 _ rfl; refine pk ?_; refine blk_put (cs := #[.int .i64 0, .slice none 0 0, .slice none 0 0]) ?_ 0 _ rfl; refine pk ?_; exact BK259.out) hb); replace HB := a_ (below_step (by repeat (with_reducible first | exact HB.out | refine bz ?_ (by assumption) | apply bA | apply bN | apply bD)) hb); clear hb ho0 ho1) | ((with_reducible refine gate_dst (N := 17) rfl ?_); refine box_event ?hg (N := 17) ?hd (cs := #[.int .i64 0, .slice none 0 0, .slice none 0 0]) (t := 31) ?hr ?_; (case hd => rfl); (case hg => rfl); (case hr => first | (go_simp; done) | (go_simp; rfl)); intro gb268 hg w39 hbox hb; replace HO239 := a_ (Kd.R_below (rk HO239.out) hb); replace HO242 := a_ (Kd.R_below (rk HO242.out) hb); replace HO246 := a_ (Kd.R_below (rk HO246.out) hb); replace HO249 := a_ (Kd.R_below (rk HO249.out) hb); replace HO255 := a_ (Kd.R_below (rk HO255.out) hb); replace HO258 := a_ (Kd.R_below (rk HO258.out) hb); replace HO263 := a_ (Kd.R_below (rk HO263.out) hb); replace HO266 := a_ (Kd.R_below (rk HO266.out) hb); have BK268 := a_ (hbox); have GW268 := a_ (bsg hg HB.out); have GE268 := a_ (bsg hg HB.out); replace HB := a_ (below_step (by repeat (with_reducible first | exact HB.out | refine bz ?_ (by assumption) | apply bA | apply bN | apply bD)) hb); have NB234_268 := a_ (nel hg BK234.out); have NB268_234 := a_ (nle hg BK234.out); replace BK234 := a_ (blk_below (pk BK234.out) hb); have NB251_268 := a_ (nel hg BK251.out); have NB268_251 := a_ (nle hg BK251.out); replace BK251 := a_ (blk_below (pk BK251.out) hb); have NB259_268 := a_ (nel hg BK259.out); have NB268_259 := a_ (nle hg BK259.out); replace BK259 := a_ (blk_below (pk BK259.out) hb); clear hb hbox hg; have hnb40 := NB268_234.out; have hnc40 := NB234_268.out; have hnb41 := NB268_251.out; have hnc41 := NB251_268.out; have hnb42 := NB268_259.out; have hnc42 := NB259_268.out; have hcz43_0 : _ = some (Value.int .i64 0) := (blk_cell BK268.out 0).trans rfl; have hcz43_1 : _ = some (Value.slice none 0 0) := (blk_cell BK268.out 1).trans rfl; have hcz43_2 : _ = some (Value.slice none 0 0) := (blk_cell BK268.out 2).trans rfl; have hfz43_0 := blk_frozen BK268.out 0; have hfz43_1 := blk_frozen BK268.out 1; have hfz43_2 := blk_frozen BK268.out 2; obtain ⟨Ao44, co44, eo44⟩ := Kd.R_slice HO263.out; subst eo44; obtain ⟨Ao45, co45, eo45⟩ := Kd.R_slice HO266.out; subst eo45))
  (try simp only [Act.put, sB, sC, sD])
  go_cut [60] (fun v60 wc => ∃ (kq : Nat) (x60_15 : Bool), v60 = .bool x60_15 ∧ Aside0 (laws_FnExactAddRay.j0 kq a1 a2 a3 a4 a5 t250 t267 x60_15 a0_0 l0_1 l0_2 t243 t244 t247 t252 t253 t256 t260 t261 t264 = some r) ∧ Aside0 (kq ≤ k) ∧ Aside0 (Kd.R (Kd.int .i64) 3 wc w.heap.size (fun k_ => some k_ ≠ ((.slice Ao29 t247.length co29) : Value).ownBlock ∧ some k_ ≠ ((.slice Ao36 t253.length co36) : Value).ownBlock ∧ some k_ ≠ ((.slice Ao37 t256.length co37) : Value).ownBlock ∧ some k_ ≠ ((.slice Ao44 t261.length co44) : Value).ownBlock ∧ some k_ ≠ ((.slice Ao45 t264.length co45) : Value).ownBlock) (.slice Ao28 t244.length co28) t244) ∧ Aside0 (Kd.R (Kd.int .i64) 3 wc w.heap.size (fun k_ => some k_ ≠ ((.slice Ao28 t244.length co28) : Value).ownBlock ∧ some k_ ≠ ((.slice Ao36 t253.length co36) : Value).ownBlock ∧ some k_ ≠ ((.slice Ao37 t256.length co37) : Value).ownBlock ∧ some k_ ≠ ((.slice Ao44 t261.length co44) : Value).ownBlock ∧ some k_ ≠ ((.slice Ao45 t264.length co45) : Value).ownBlock) (.slice Ao29 t247.length co29) t247) ∧ Aside0 (Kd.R (Kd.int .i64) 3 wc w.heap.size (fun k_ => some k_ ≠ ((.slice Ao28 t244.length co28) : Value).ownBlock ∧ some k_ ≠ ((.slice Ao29 t247.length co29) : Value).ownBlock ∧ some k_ ≠ ((.slice Ao37 t256.length co37) : Value).ownBlock ∧ some k_ ≠ ((.slice Ao44 t261.length co44) : Value).ownBlock ∧ some k_ ≠ ((.slice Ao45 t264.length co45) : Value).ownBlock) (.slice Ao36 t253.length co36) t253) ∧ Aside0 (Kd.R (Kd.int .i64) 3 wc w.heap.size (fun k_ => some k_ ≠ ((.slice Ao28 t244.length co28) : Value).ownBlock ∧ some k_ ≠ ((.slice Ao29 t247.length co29) : Value).ownBlock ∧ some k_ ≠ ((.slice Ao36 t253.length co36) : Value).ownBlock ∧ some k_ ≠ ((.slice Ao44 t261.length co44) : Value).ownBlock ∧ some k_ ≠ ((.slice Ao45 t264.length co45) : Value).ownBlock) (.slice Ao37 t256.length co37) t256) ∧ Aside0 (Kd.R (Kd.int .i64) 3 wc w.heap.size (fun k_ => some k_ ≠ ((.slice Ao28 t244.length co28) : Value).ownBlock ∧ some k_ ≠ ((.slice Ao29 t247.length co29) : Value).ownBlock ∧ some k_ ≠ ((.slice Ao36 t253.length co36) : Value).ownBlock ∧ some k_ ≠ ((.slice Ao37 t256.length co37) : Value).ownBlock ∧ some k_ ≠ ((.slice Ao45 t264.length co45) : Value).ownBlock) (.slice Ao44 t261.length co44) t261) ∧ Aside0 (Kd.R (Kd.int .i64) 3 wc w.heap.size (fun k_ => some k_ ≠ ((.slice Ao28 t244.length co28) : Value).ownBlock ∧ some k_ ≠ ((.slice Ao29 t247.length co29) : Value).ownBlock ∧ some k_ ≠ ((.slice Ao36 t253.length co36) : Value).ownBlock ∧ some k_ ≠ ((.slice Ao37 t256.length co37) : Value).ownBlock ∧ some k_ ≠ ((.slice Ao44 t261.length co44) : Value).ownBlock) (.slice Ao45 t264.length co45) t264) ∧ Aside0 (wc.heap[gb234]? = some (.cells #[.int .i64 a0_0, (.slice A0_1 l0_1.length c0_1), (.slice A0_2 l0_2.length c0_2)] 29 (0, 0))) ∧ Aside0 (wc.heap[gb251]? = some (.cells #[.int .i64 t243, (.slice Ao28 t244.length co28), (.slice Ao29 t247.length co29)] 31 (0, 0))) ∧ Aside0 (wc.heap[gb259]? = some (.cells #[.int .i64 t252, (.slice Ao36 t253.length co36), (.slice Ao37 t256.length co37)] 31 (0, 0))) ∧ Aside0 (wc.heap[gb268]? = some (.cells #[.int .i64 t260, (.slice Ao44 t261.length co44), (.slice Ao45 t264.length co45)] 31 (0, 0))) ∧ Aside0 (Below w.heap.size w wc))
  case first =>
   have H := HC16.out
   clear HC16
   replace H := Option.bind_eq_some_iff.mp H
   obtain ⟨t269, A460, H⟩ := H
   have A46 := Aside0.mk A460
   clear A460
   by_cases c47 : t269 = true
   ·subst c47
    have H1 : (laws_FnExactAddRay.j0 k a1 a2 a3 a4 a5 t250 t267 (t267 != t250) a0_0 l0_1 l0_2 t243 t244 t247 t252 t253 t256 t260 t261 t264) = some r := by rw [if_pos rfl] at H; exact H
    clear H
    have H := H1
    clear H1
    have H' := Aside0.mk H
    clear H
    have hnb48 := NB268_234.out
    have hnc48 := NB234_268.out
    have hnb49 := NB268_251.out
    have hnc49 := NB251_268.out
    have hnb50 := NB268_259.out
    have hnc50 := NB259_268.out
    have hcz51_0 : _ = some (Value.int .i64 0) := (blk_cell BK268.out 0).trans rfl
    have hcz51_1 : _ = some (Value.slice none 0 0) := (blk_cell BK268.out 1).trans rfl
    have hcz51_2 : _ = some (Value.slice none 0 0) := (blk_cell BK268.out 2).trans rfl
    have hfz51_0 := blk_frozen BK268.out 0
    have hfz51_1 := blk_frozen BK268.out 1
    have hfz51_2 := blk_frozen BK268.out 2
    have hnb52 := NB251_234.out
    have hnc52 := NB234_251.out
    have hnb53 := NB251_259.out
    have hnc53 := NB259_251.out
    have hcz54_0 : _ = some (Value.int .i64 t243) := (blk_cell BK251.out 0).trans rfl
    have hcz54_1 : _ = some (Value.slice Ao28 t244.length co28) := (blk_cell BK251.out 1).trans rfl
    have hcz54_2 : _ = some (Value.slice Ao29 t247.length co29) := (blk_cell BK251.out 2).trans rfl
    have hfz54_0 := blk_frozen BK251.out 0
    have hfz54_1 := blk_frozen BK251.out 1
    have hfz54_2 := blk_frozen BK251.out 2
    go_wp2_with (first | ((with_reducible refine gate_callee (f := 15) rfl ?_); refine goesL_ (some 54) rfl rfl Try.func15 (by kernel_rfl) rfl #[.agg #[.int .i64 t260, .slice Ao44 t261.length co44, .slice Ao45 t264.length co45], .agg #[.int .i64 t243, .slice Ao28 t244.length co28, .slice Ao29 t247.length co29]] rfl (by (try simp only [lA, lB, lC]); first | done | rfl | (simp only [lD, lE]; rfl)) ?_; (with_reducible refine (laws_eqCounts.calls k t260 _ _ t261 _ _ t264 t243 _ _ t244 _ _ t247 true _ ?side1 ?side2 ?side3 ?side4 ?side5 ?side6 ?side7 ?side8 A46.out).mono ?_); (case side1 => exact cu (Kd.R_reads' (fr3 HO263.out BK268.out (by decide) 0 (.int .i64 t260) 1 (.slice Ao44 t261.length co44) 2 (.slice Ao45 t264.length co45))).2.2); (case side2 => exact (Kd.R_reads' HO263.out).2.1); (case side3 => exact cu (Kd.R_reads' (fr3 HO266.out BK268.out (by decide) 0 (.int .i64 t260) 1 (.slice Ao44 t261.length co44) 2 (.slice Ao45 t264.length co45))).2.2); (case side4 => exact (Kd.R_reads' HO266.out).2.1); (case side5 => exact cu (Kd.R_reads' (fr3 HO246.out BK268.out (by decide) 0 (.int .i64 t260) 1 (.slice Ao44 t261.length co44) 2 (.slice Ao45 t264.length co45))).2.2); (case side6 => exact (Kd.R_reads' HO246.out).2.1); (case side7 => exact cu (Kd.R_reads' (fr3 HO249.out BK268.out (by decide) 0 (.int .i64 t260) 1 (.slice Ao44 t261.length co44) 2 (.slice Ao45 t264.length co45))).2.2); (case side8 => exact (Kd.R_reads' HO249.out).2.1); rintro e w55 ⟨rfl, hb⟩; refine ⟨_, rfl, ?_⟩; replace HO239 := a_ (Kd.R_below (rk (Kd.R_mono (fr3 HO239.out BK268.out (by decide) 0 (.int .i64 t260) 1 (.slice Ao44 t261.length co44) 2 (.slice Ao45 t264.length co45)) (fun _ h_ => h_.1))) hb); replace HO242 := a_ (Kd.R_below (rk (Kd.R_mono (fr3 HO242.out BK268.out (by decide) 0 (.int .i64 t260) 1 (.slice Ao44 t261.length co44) 2 (.slice Ao45 t264.length co45)) (fun _ h_ => h_.1))) hb); replace HO246 := a_ (Kd.R_below (rk (Kd.R_mono (fr3 HO246.out BK268.out (by decide) 0 (.int .i64 t260) 1 (.slice Ao44 t261.length co44) 2 (.slice Ao45 t264.length co45)) (fun _ h_ => h_.1))) hb); replace HO249 := a_ (Kd.R_below (rk (Kd.R_mono (fr3 HO249.out BK268.out (by decide) 0 (.int .i64 t260) 1 (.slice Ao44 t261.length co44) 2 (.slice Ao45 t264.length co45)) (fun _ h_ => h_.1))) hb); replace HO255 := a_ (Kd.R_below (rk (Kd.R_mono (fr3 HO255.out BK268.out (by decide) 0 (.int .i64 t260) 1 (.slice Ao44 t261.length co44) 2 (.slice Ao45 t264.length co45)) (fun _ h_ => h_.1))) hb); replace HO258 := a_ (Kd.R_below (rk (Kd.R_mono (fr3 HO258.out BK268.out (by decide) 0 (.int .i64 t260) 1 (.slice Ao44 t261.length co44) 2 (.slice Ao45 t264.length co45)) (fun _ h_ => h_.1))) hb); replace HO263 := a_ (Kd.R_below (rk (Kd.R_mono (fr3 HO263.out BK268.out (by decide) 0 (.int .i64 t260) 1 (.slice Ao44 t261.length co44) 2 (.slice Ao45 t264.length co45)) (fun _ h_ => h_.1))) hb); replace HO266 := a_ (Kd.R_below (rk (Kd.R_mono (fr3 HO266.out BK268.out (by decide) 0 (.int .i64 t260) 1 (.slice Ao44 t261.length co44) 2 (.slice Ao45 t264.length co45)) (fun _ h_ => h_.1))) hb); replace BK234 := a_ (blk_below (g := gb234) (o := .cells #[.int .i64 a0_0, .slice A0_1 l0_1.length c0_1, .slice A0_2 l0_2.length c0_2] 29 (0, 0)) (by refine pk ?_; refine blk_far ?_ NB234_268.out _; refine pk ?_; refine blk_far ?_ NB234_268.out _; refine pk ?_; refine blk_far ?_ NB234_268.out _; refine pk ?_; exact BK234.out) hb); replace BK251 := a_ (blk_below (g := gb251) (o := .cells #[.int .i64 t243, .slice Ao28 t244.length co28, .slice Ao29 t247.length co29] 31 (0, 0)) (by refine pk ?_; refine blk_far ?_ NB251_268.out _; refine pk ?_; refine blk_far ?_ NB251_268.out _; refine pk ?_; refine blk_far ?_ NB251_268.out _; refine pk ?_; exact BK251.out) hb); replace BK259 := a_ (blk_below (g := gb259) (o := .cells #[.int .i64 t252, .slice Ao36 t253.length co36, .slice Ao37 t256.length co37] 31 (0, 0)) (by refine pk ?_; refine blk_far ?_ NB259_268.out _; refine pk ?_; refine blk_far ?_ NB259_268.out _; refine pk ?_; refine blk_far ?_ NB259_268.out _; refine pk ?_; exact BK259.out) hb); replace BK268 := a_ (blk_below (g := gb268) (o := .cells #[.int .i64 t260, .slice Ao44 t261.length co44, .slice Ao45 t264.length co45] 31 (0, 0)) (by refine pk ?_; refine blk_put (cs := #[.int .i64 t260, .slice Ao44 t261.length co44, .slice none 0 0]) ?_ 2 _ rfl; refine pk ?_; refine blk_put (cs := #[.int .i64 t260, .slice none 0 0, .slice none 0 0]) ?_ 1 _ rfl; refine pk ?_; refine blk_put (cs := #[.int .i64 0, .slice none 0 0, .slice none 0 0]) ?_ 0 _ rfl; refine pk ?_; exact BK268.out) hb); replace HB := a_ (below_step (by repeat (with_reducible first | exact HB.out | refine bz ?_ (by assumption) | apply bA | apply bN | apply bD)) hb); clear hb))
    go_meet
    case rel => exact ⟨_, ((t267 != t250)), (by first | rfl | (simp; done) | (simp [*]; done)), H', ⟨by first | omega | exact Nat.le_refl _⟩, ⟨rk (Kd.R_mono HO246.out (fun _ hk => ⟨hk.1.1.1.1.1.1, hk.1.1.1.2, hk.1.1.2, hk.1.2, hk.2⟩))⟩, ⟨rk (Kd.R_mono HO249.out (fun _ hk => ⟨hk.1.1.1.1.1.1, hk.1.1.1.2, hk.1.1.2, hk.1.2, hk.2⟩))⟩, ⟨rk (Kd.R_mono HO255.out (fun _ hk => ⟨hk.1.1.1.2, hk.1.1.2, hk.1.1.1.1.1.1, hk.1.2, hk.2⟩))⟩, ⟨rk (Kd.R_mono HO258.out (fun _ hk => ⟨hk.1.1.1.2, hk.1.1.2, hk.1.1.1.1.1.1, hk.1.2, hk.2⟩))⟩, ⟨rk (Kd.R_mono HO263.out (fun _ hk => ⟨hk.1.1.1.2, hk.1.1.2, hk.1.2, hk.2, hk.1.1.1.1.1.1⟩))⟩, ⟨rk (Kd.R_mono HO266.out (fun _ hk => ⟨hk.1.1.1.2, hk.1.1.2, hk.1.2, hk.2, hk.1.1.1.1.1.1⟩))⟩, ⟨pk BK234.out⟩, ⟨pk BK251.out⟩, ⟨pk BK259.out⟩, ⟨pk BK268.out⟩, ⟨by repeat (with_reducible first | exact HB.out | refine bz ?_ (by assumption) | apply bA | apply bN | apply bD)⟩⟩
   ·replace c47 := Bool.eq_false_iff.mpr c47
    subst c47
    have H1 : (laws_FnExactAddRay.j0 k a1 a2 a3 a4 a5 t250 t267 true a0_0 l0_1 l0_2 t243 t244 t247 t252 t253 t256 t260 t261 t264) = some r := by rw [if_neg (show ¬ (false = true) by decide)] at H; exact H
    clear H
    have H := H1
    clear H1
    have H' := Aside0.mk H
    clear H
    have hnb56 := NB268_234.out
    have hnc56 := NB234_268.out
    have hnb57 := NB268_251.out
    have hnc57 := NB251_268.out
    have hnb58 := NB268_259.out
    have hnc58 := NB259_268.out
    have hcz59_0 : _ = some (Value.int .i64 0) := (blk_cell BK268.out 0).trans rfl
    have hcz59_1 : _ = some (Value.slice none 0 0) := (blk_cell BK268.out 1).trans rfl
    have hcz59_2 : _ = some (Value.slice none 0 0) := (blk_cell BK268.out 2).trans rfl
    have hfz59_0 := blk_frozen BK268.out 0
    have hfz59_1 := blk_frozen BK268.out 1
    have hfz59_2 := blk_frozen BK268.out 2
    have hnb60 := NB251_234.out
    have hnc60 := NB234_251.out
    have hnb61 := NB251_259.out
    have hnc61 := NB259_251.out
    have hcz62_0 : _ = some (Value.int .i64 t243) := (blk_cell BK251.out 0).trans rfl
    have hcz62_1 : _ = some (Value.slice Ao28 t244.length co28) := (blk_cell BK251.out 1).trans rfl
    have hcz62_2 : _ = some (Value.slice Ao29 t247.length co29) := (blk_cell BK251.out 2).trans rfl
    have hfz62_0 := blk_frozen BK251.out 0
    have hfz62_1 := blk_frozen BK251.out 1
    have hfz62_2 := blk_frozen BK251.out 2
    go_wp2_with (first | ((with_reducible refine gate_callee (f := 15) rfl ?_); refine goesL_ (some 54) rfl rfl Try.func15 (by kernel_rfl) rfl #[.agg #[.int .i64 t260, .slice Ao44 t261.length co44, .slice Ao45 t264.length co45], .agg #[.int .i64 t243, .slice Ao28 t244.length co28, .slice Ao29 t247.length co29]] rfl (by (try simp only [lA, lB, lC]); first | done | rfl | (simp only [lD, lE]; rfl)) ?_; (with_reducible refine (laws_eqCounts.calls k t260 _ _ t261 _ _ t264 t243 _ _ t244 _ _ t247 false _ ?side1 ?side2 ?side3 ?side4 ?side5 ?side6 ?side7 ?side8 A46.out).mono ?_); (case side1 => exact cu (Kd.R_reads' (fr3 HO263.out BK268.out (by decide) 0 (.int .i64 t260) 1 (.slice Ao44 t261.length co44) 2 (.slice Ao45 t264.length co45))).2.2); (case side2 => exact (Kd.R_reads' HO263.out).2.1); (case side3 => exact cu (Kd.R_reads' (fr3 HO266.out BK268.out (by decide) 0 (.int .i64 t260) 1 (.slice Ao44 t261.length co44) 2 (.slice Ao45 t264.length co45))).2.2); (case side4 => exact (Kd.R_reads' HO266.out).2.1); (case side5 => exact cu (Kd.R_reads' (fr3 HO246.out BK268.out (by decide) 0 (.int .i64 t260) 1 (.slice Ao44 t261.length co44) 2 (.slice Ao45 t264.length co45))).2.2); (case side6 => exact (Kd.R_reads' HO246.out).2.1); (case side7 => exact cu (Kd.R_reads' (fr3 HO249.out BK268.out (by decide) 0 (.int .i64 t260) 1 (.slice Ao44 t261.length co44) 2 (.slice Ao45 t264.length co45))).2.2); (case side8 => exact (Kd.R_reads' HO249.out).2.1); rintro e w63 ⟨rfl, hb⟩; refine ⟨_, rfl, ?_⟩; replace HO239 := a_ (Kd.R_below (rk (Kd.R_mono (fr3 HO239.out BK268.out (by decide) 0 (.int .i64 t260) 1 (.slice Ao44 t261.length co44) 2 (.slice Ao45 t264.length co45)) (fun _ h_ => h_.1))) hb); replace HO242 := a_ (Kd.R_below (rk (Kd.R_mono (fr3 HO242.out BK268.out (by decide) 0 (.int .i64 t260) 1 (.slice Ao44 t261.length co44) 2 (.slice Ao45 t264.length co45)) (fun _ h_ => h_.1))) hb); replace HO246 := a_ (Kd.R_below (rk (Kd.R_mono (fr3 HO246.out BK268.out (by decide) 0 (.int .i64 t260) 1 (.slice Ao44 t261.length co44) 2 (.slice Ao45 t264.length co45)) (fun _ h_ => h_.1))) hb); replace HO249 := a_ (Kd.R_below (rk (Kd.R_mono (fr3 HO249.out BK268.out (by decide) 0 (.int .i64 t260) 1 (.slice Ao44 t261.length co44) 2 (.slice Ao45 t264.length co45)) (fun _ h_ => h_.1))) hb); replace HO255 := a_ (Kd.R_below (rk (Kd.R_mono (fr3 HO255.out BK268.out (by decide) 0 (.int .i64 t260) 1 (.slice Ao44 t261.length co44) 2 (.slice Ao45 t264.length co45)) (fun _ h_ => h_.1))) hb); replace HO258 := a_ (Kd.R_below (rk (Kd.R_mono (fr3 HO258.out BK268.out (by decide) 0 (.int .i64 t260) 1 (.slice Ao44 t261.length co44) 2 (.slice Ao45 t264.length co45)) (fun _ h_ => h_.1))) hb); replace HO263 := a_ (Kd.R_below (rk (Kd.R_mono (fr3 HO263.out BK268.out (by decide) 0 (.int .i64 t260) 1 (.slice Ao44 t261.length co44) 2 (.slice Ao45 t264.length co45)) (fun _ h_ => h_.1))) hb); replace HO266 := a_ (Kd.R_below (rk (Kd.R_mono (fr3 HO266.out BK268.out (by decide) 0 (.int .i64 t260) 1 (.slice Ao44 t261.length co44) 2 (.slice Ao45 t264.length co45)) (fun _ h_ => h_.1))) hb); replace BK234 := a_ (blk_below (g := gb234) (o := .cells #[.int .i64 a0_0, .slice A0_1 l0_1.length c0_1, .slice A0_2 l0_2.length c0_2] 29 (0, 0)) (by refine pk ?_; refine blk_far ?_ NB234_268.out _; refine pk ?_; refine blk_far ?_ NB234_268.out _; refine pk ?_; refine blk_far ?_ NB234_268.out _; refine pk ?_; exact BK234.out) hb); replace BK251 := a_ (blk_below (g := gb251) (o := .cells #[.int .i64 t243, .slice Ao28 t244.length co28, .slice Ao29 t247.length co29] 31 (0, 0)) (by refine pk ?_; refine blk_far ?_ NB251_268.out _; refine pk ?_; refine blk_far ?_ NB251_268.out _; refine pk ?_; refine blk_far ?_ NB251_268.out _; refine pk ?_; exact BK251.out) hb); replace BK259 := a_ (blk_below (g := gb259) (o := .cells #[.int .i64 t252, .slice Ao36 t253.length co36, .slice Ao37 t256.length co37] 31 (0, 0)) (by refine pk ?_; refine blk_far ?_ NB259_268.out _; refine pk ?_; refine blk_far ?_ NB259_268.out _; refine pk ?_; refine blk_far ?_ NB259_268.out _; refine pk ?_; exact BK259.out) hb); replace BK268 := a_ (blk_below (g := gb268) (o := .cells #[.int .i64 t260, .slice Ao44 t261.length co44, .slice Ao45 t264.length co45] 31 (0, 0)) (by refine pk ?_; refine blk_put (cs := #[.int .i64 t260, .slice Ao44 t261.length co44, .slice none 0 0]) ?_ 2 _ rfl; refine pk ?_; refine blk_put (cs := #[.int .i64 t260, .slice none 0 0, .slice none 0 0]) ?_ 1 _ rfl; refine pk ?_; refine blk_put (cs := #[.int .i64 0, .slice none 0 0, .slice none 0 0]) ?_ 0 _ rfl; refine pk ?_; exact BK268.out) hb); replace HB := a_ (below_step (by repeat (with_reducible first | exact HB.out | refine bz ?_ (by assumption) | apply bA | apply bN | apply bD)) hb); clear hb))
    go_meet
    case rel => exact ⟨_, (true), (by first | rfl | (simp; done) | (simp [*]; done)), H', ⟨by first | omega | exact Nat.le_refl _⟩, ⟨rk (Kd.R_mono HO246.out (fun _ hk => ⟨hk.1.1.1.1.1.1, hk.1.1.1.2, hk.1.1.2, hk.1.2, hk.2⟩))⟩, ⟨rk (Kd.R_mono HO249.out (fun _ hk => ⟨hk.1.1.1.1.1.1, hk.1.1.1.2, hk.1.1.2, hk.1.2, hk.2⟩))⟩, ⟨rk (Kd.R_mono HO255.out (fun _ hk => ⟨hk.1.1.1.2, hk.1.1.2, hk.1.1.1.1.1.1, hk.1.2, hk.2⟩))⟩, ⟨rk (Kd.R_mono HO258.out (fun _ hk => ⟨hk.1.1.1.2, hk.1.1.2, hk.1.1.1.1.1.1, hk.1.2, hk.2⟩))⟩, ⟨rk (Kd.R_mono HO263.out (fun _ hk => ⟨hk.1.1.1.2, hk.1.1.2, hk.1.2, hk.2, hk.1.1.1.1.1.1⟩))⟩, ⟨rk (Kd.R_mono HO266.out (fun _ hk => ⟨hk.1.1.1.2, hk.1.1.2, hk.1.2, hk.2, hk.1.1.1.1.1.1⟩))⟩, ⟨pk BK234.out⟩, ⟨pk BK251.out⟩, ⟨pk BK259.out⟩, ⟨pk BK268.out⟩, ⟨by repeat (with_reducible first | exact HB.out | refine bz ?_ (by assumption) | apply bA | apply bN | apply bD)⟩⟩
  case rest =>
   clear HC16
   try clear c1; try clear c2; try clear p2; try clear c3; try clear c4; try clear c5; try clear c6; try clear c8; try clear c8b0; try clear c11; try clear c12; try clear c13; try clear c14; try clear c15; try clear c26; try clear c33; try clear c34; try clear c40; try clear c41; try clear c42; try clear c47; try clear c48; try clear c49; try clear c50; try clear c52; try clear c53; try clear c56; try clear c57; try clear c58; try clear c60; try clear c61; try clear hcz10_0; try clear hcz10_1; try clear hcz10_2; try clear hcz18_0; try clear hcz18_1; try clear hcz18_2; try clear hcz20_0; try clear hcz20_1; try clear hcz20_2; try clear hcz27_0; try clear hcz27_1; try clear hcz27_2; try clear hcz30_0; try clear hcz30_1; try clear hcz30_2; try clear hcz35_0; try clear hcz35_1; try clear hcz35_2; try clear hcz43_0; try clear hcz43_1; try clear hcz43_2; try clear hcz51_0; try clear hcz51_1; try clear hcz51_2; try clear hcz54_0; try clear hcz54_1; try clear hcz54_2; try clear hcz59_0; try clear hcz59_1; try clear hcz59_2; try clear hcz62_0; try clear hcz62_1; try clear hcz62_2; try clear hfz10_0; try clear hfz10_1; try clear hfz10_2; try clear hfz18_0; try clear hfz18_1; try clear hfz18_2; try clear hfz20_0; try clear hfz20_1; try clear hfz20_2; try clear hfz27_0; try clear hfz27_1; try clear hfz27_2; try clear hfz30_0; try clear hfz30_1; try clear hfz30_2; try clear hfz35_0; try clear hfz35_1; try clear hfz35_2; try clear hfz43_0; try clear hfz43_1; try clear hfz43_2; try clear hfz51_0; try clear hfz51_1; try clear hfz51_2; try clear hfz54_0; try clear hfz54_1; try clear hfz54_2; try clear hfz59_0; try clear hfz59_1; try clear hfz59_2; try clear hfz62_0; try clear hfz62_1; try clear hfz62_2
   obtain ⟨kq, x60_15, rfl, HA, HJ15, HO_252001, HO_252002, HO_260001, HO_260002, HO_269001, HO_269002, BK234, BK251, BK259, BK268, HB⟩ := hcut
   cases kq with
   | zero => exact absurd HA.out (by simp [laws_FnExactAddRay.j0])
   | succ kj15 =>
    have H := HA.out
    clear HA
    simp only [laws_FnExactAddRay.j0] at H
    by_cases c64 : x60_15 = true
    ·subst c64
     have H1 : (none) = some r := by rw [if_pos rfl] at H; exact H
     clear H
     have H := H1
     clear H1
     exact absurd H (by simp)
    ·replace c64 := Bool.eq_false_iff.mpr c64
     subst c64
     have H1 : ((laws_toCounts.f kj15 a0_0 l0_1 l0_2).bind fun bt270 => ((laws_eqCounts.f kj15 t252 t253 t256 bt270.1 bt270.2.1 bt270.2.2).bind fun t277 => (if t277 = true then ((laws_markCounts.f kj15 t252 t253 t256 1).bind fun bt278 => (if bt278.1 < 0 then (laws_FnExactAddRay.j1 kj15 a1 a2 a3 a4 a5 t250 true a0_0 l0_1 l0_2 t243 t244 t247 t260 t261 t264) else ((laws_eqCounts.f kj15 t260 t261 t264 t243 t244 t247).bind fun t281 => (if t281 = true then (laws_FnExactAddRay.j1 kj15 a1 a2 a3 a4 a5 t250 (t267 != t250) a0_0 l0_1 l0_2 t243 t244 t247 t260 t261 t264) else (laws_FnExactAddRay.j1 kj15 a1 a2 a3 a4 a5 t250 true a0_0 l0_1 l0_2 t243 t244 t247 t260 t261 t264))))) else (none)))) = some r := by rw [if_neg (show ¬ (false = true) by decide)] at H; exact H
     clear H
     have H := H1
     clear H1
     replace H := Option.bind_eq_some_iff.mp H
     obtain ⟨⟨t270, t271, t274⟩, A650, H⟩ := H
     replace H : ((laws_eqCounts.f kj15 t252 t253 t256 t270 t271 t274).bind fun t277 => (if t277 = true then ((laws_markCounts.f kj15 t252 t253 t256 1).bind fun bt278 => (if bt278.1 < 0 then (laws_FnExactAddRay.j1 kj15 a1 a2 a3 a4 a5 t250 true a0_0 l0_1 l0_2 t243 t244 t247 t260 t261 t264) else ((laws_eqCounts.f kj15 t260 t261 t264 t243 t244 t247).bind fun t281 => (if t281 = true then (laws_FnExactAddRay.j1 kj15 a1 a2 a3 a4 a5 t250 (t267 != t250) a0_0 l0_1 l0_2 t243 t244 t247 t260 t261 t264) else (laws_FnExactAddRay.j1 kj15 a1 a2 a3 a4 a5 t250 true a0_0 l0_1 l0_2 t243 t244 t247 t260 t261 t264))))) else (none))) = some r := H
     have A65 := Aside0.mk A650
     clear A650
     replace H := Option.bind_eq_some_iff.mp H
     obtain ⟨t277, A660, H⟩ := H
     have A66 := Aside0.mk A660
     clear A660
     by_cases c67 : t277 = true
     ·subst c67
      have H1 : ((laws_markCounts.f kj15 t252 t253 t256 1).bind fun bt278 => (if bt278.1 < 0 then (laws_FnExactAddRay.j1 kj15 a1 a2 a3 a4 a5 t250 true a0_0 l0_1 l0_2 t243 t244 t247 t260 t261 t264) else ((laws_eqCounts.f kj15 t260 t261 t264 t243 t244 t247).bind fun t281 => (if t281 = true then (laws_FnExactAddRay.j1 kj15 a1 a2 a3 a4 a5 t250 (t267 != t250) a0_0 l0_1 l0_2 t243 t244 t247 t260 t261 t264) else (laws_FnExactAddRay.j1 kj15 a1 a2 a3 a4 a5 t250 true a0_0 l0_1 l0_2 t243 t244 t247 t260 t261 t264))))) = some r := by rw [if_pos rfl] at H; exact H
      clear H
      have H := H1
      clear H1
      replace H := Option.bind_eq_some_iff.mp H
      obtain ⟨⟨t278, t279, t280⟩, A680, H⟩ := H
      replace H : (if t278 < 0 then (laws_FnExactAddRay.j1 kj15 a1 a2 a3 a4 a5 t250 true a0_0 l0_1 l0_2 t243 t244 t247 t260 t261 t264) else ((laws_eqCounts.f kj15 t260 t261 t264 t243 t244 t247).bind fun t281 => (if t281 = true then (laws_FnExactAddRay.j1 kj15 a1 a2 a3 a4 a5 t250 (t267 != t250) a0_0 l0_1 l0_2 t243 t244 t247 t260 t261 t264) else (laws_FnExactAddRay.j1 kj15 a1 a2 a3 a4 a5 t250 true a0_0 l0_1 l0_2 t243 t244 t247 t260 t261 t264)))) = some r := H
      have A68 := Aside0.mk A680
      clear A680
      have HC69 := Aside0.mk H
      clear H
      try go_wp2
      replace HO_252001 := a_ (Kd.R_drew HO_252001.out)
      replace HO_252002 := a_ (Kd.R_drew HO_252002.out)
      replace HO_260001 := a_ (Kd.R_drew HO_260001.out)
      replace HO_260002 := a_ (Kd.R_drew HO_260002.out)
      replace HO_269001 := a_ (Kd.R_drew HO_269001.out)
      replace HO_269002 := a_ (Kd.R_drew HO_269002.out)
      replace BK234 := a_ (blk_drew BK234.out)
      replace BK251 := a_ (blk_drew BK251.out)
      replace BK259 := a_ (blk_drew BK259.out)
      replace BK268 := a_ (blk_drew BK268.out)
      replace HB := a_ (below_drew1 HB.out)
      refine start_ (n := 5) (S := fun w' => w'.cell? ⟨gb259, 0, none⟩ = some (.int .i64 t252) ∧ w'.cell? ⟨gb259, 1, none⟩ = some (.slice Ao36 t253.length co36) ∧ w'.cell? ⟨gb259, 2, none⟩ = some (.slice Ao37 t256.length co37) ∧ w'.cell? ⟨gb234, 0, none⟩ = some (.int .i64 a0_0) ∧ w'.cell? ⟨gb234, 1, none⟩ = some (.slice A0_1 l0_1.length c0_1) ∧ w'.cell? ⟨gb234, 2, none⟩ = some (.slice A0_2 l0_2.length c0_2)) (ds := []) #[false, false, false, false, false] (by kernel_rfl) rfl rfl ⟨(blk_cell BK259.out 0).trans rfl, (blk_cell BK259.out 1).trans rfl, (blk_cell BK259.out 2).trans rfl, (blk_cell BK234.out 0).trans rfl, (blk_cell BK234.out 1).trans rfl, (blk_cell BK234.out 2).trans rfl⟩ (fun hHeld => ?_)
      generalize wc.drew = w70 at HO_252001 HO_252002 HO_260001 HO_260002 HO_269001 HO_269002 BK234 BK251 BK259 BK268 HB hHeld ⊢
      refine take_ (i := 0) (N := some 61) (v := ?_) (a' := ?_) #[true, false, false, false, false] rfl rfl (by kernel_rfl) (fun _ _ _ h => h) (Or.inl ⟨by rfl, ?_⟩) hHeld ?_ ?_
      rotate_left
      ·rintro w' ⟨s0, s1, s2, s3, s4, s5⟩
       go_simp
       with_reducible rfl
      rotate_left
      ·simp only [Act.put, sB, sC, sD, i64_w, i32_w]
       rfl
      refine take_ (i := 1) (N := some 62) (v := ?_) (a' := ?_) #[true, true, false, false, false] rfl rfl (by kernel_rfl) (fun _ _ _ h => h) (Or.inl ⟨by rfl, ?_⟩) hHeld ?_ ?_
      rotate_left
      ·rintro w' ⟨s0, s1, s2, s3, s4, s5⟩
       go_simp
       with_reducible rfl
      rotate_left
      ·simp only [Act.put, sB, sC, sD, i64_w, i32_w]
       rfl
      refine one_ (i := 2) (N := some 63) #[true, true, true, false, false] rfl rfl (by kernel_rfl) (by decide) (fun K hK => ?_)
      refine goes_ Try.func13 (by kernel_rfl) rfl #[.agg #[.int .i64 a0_0, .slice A0_1 l0_1.length c0_1, .slice A0_2 l0_2.length c0_2]] (by rfl) rfl rfl (by (try simp only [lA, lB, lC]); first | done | rfl | (simp only [lD, lE]; rfl)) ?_
      with_reducible refine (laws_toCounts.calls kj15 a0_0 _ _ l0_1 _ _ l0_2 t270 t271 t274 _ ?side1 ?side2 ?side3 ?side4 A65.out).mono ?_
      (case side1 => exact Kd.C_below HR0_1.out (un HB.out))
      (case side2 => exact HC0_1.out)
      (case side3 => exact Kd.C_below HR0_2.out (un HB.out))
      (case side4 => exact HC0_2.out)
      rintro e w71 ⟨v272, v275, rfl, ho0, ho1, hb⟩
      refine ⟨_, rfl, ?_⟩
      have HO273 := a_ (Kd.R_lower (nw (nw (nw (nw (nw (nw ho0 HO_252001.out) HO_252002.out) HO_260001.out) HO_260002.out) HO_269001.out) HO_269002.out) (bs HB.out))
      have HO276 := a_ (Kd.R_lower (nw (nw (nw (nw (nw (nw ho1 HO_252001.out) HO_252002.out) HO_260001.out) HO_260002.out) HO_269001.out) HO_269002.out) (bs HB.out))
      replace HO_252001 := a_ (ol2 HO_252001.out hb ho0 ho1)
      replace HO_252002 := a_ (ol2 HO_252002.out hb ho0 ho1)
      replace HO_260001 := a_ (ol2 HO_260001.out hb ho0 ho1)
      replace HO_260002 := a_ (ol2 HO_260002.out hb ho0 ho1)
      replace HO_269001 := a_ (ol2 HO_269001.out hb ho0 ho1)
      replace HO_269002 := a_ (ol2 HO_269002.out hb ho0 ho1)
      replace BK234 := a_ (blk_below (pk BK234.out) hb)
      replace BK251 := a_ (blk_below (pk BK251.out) hb)
      replace BK259 := a_ (blk_below (pk BK259.out) hb)
      replace BK268 := a_ (blk_below (pk BK268.out) hb)
      replace HB := a_ (below_step (by repeat (with_reducible first | exact HB.out | refine bz ?_ (by assumption) | apply bA | apply bN | apply bD)) hb)
      (try clear hb)
      (try clear hb2)
      (try clear hk)
      (try clear hi)
      (try clear ho0)
      (try clear ho1)
      obtain ⟨Ao72, co72, eo72⟩ := Kd.R_slice HO273.out
      (first | subst eo72 | (injection eo72 with f1_ f2_ f3_; obtain rfl := f1_.symm; obtain rfl := f3_.symm))
      obtain ⟨Ao73, co73, eo73⟩ := Kd.R_slice HO276.out
      (first | subst eo73 | (injection eo73 with f1_ f2_ f3_; obtain rfl := f1_.symm; obtain rfl := f3_.symm))
      refine hK.out _ _ ⟨(blk_cell BK259.out 0).trans rfl, (blk_cell BK259.out 1).trans rfl, (blk_cell BK259.out 2).trans rfl, (blk_cell BK234.out 0).trans rfl, (blk_cell BK234.out 1).trans rfl, (blk_cell BK234.out 2).trans rfl⟩ (fun hHeld => ?_)
      clear hK K
      refine norm_ (a' := ?_) ?_ ?_
      rotate_left
      ·show Act.put _ (some 63) _ = _
       simp only [Act.put, sB, sC, sD, i64_w, i32_w]
       rfl
      refine one_ (i := 3) (N := some 64) #[true, true, true, true, false] rfl rfl (by kernel_rfl) (by decide) (fun K hK => ?_)
      refine goes_ Try.func15 (by kernel_rfl) rfl #[.agg #[.int .i64 t252, .slice Ao36 t253.length co36, .slice Ao37 t256.length co37], .agg #[.int .i64 t270, .slice Ao72 t271.length co72, .slice Ao73 t274.length co73]] (by rfl) rfl rfl (by (try simp only [lA, lB, lC]); first | done | rfl | (simp only [lD, lE]; rfl)) ?_
      with_reducible refine (laws_eqCounts.calls kj15 t252 _ _ t253 _ _ t256 t270 _ _ t271 _ _ t274 true _ ?side1 ?side2 ?side3 ?side4 ?side5 ?side6 ?side7 ?side8 A66.out).mono ?_
      (case side1 => exact cu (Kd.R_reads' HO_260001.out).2.2)
      (case side2 => exact (Kd.R_reads' HO_260001.out).2.1)
      (case side3 => exact cu (Kd.R_reads' HO_260002.out).2.2)
      (case side4 => exact (Kd.R_reads' HO_260002.out).2.1)
      (case side5 => exact cu (Kd.R_reads' HO273.out).2.2)
      (case side6 => exact (Kd.R_reads' HO273.out).2.1)
      (case side7 => exact cu (Kd.R_reads' HO276.out).2.2)
      (case side8 => exact (Kd.R_reads' HO276.out).2.1)
      rintro e w74 ⟨rfl, hb⟩
      refine ⟨_, rfl, ?_⟩
      replace HO_252001 := a_ (Kd.R_below (rk HO_252001.out) hb)
      replace HO_252002 := a_ (Kd.R_below (rk HO_252002.out) hb)
      replace HO_260001 := a_ (Kd.R_below (rk HO_260001.out) hb)
      replace HO_260002 := a_ (Kd.R_below (rk HO_260002.out) hb)
      replace HO_269001 := a_ (Kd.R_below (rk HO_269001.out) hb)
      replace HO_269002 := a_ (Kd.R_below (rk HO_269002.out) hb)
      replace HO273 := a_ (Kd.R_below (rk HO273.out) hb)
      replace HO276 := a_ (Kd.R_below (rk HO276.out) hb)
      replace BK234 := a_ (blk_below (pk BK234.out) hb)
      replace BK251 := a_ (blk_below (pk BK251.out) hb)
      replace BK259 := a_ (blk_below (pk BK259.out) hb)
      replace BK268 := a_ (blk_below (pk BK268.out) hb)
      replace HB := a_ (below_step (by repeat (with_reducible first | exact HB.out | refine bz ?_ (by assumption) | apply bA | apply bN | apply bD)) hb)
      (try clear hb)
      (try clear hb2)
      (try clear hk)
      (try clear hi)
      refine hK.out _ _ ⟨(blk_cell BK259.out 0).trans rfl, (blk_cell BK259.out 1).trans rfl, (blk_cell BK259.out 2).trans rfl, (blk_cell BK234.out 0).trans rfl, (blk_cell BK234.out 1).trans rfl, (blk_cell BK234.out 2).trans rfl⟩ (fun hHeld => ?_)
      clear hK K
      refine norm_ (a' := ?_) ?_ ?_
      rotate_left
      ·show Act.put _ (some 64) _ = _
       simp only [Act.put, sB, sC, sD, i64_w, i32_w]
       rfl
      refine pure_ (i := 4) (N := some 65) (v := ?_) (a' := ?_) #[true, true, true, true, true] rfl rfl (by kernel_rfl) (fun _ _ _ h => h) (Or.inl ⟨by rfl, ?_⟩) ?_ ?_
      rotate_left
      ·intro w'
       go_simp
       with_reducible rfl
      rotate_left
      ·simp only [Act.put, sB, sC, sD, i64_w, i32_w]
       rfl
      refine done_ (by kernel_rfl) ?_
      have hnb75 := NB259_234.out
      have hnc75 := NB234_259.out
      have hnb76 := NB259_251.out
      have hnc76 := NB251_259.out
      have hnb77 := NB259_268.out
      have hnc77 := NB268_259.out
      have hcz78_0 : _ = some (Value.int .i64 t252) := (blk_cell BK259.out 0).trans rfl
      have hcz78_1 : _ = some (Value.slice Ao36 t253.length co36) := (blk_cell BK259.out 1).trans rfl
      have hcz78_2 : _ = some (Value.slice Ao37 t256.length co37) := (blk_cell BK259.out 2).trans rfl
      have hfz78_0 := blk_frozen BK259.out 0
      have hfz78_1 := blk_frozen BK259.out 1
      have hfz78_2 := blk_frozen BK259.out 2
      go_upto_region 14 with (first | ((with_reducible refine gate_callee (f := 16) rfl ?_); refine goesL_ (some 68) rfl rfl Try.func16 (by kernel_rfl) rfl #[.agg #[.int .i64 t252, .slice Ao36 t253.length co36, .slice Ao37 t256.length co37], .int .i64 1] rfl (by (try simp only [lA, lB, lC]); first | done | rfl | (simp only [lD, lE]; rfl)) ?_; (with_reducible refine (laws_markCounts.calls kj15 t252 (fun k_ => some k_ = (.slice Ao36 t253.length co36 : Value).ownBlock) (.slice Ao36 t253.length co36) t253 (fun k_ => some k_ = (.slice Ao37 t256.length co37 : Value).ownBlock) (.slice Ao37 t256.length co37) t256 1 t278 t279 t280 w _ ?side1 ?side2 ?side3 ?side4 ?side5 A68.out).mono ?_); (case side1 => repeat (with_reducible first | exact HB.out | refine bz ?_ (by assumption) | apply bA | apply bN | apply bD)); (case side2 => exact Kd.R_tight rfl HO_260001.out); (case side3 => exact fun k_ e_ => (HO_260001.out.1 k_ e_.symm).1.1.2.2.1); (case side4 => exact Kd.R_tight rfl HO_260002.out); (case side5 => exact fun k_ e_ => (HO_260002.out.1 k_ e_.symm).1.1.2.2.1); rintro e w79 ⟨rfl, hy0, hy1, hb, hkp⟩; refine ⟨_, rfl, ?_⟩; replace HO_252001 := a_ (Kd.R_mono (ok' := fun k_ => N_ (.slice Ao29 t247.length co29) k_ ∧ N_ (.slice Ao36 t253.length co36) k_ ∧ N_ (.slice Ao37 t256.length co37) k_ ∧ N_ (.slice Ao44 t261.length co44) k_ ∧ N_ (.slice Ao45 t264.length co45) k_ ∧ N_ (.slice Ao72 t271.length co72) k_ ∧ N_ (.slice Ao73 t274.length co73) k_) (Kd.R_keptB (HO_252001.out) hkp (fun k_ hk_ hs_ => Or.elim hs_ (fun e_ => (hk_.1.1.2.1) e_) (fun e_ => (hk_.1.1.2.2.1) e_))) (fun _ ⟨⟨⟨⟨a, b, c, d, e⟩, f⟩, g⟩, _⟩ => ⟨a, b, c, d, e, f, g⟩)); replace HO_252002 := a_ (Kd.R_mono (ok' := fun k_ => N_ (.slice Ao28 t244.length co28) k_ ∧ N_ (.slice Ao36 t253.length co36) k_ ∧ N_ (.slice Ao37 t256.length co37) k_ ∧ N_ (.slice Ao44 t261.length co44) k_ ∧ N_ (.slice Ao45 t264.length co45) k_ ∧ N_ (.slice Ao72 t271.length co72) k_ ∧ N_ (.slice Ao73 t274.length co73) k_) (Kd.R_keptB (HO_252002.out) hkp (fun k_ hk_ hs_ => Or.elim hs_ (fun e_ => (hk_.1.1.2.1) e_) (fun e_ => (hk_.1.1.2.2.1) e_))) (fun _ ⟨⟨⟨⟨a, b, c, d, e⟩, f⟩, g⟩, _⟩ => ⟨a, b, c, d, e, f, g⟩)); replace HO_269001 := a_ (Kd.R_mono (ok' := fun k_ => N_ (.slice Ao28 t244.length co28) k_ ∧ N_ (.slice Ao29 t247.length co29) k_ ∧ N_ (.slice Ao36 t253.length co36) k_ ∧ N_ (.slice Ao37 t256.length co37) k_ ∧ N_ (.slice Ao45 t264.length co45) k_ ∧ N_ (.slice Ao72 t271.length co72) k_ ∧ N_ (.slice Ao73 t274.length co73) k_) (Kd.R_keptB (HO_269001.out) hkp (fun k_ hk_ hs_ => Or.elim hs_ (fun e_ => (hk_.1.1.2.2.1) e_) (fun e_ => (hk_.1.1.2.2.2.1) e_))) (fun _ ⟨⟨⟨⟨a, b, c, d, e⟩, f⟩, g⟩, _⟩ => ⟨a, b, c, d, e, f, g⟩)); replace HO_269002 := a_ (Kd.R_mono (ok' := fun k_ => N_ (.slice Ao28 t244.length co28) k_ ∧ N_ (.slice Ao29 t247.length co29) k_ ∧ N_ (.slice Ao36 t253.length co36) k_ ∧ N_ (.slice Ao37 t256.length co37) k_ ∧ N_ (.slice Ao44 t261.length co44) k_ ∧ N_ (.slice Ao72 t271.length co72) k_ ∧ N_ (.slice Ao73 t274.length co73) k_) (Kd.R_keptB (HO_269002.out) hkp (fun k_ hk_ hs_ => Or.elim hs_ (fun e_ => (hk_.1.1.2.2.1) e_) (fun e_ => (hk_.1.1.2.2.2.1) e_))) (fun _ ⟨⟨⟨⟨a, b, c, d, e⟩, f⟩, g⟩, _⟩ => ⟨a, b, c, d, e, f, g⟩)); replace BK234 := a_ (blk_kept (pk BK234.out) hkp (fun hs_ => Or.elim hs_ (fun e_ => (fun e_ => (Kd.R_ne HO_260001.out BK234.out (by decide)) e_) e_) (fun e_ => (fun e_ => (Kd.R_ne HO_260002.out BK234.out (by decide)) e_) e_))); replace BK251 := a_ (blk_kept (pk BK251.out) hkp (fun hs_ => Or.elim hs_ (fun e_ => (fun e_ => (Kd.R_ne HO_260001.out BK251.out (by decide)) e_) e_) (fun e_ => (fun e_ => (Kd.R_ne HO_260002.out BK251.out (by decide)) e_) e_))); replace BK259 := a_ (blk_kept (pk BK259.out) hkp (fun hs_ => Or.elim hs_ (fun e_ => (fun e_ => (Kd.R_ne HO_260001.out BK259.out (by decide)) e_) e_) (fun e_ => (fun e_ => (Kd.R_ne HO_260002.out BK259.out (by decide)) e_) e_))); replace BK268 := a_ (blk_kept (pk BK268.out) hkp (fun hs_ => Or.elim hs_ (fun e_ => (fun e_ => (Kd.R_ne HO_260001.out BK268.out (by decide)) e_) e_) (fun e_ => (fun e_ => (Kd.R_ne HO_260002.out BK268.out (by decide)) e_) e_))); replace HO_260001 := a_ (Kd.R_reok rfl hy0 (fun k_ e_ => HO_260001.out.1 k_ e_)); replace HO_260002 := a_ (Kd.R_reok rfl hy1 (fun k_ e_ => HO_260002.out.1 k_ e_)); replace HO273 := a_ (Kd.R_mono (ok' := fun k_ => N_ (.slice Ao28 t244.length co28) k_ ∧ N_ (.slice Ao29 t247.length co29) k_ ∧ N_ (.slice Ao36 t253.length co36) k_ ∧ N_ (.slice Ao37 t256.length co37) k_ ∧ N_ (.slice Ao44 t261.length co44) k_ ∧ N_ (.slice Ao45 t264.length co45) k_ ∧ N_ (.slice Ao73 t274.length co73) k_) (Kd.R_keptB (HO273.out) hkp (fun k_ hk_ hs_ => Or.elim hs_ (fun e_ => (hk_.1.1.1.2) e_) (fun e_ => (hk_.1.1.2) e_))) (fun _ ⟨⟨⟨⟨⟨⟨⟨a, b⟩, c⟩, d⟩, e⟩, f⟩, g⟩, _⟩ => ⟨b, c, d, e, f, g, a⟩)); replace HO276 := a_ (Kd.R_mono (ok' := fun k_ => N_ (.slice Ao28 t244.length co28) k_ ∧ N_ (.slice Ao29 t247.length co29) k_ ∧ N_ (.slice Ao36 t253.length co36) k_ ∧ N_ (.slice Ao37 t256.length co37) k_ ∧ N_ (.slice Ao44 t261.length co44) k_ ∧ N_ (.slice Ao45 t264.length co45) k_ ∧ N_ (.slice Ao72 t271.length co72) k_) (Kd.R_keptB (HO276.out) hkp (fun k_ hk_ hs_ => Or.elim hs_ (fun e_ => (hk_.1.1.1.2) e_) (fun e_ => (hk_.1.1.2) e_))) (fun _ ⟨⟨⟨⟨⟨⟨⟨a, b⟩, c⟩, d⟩, e⟩, f⟩, g⟩, _⟩ => ⟨b, c, d, e, f, g, a⟩)); replace HB := a_ (hb); clear hb hkp hy0 hy1))
      (try simp only [Act.put, sB, sC, sD])
      go_cut [81] (fun v81 wc => ∃ (kq : Nat) (x81_68 : Bool), v81 = .bool x81_68 ∧ Aside0 (laws_FnExactAddRay.j1 kq a1 a2 a3 a4 a5 t250 x81_68 a0_0 l0_1 l0_2 t243 t244 t247 t260 t261 t264 = some r) ∧ Aside0 (kq ≤ kj15) ∧ Aside0 (Kd.R (Kd.int .i64) 3 wc w.heap.size (fun k_ => some k_ ≠ ((.slice Ao29 t247.length co29) : Value).ownBlock ∧ some k_ ≠ ((.slice Ao36 t253.length co36) : Value).ownBlock ∧ some k_ ≠ ((.slice Ao37 t256.length co37) : Value).ownBlock ∧ some k_ ≠ ((.slice Ao44 t261.length co44) : Value).ownBlock ∧ some k_ ≠ ((.slice Ao45 t264.length co45) : Value).ownBlock) (.slice Ao28 t244.length co28) t244) ∧ Aside0 (Kd.R (Kd.int .i64) 3 wc w.heap.size (fun k_ => some k_ ≠ ((.slice Ao28 t244.length co28) : Value).ownBlock ∧ some k_ ≠ ((.slice Ao36 t253.length co36) : Value).ownBlock ∧ some k_ ≠ ((.slice Ao37 t256.length co37) : Value).ownBlock ∧ some k_ ≠ ((.slice Ao44 t261.length co44) : Value).ownBlock ∧ some k_ ≠ ((.slice Ao45 t264.length co45) : Value).ownBlock) (.slice Ao29 t247.length co29) t247) ∧ Aside0 (Kd.R (Kd.int .i64) 3 wc w.heap.size (fun k_ => some k_ ≠ ((.slice Ao28 t244.length co28) : Value).ownBlock ∧ some k_ ≠ ((.slice Ao29 t247.length co29) : Value).ownBlock ∧ some k_ ≠ ((.slice Ao37 t256.length co37) : Value).ownBlock ∧ some k_ ≠ ((.slice Ao44 t261.length co44) : Value).ownBlock ∧ some k_ ≠ ((.slice Ao45 t264.length co45) : Value).ownBlock) (.slice Ao36 t253.length co36) t279) ∧ Aside0 (Kd.R (Kd.int .i64) 3 wc w.heap.size (fun k_ => some k_ ≠ ((.slice Ao28 t244.length co28) : Value).ownBlock ∧ some k_ ≠ ((.slice Ao29 t247.length co29) : Value).ownBlock ∧ some k_ ≠ ((.slice Ao36 t253.length co36) : Value).ownBlock ∧ some k_ ≠ ((.slice Ao44 t261.length co44) : Value).ownBlock ∧ some k_ ≠ ((.slice Ao45 t264.length co45) : Value).ownBlock) (.slice Ao37 t256.length co37) t280) ∧ Aside0 (Kd.R (Kd.int .i64) 3 wc w.heap.size (fun k_ => some k_ ≠ ((.slice Ao28 t244.length co28) : Value).ownBlock ∧ some k_ ≠ ((.slice Ao29 t247.length co29) : Value).ownBlock ∧ some k_ ≠ ((.slice Ao36 t253.length co36) : Value).ownBlock ∧ some k_ ≠ ((.slice Ao37 t256.length co37) : Value).ownBlock ∧ some k_ ≠ ((.slice Ao45 t264.length co45) : Value).ownBlock) (.slice Ao44 t261.length co44) t261) ∧ Aside0 (Kd.R (Kd.int .i64) 3 wc w.heap.size (fun k_ => some k_ ≠ ((.slice Ao28 t244.length co28) : Value).ownBlock ∧ some k_ ≠ ((.slice Ao29 t247.length co29) : Value).ownBlock ∧ some k_ ≠ ((.slice Ao36 t253.length co36) : Value).ownBlock ∧ some k_ ≠ ((.slice Ao37 t256.length co37) : Value).ownBlock ∧ some k_ ≠ ((.slice Ao44 t261.length co44) : Value).ownBlock) (.slice Ao45 t264.length co45) t264) ∧ Aside0 (wc.heap[gb234]? = some (.cells #[.int .i64 a0_0, (.slice A0_1 l0_1.length c0_1), (.slice A0_2 l0_2.length c0_2)] 29 (0, 0))) ∧ Aside0 (wc.heap[gb251]? = some (.cells #[.int .i64 t243, (.slice Ao28 t244.length co28), (.slice Ao29 t247.length co29)] 31 (0, 0))) ∧ Aside0 (wc.heap[gb259]? = some (.cells #[.int .i64 t252, (.slice Ao36 t253.length co36), (.slice Ao37 t256.length co37)] 31 (0, 0))) ∧ Aside0 (wc.heap[gb268]? = some (.cells #[.int .i64 t260, (.slice Ao44 t261.length co44), (.slice Ao45 t264.length co45)] 31 (0, 0))) ∧ Aside0 (Below w.heap.size w wc))
      case first =>
       have H := HC69.out
       clear HC69
       by_cases c80 : t278 < 0
       ·rw [if_pos c80] at H
        have c80b0 : decide (t278 < 0) = true := decide_eq_true c80
        clear c80
        (first | rw [c80b0] | (simp only [i64_w, i32_w]; rw [c80b0]) | skip)
        have H' := Aside0.mk H
        clear H
        go_wp2
        go_meet
        case rel => exact ⟨_, (true), (by first | rfl | (simp; done) | (simp [*]; done)), H', ⟨by have := HJ15.out; first | omega | exact Nat.le_refl _⟩, ⟨rk (Kd.R_mono HO_252001.out (fun _ hk => ⟨hk.1, hk.2.1, hk.2.2.1, hk.2.2.2.1, hk.2.2.2.2.1⟩))⟩, ⟨rk (Kd.R_mono HO_252002.out (fun _ hk => ⟨hk.1, hk.2.1, hk.2.2.1, hk.2.2.2.1, hk.2.2.2.2.1⟩))⟩, ⟨rk (Kd.R_mono HO_260001.out (fun _ hk => hk.1.1))⟩, ⟨rk (Kd.R_mono HO_260002.out (fun _ hk => hk.1.1))⟩, ⟨rk (Kd.R_mono HO_269001.out (fun _ hk => ⟨hk.1, hk.2.1, hk.2.2.1, hk.2.2.2.1, hk.2.2.2.2.1⟩))⟩, ⟨rk (Kd.R_mono HO_269002.out (fun _ hk => ⟨hk.1, hk.2.1, hk.2.2.1, hk.2.2.2.1, hk.2.2.2.2.1⟩))⟩, ⟨pk BK234.out⟩, ⟨pk BK251.out⟩, ⟨pk BK259.out⟩, ⟨pk BK268.out⟩, ⟨by repeat (with_reducible first | exact HB.out | refine bz ?_ (by assumption) | apply bA | apply bN | apply bD)⟩⟩
       ·rw [if_neg c80] at H
        have c80b0 : decide (t278 < 0) = false := decide_eq_false c80
        clear c80
        (first | rw [c80b0] | (simp only [i64_w, i32_w]; rw [c80b0]) | skip)
        replace H := Option.bind_eq_some_iff.mp H
        obtain ⟨t281, A810, H⟩ := H
        have A81 := Aside0.mk A810
        clear A810
        by_cases c82 : t281 = true
        ·subst c82
         have H1 : (laws_FnExactAddRay.j1 kj15 a1 a2 a3 a4 a5 t250 (t267 != t250) a0_0 l0_1 l0_2 t243 t244 t247 t260 t261 t264) = some r := by rw [if_pos rfl] at H; exact H
         clear H
         have H := H1
         clear H1
         have H' := Aside0.mk H
         clear H
         have hnb83 := NB268_234.out
         have hnc83 := NB234_268.out
         have hnb84 := NB268_251.out
         have hnc84 := NB251_268.out
         have hnb85 := NB268_259.out
         have hnc85 := NB259_268.out
         have hcz86_0 : _ = some (Value.int .i64 t260) := (blk_cell BK268.out 0).trans rfl
         have hcz86_1 : _ = some (Value.slice Ao44 t261.length co44) := (blk_cell BK268.out 1).trans rfl
         have hcz86_2 : _ = some (Value.slice Ao45 t264.length co45) := (blk_cell BK268.out 2).trans rfl
         have hfz86_0 := blk_frozen BK268.out 0
         have hfz86_1 := blk_frozen BK268.out 1
         have hfz86_2 := blk_frozen BK268.out 2
         have hnb87 := NB251_234.out
         have hnc87 := NB234_251.out
         have hnb88 := NB251_259.out
         have hnc88 := NB259_251.out
         have hcz89_0 : _ = some (Value.int .i64 t243) := (blk_cell BK251.out 0).trans rfl
         have hcz89_1 : _ = some (Value.slice Ao28 t244.length co28) := (blk_cell BK251.out 1).trans rfl
         have hcz89_2 : _ = some (Value.slice Ao29 t247.length co29) := (blk_cell BK251.out 2).trans rfl
         have hfz89_0 := blk_frozen BK251.out 0
         have hfz89_1 := blk_frozen BK251.out 1
         have hfz89_2 := blk_frozen BK251.out 2
         go_wp2_with (first | (go_at_call 15; (with_reducible refine (laws_eqCounts.calls kj15 t260 _ _ t261 _ _ t264 t243 _ _ t244 _ _ t247 true _ ?side1 ?side2 ?side3 ?side4 ?side5 ?side6 ?side7 ?side8 A81.out).mono ?_); (case side1 => exact cu (Kd.R_reads' HO_269001.out).2.2); (case side2 => exact (Kd.R_reads' HO_269001.out).2.1); (case side3 => exact cu (Kd.R_reads' HO_269002.out).2.2); (case side4 => exact (Kd.R_reads' HO_269002.out).2.1); (case side5 => exact cu (Kd.R_reads' HO_252001.out).2.2); (case side6 => exact (Kd.R_reads' HO_252001.out).2.1); (case side7 => exact cu (Kd.R_reads' HO_252002.out).2.2); (case side8 => exact (Kd.R_reads' HO_252002.out).2.1); rintro e w90 ⟨rfl, hb⟩; replace HO_252001 := a_ (Kd.R_below (rk HO_252001.out) hb); replace HO_252002 := a_ (Kd.R_below (rk HO_252002.out) hb); replace HO_260001 := a_ (Kd.R_below (rk HO_260001.out) hb); replace HO_260002 := a_ (Kd.R_below (rk HO_260002.out) hb); replace HO_269001 := a_ (Kd.R_below (rk HO_269001.out) hb); replace HO_269002 := a_ (Kd.R_below (rk HO_269002.out) hb); replace HO273 := a_ (Kd.R_below (rk HO273.out) hb); replace HO276 := a_ (Kd.R_below (rk HO276.out) hb); replace BK234 := a_ (blk_below (pk BK234.out) hb); replace BK251 := a_ (blk_below (pk BK251.out) hb); replace BK259 := a_ (blk_below (pk BK259.out) hb); replace BK268 := a_ (blk_below (pk BK268.out) hb); replace HB := a_ (below_step (by repeat (with_reducible first | exact HB.out | refine bz ?_ (by assumption) | apply bA | apply bN | apply bD)) hb); clear hb))
         go_meet
         case rel => exact ⟨_, ((t267 != t250)), (by first | rfl | (simp; done) | (simp [*]; done)), H', ⟨by have := HJ15.out; first | omega | exact Nat.le_refl _⟩, ⟨rk (Kd.R_mono HO_252001.out (fun _ hk => ⟨hk.1, hk.2.1, hk.2.2.1, hk.2.2.2.1, hk.2.2.2.2.1⟩))⟩, ⟨rk (Kd.R_mono HO_252002.out (fun _ hk => ⟨hk.1, hk.2.1, hk.2.2.1, hk.2.2.2.1, hk.2.2.2.2.1⟩))⟩, ⟨rk (Kd.R_mono HO_260001.out (fun _ hk => hk.1.1))⟩, ⟨rk (Kd.R_mono HO_260002.out (fun _ hk => hk.1.1))⟩, ⟨rk (Kd.R_mono HO_269001.out (fun _ hk => ⟨hk.1, hk.2.1, hk.2.2.1, hk.2.2.2.1, hk.2.2.2.2.1⟩))⟩, ⟨rk (Kd.R_mono HO_269002.out (fun _ hk => ⟨hk.1, hk.2.1, hk.2.2.1, hk.2.2.2.1, hk.2.2.2.2.1⟩))⟩, ⟨pk BK234.out⟩, ⟨pk BK251.out⟩, ⟨pk BK259.out⟩, ⟨pk BK268.out⟩, ⟨by repeat (with_reducible first | exact HB.out | refine bz ?_ (by assumption) | apply bA | apply bN | apply bD)⟩⟩
        ·replace c82 := Bool.eq_false_iff.mpr c82
         subst c82
         have H1 : (laws_FnExactAddRay.j1 kj15 a1 a2 a3 a4 a5 t250 true a0_0 l0_1 l0_2 t243 t244 t247 t260 t261 t264) = some r := by rw [if_neg (show ¬ (false = true) by decide)] at H; exact H
         clear H
         have H := H1
         clear H1
         have H' := Aside0.mk H
         clear H
         have hnb91 := NB268_234.out
         have hnc91 := NB234_268.out
         have hnb92 := NB268_251.out
         have hnc92 := NB251_268.out
         have hnb93 := NB268_259.out
         have hnc93 := NB259_268.out
         have hcz94_0 : _ = some (Value.int .i64 t260) := (blk_cell BK268.out 0).trans rfl
         have hcz94_1 : _ = some (Value.slice Ao44 t261.length co44) := (blk_cell BK268.out 1).trans rfl
         have hcz94_2 : _ = some (Value.slice Ao45 t264.length co45) := (blk_cell BK268.out 2).trans rfl
         have hfz94_0 := blk_frozen BK268.out 0
         have hfz94_1 := blk_frozen BK268.out 1
         have hfz94_2 := blk_frozen BK268.out 2
         have hnb95 := NB251_234.out
         have hnc95 := NB234_251.out
         have hnb96 := NB251_259.out
         have hnc96 := NB259_251.out
         have hcz97_0 : _ = some (Value.int .i64 t243) := (blk_cell BK251.out 0).trans rfl
         have hcz97_1 : _ = some (Value.slice Ao28 t244.length co28) := (blk_cell BK251.out 1).trans rfl
         have hcz97_2 : _ = some (Value.slice Ao29 t247.length co29) := (blk_cell BK251.out 2).trans rfl
         have hfz97_0 := blk_frozen BK251.out 0
         have hfz97_1 := blk_frozen BK251.out 1
         have hfz97_2 := blk_frozen BK251.out 2
         go_wp2_with (first | (go_at_call 15; (with_reducible refine (laws_eqCounts.calls kj15 t260 _ _ t261 _ _ t264 t243 _ _ t244 _ _ t247 false _ ?side1 ?side2 ?side3 ?side4 ?side5 ?side6 ?side7 ?side8 A81.out).mono ?_); (case side1 => exact cu (Kd.R_reads' HO_269001.out).2.2); (case side2 => exact (Kd.R_reads' HO_269001.out).2.1); (case side3 => exact cu (Kd.R_reads' HO_269002.out).2.2); (case side4 => exact (Kd.R_reads' HO_269002.out).2.1); (case side5 => exact cu (Kd.R_reads' HO_252001.out).2.2); (case side6 => exact (Kd.R_reads' HO_252001.out).2.1); (case side7 => exact cu (Kd.R_reads' HO_252002.out).2.2); (case side8 => exact (Kd.R_reads' HO_252002.out).2.1); rintro e w98 ⟨rfl, hb⟩; replace HO_252001 := a_ (Kd.R_below (rk HO_252001.out) hb); replace HO_252002 := a_ (Kd.R_below (rk HO_252002.out) hb); replace HO_260001 := a_ (Kd.R_below (rk HO_260001.out) hb); replace HO_260002 := a_ (Kd.R_below (rk HO_260002.out) hb); replace HO_269001 := a_ (Kd.R_below (rk HO_269001.out) hb); replace HO_269002 := a_ (Kd.R_below (rk HO_269002.out) hb); replace HO273 := a_ (Kd.R_below (rk HO273.out) hb); replace HO276 := a_ (Kd.R_below (rk HO276.out) hb); replace BK234 := a_ (blk_below (pk BK234.out) hb); replace BK251 := a_ (blk_below (pk BK251.out) hb); replace BK259 := a_ (blk_below (pk BK259.out) hb); replace BK268 := a_ (blk_below (pk BK268.out) hb); replace HB := a_ (below_step (by repeat (with_reducible first | exact HB.out | refine bz ?_ (by assumption) | apply bA | apply bN | apply bD)) hb); clear hb))
         go_meet
         case rel => exact ⟨_, (true), (by first | rfl | (simp; done) | (simp [*]; done)), H', ⟨by have := HJ15.out; first | omega | exact Nat.le_refl _⟩, ⟨rk (Kd.R_mono HO_252001.out (fun _ hk => ⟨hk.1, hk.2.1, hk.2.2.1, hk.2.2.2.1, hk.2.2.2.2.1⟩))⟩, ⟨rk (Kd.R_mono HO_252002.out (fun _ hk => ⟨hk.1, hk.2.1, hk.2.2.1, hk.2.2.2.1, hk.2.2.2.2.1⟩))⟩, ⟨rk (Kd.R_mono HO_260001.out (fun _ hk => hk.1.1))⟩, ⟨rk (Kd.R_mono HO_260002.out (fun _ hk => hk.1.1))⟩, ⟨rk (Kd.R_mono HO_269001.out (fun _ hk => ⟨hk.1, hk.2.1, hk.2.2.1, hk.2.2.2.1, hk.2.2.2.2.1⟩))⟩, ⟨rk (Kd.R_mono HO_269002.out (fun _ hk => ⟨hk.1, hk.2.1, hk.2.2.1, hk.2.2.2.1, hk.2.2.2.2.1⟩))⟩, ⟨pk BK234.out⟩, ⟨pk BK251.out⟩, ⟨pk BK259.out⟩, ⟨pk BK268.out⟩, ⟨by repeat (with_reducible first | exact HB.out | refine bz ?_ (by assumption) | apply bA | apply bN | apply bD)⟩⟩
      case rest =>
       clear HC69
       try clear c1; try clear c2; try clear p2; try clear c3; try clear c4; try clear c5; try clear c6; try clear c7; try clear c8; try clear c8b0; try clear c9; try clear c11; try clear c12; try clear c13; try clear c14; try clear c15; try clear c16; try clear c26; try clear c33; try clear c34; try clear c40; try clear c41; try clear c42; try clear c47; try clear c48; try clear c49; try clear c50; try clear c52; try clear c53; try clear c56; try clear c57; try clear c58; try clear c60; try clear c61; try clear c64; try clear c67; try clear c75; try clear c76; try clear c77; try clear c80; try clear c80b0; try clear c82; try clear c83; try clear c84; try clear c85; try clear c87; try clear c88; try clear c91; try clear c92; try clear c93; try clear c95; try clear c96; try clear hcz10_0; try clear hcz10_1; try clear hcz10_2; try clear hcz18_0; try clear hcz18_1; try clear hcz18_2; try clear hcz20_0; try clear hcz20_1; try clear hcz20_2; try clear hcz27_0; try clear hcz27_1; try clear hcz27_2; try clear hcz30_0; try clear hcz30_1; try clear hcz30_2; try clear hcz35_0; try clear hcz35_1; try clear hcz35_2; try clear hcz43_0; try clear hcz43_1; try clear hcz43_2; try clear hcz51_0; try clear hcz51_1; try clear hcz51_2; try clear hcz54_0; try clear hcz54_1; try clear hcz54_2; try clear hcz59_0; try clear hcz59_1; try clear hcz59_2; try clear hcz62_0; try clear hcz62_1; try clear hcz62_2; try clear hcz78_0; try clear hcz78_1; try clear hcz78_2; try clear hcz86_0; try clear hcz86_1; try clear hcz86_2; try clear hcz89_0; try clear hcz89_1; try clear hcz89_2; try clear hcz94_0; try clear hcz94_1; try clear hcz94_2; try clear hcz97_0; try clear hcz97_1; try clear hcz97_2; try clear hfz10_0; try clear hfz10_1; try clear hfz10_2; try clear hfz18_0; try clear hfz18_1; try clear hfz18_2; try clear hfz20_0; try clear hfz20_1; try clear hfz20_2; try clear hfz27_0; try clear hfz27_1; try clear hfz27_2; try clear hfz30_0; try clear hfz30_1; try clear hfz30_2; try clear hfz35_0; try clear hfz35_1; try clear hfz35_2; try clear hfz43_0; try clear hfz43_1; try clear hfz43_2; try clear hfz51_0; try clear hfz51_1; try clear hfz51_2; try clear hfz54_0; try clear hfz54_1; try clear hfz54_2; try clear hfz59_0; try clear hfz59_1; try clear hfz59_2; try clear hfz62_0; try clear hfz62_1; try clear hfz62_2; try clear hfz78_0; try clear hfz78_1; try clear hfz78_2; try clear hfz86_0; try clear hfz86_1; try clear hfz86_2; try clear hfz89_0; try clear hfz89_1; try clear hfz89_2; try clear hfz94_0; try clear hfz94_1; try clear hfz94_2; try clear hfz97_0; try clear hfz97_1; try clear hfz97_2; try clear p2
       obtain ⟨kq, x81_68, rfl, HA, HJ68, HO_252001, HO_252002, HO_260001, HO_260002, HO_269001, HO_269002, BK234, BK251, BK259, BK268, HB⟩ := hcut
       have hl260001_68 := (Kd.R_reads' HO_260001.out).1
       rw [hl260001_68] at HO_260001
       (try simp only [hl260001_68])
       (try simp only [hl260001_68] at BK234)
       (try simp only [hl260001_68] at BK251)
       (try simp only [hl260001_68] at BK259)
       (try simp only [hl260001_68] at BK268)
       (try simp only [hl260001_68] at HO_252001)
       (try simp only [hl260001_68] at HO_252002)
       (try simp only [hl260001_68] at HO_260002)
       (try simp only [hl260001_68] at HO_269001)
       (try simp only [hl260001_68] at HO_269002)
       have hl260002_68 := (Kd.R_reads' HO_260002.out).1
       rw [hl260002_68] at HO_260002
       (try simp only [hl260002_68])
       (try simp only [hl260002_68] at BK234)
       (try simp only [hl260002_68] at BK251)
       (try simp only [hl260002_68] at BK259)
       (try simp only [hl260002_68] at BK268)
       (try simp only [hl260002_68] at HO_252001)
       (try simp only [hl260002_68] at HO_252002)
       (try simp only [hl260002_68] at HO_260001)
       (try simp only [hl260002_68] at HO_269001)
       (try simp only [hl260002_68] at HO_269002)
       cases kq with
       | zero => exact absurd HA.out (by simp [laws_FnExactAddRay.j1])
       | succ kj68 =>
        have H := HA.out
        clear HA
        simp only [laws_FnExactAddRay.j1] at H
        by_cases c99 : x81_68 = true
        ·subst c99
         have H1 : (none) = some r := by rw [if_pos rfl] at H; exact H
         clear H
         have H := H1
         clear H1
         exact absurd H (by simp)
        ·replace c99 := Bool.eq_false_iff.mpr c99
         subst c99
         have H1 : ((laws_markCounts.f kj68 t260 t261 t264 1).bind fun bt282 => ((laws_heldCounts.f kj68 t260 bt282.2.1 bt282.2.2 1).bind fun t285 => (if t285 < 0 then (none) else (if t285 = bt282.1 then ((laws_toCounts.f kj68 a0_0 l0_1 l0_2).bind fun bt286 => ((impl_AddRay.f kj68 bt286.1 bt286.2.1 bt286.2.2 a1 a2 a3 a4 a5).bind fun bt293 => ((laws_eqCounts.f kj68 bt293.1 bt293.2.1 bt293.2.2.1 t243 t244 t247).bind fun t302 => (if t302 = true then (laws_FnExactAddRay.j2 kj68 bt282.1 (bt293.2.2.2 != t250) t260 bt282.2.1 bt282.2.2) else (laws_FnExactAddRay.j2 kj68 bt282.1 true t260 bt282.2.1 bt282.2.2))))) else (none))))) = some r := by rw [if_neg (show ¬ (false = true) by decide)] at H; exact H
         clear H
         have H := H1
         clear H1
         replace H := Option.bind_eq_some_iff.mp H
         obtain ⟨⟨t282, t283, t284⟩, A1000, H⟩ := H
         replace H : ((laws_heldCounts.f kj68 t260 t283 t284 1).bind fun t285 => (if t285 < 0 then (none) else (if t285 = t282 then ((laws_toCounts.f kj68 a0_0 l0_1 l0_2).bind fun bt286 => ((impl_AddRay.f kj68 bt286.1 bt286.2.1 bt286.2.2 a1 a2 a3 a4 a5).bind fun bt293 => ((laws_eqCounts.f kj68 bt293.1 bt293.2.1 bt293.2.2.1 t243 t244 t247).bind fun t302 => (if t302 = true then (laws_FnExactAddRay.j2 kj68 t282 (bt293.2.2.2 != t250) t260 t283 t284) else (laws_FnExactAddRay.j2 kj68 t282 true t260 t283 t284))))) else (none)))) = some r := H
         have A100 := Aside0.mk A1000
         clear A1000
         replace H := Option.bind_eq_some_iff.mp H
         obtain ⟨t285, A1010, H⟩ := H
         have A101 := Aside0.mk A1010
         clear A1010
         by_cases c102 : t285 < 0
         ·rw [if_pos c102] at H
          exact absurd H (by simp)
         ·rw [if_neg c102] at H
          have c102b0 : decide (t285 < 0) = false := decide_eq_false c102
          clear c102
          by_cases c103 : t285 = t282
          ·rw [if_pos c103] at H
           have c103b0 : (t285 == t282) = true := beq_iff_eq.mpr c103
           have c103b1 : (t285 != t282) = false := bne_eq_false_iff_eq.mpr c103
           clear c103
           replace H := Option.bind_eq_some_iff.mp H
           obtain ⟨⟨t286, t287, t290⟩, A1040, H⟩ := H
           replace H : ((impl_AddRay.f kj68 t286 t287 t290 a1 a2 a3 a4 a5).bind fun bt293 => ((laws_eqCounts.f kj68 bt293.1 bt293.2.1 bt293.2.2.1 t243 t244 t247).bind fun t302 => (if t302 = true then (laws_FnExactAddRay.j2 kj68 t282 (bt293.2.2.2 != t250) t260 t283 t284) else (laws_FnExactAddRay.j2 kj68 t282 true t260 t283 t284)))) = some r := H
           have A104 := Aside0.mk A1040
           clear A1040
           replace H := Option.bind_eq_some_iff.mp H
           obtain ⟨⟨t293, t294, t297, t300⟩, A1050, H⟩ := H
           replace H : ((laws_eqCounts.f kj68 t293 t294 t297 t243 t244 t247).bind fun t302 => (if t302 = true then (laws_FnExactAddRay.j2 kj68 t282 (t300 != t250) t260 t283 t284) else (laws_FnExactAddRay.j2 kj68 t282 true t260 t283 t284))) = some r := H
           have A105 := Aside0.mk A1050
           clear A1050
           have HC106 := Aside0.mk H
           clear H
           have hnb107 := NB268_234.out
           have hnc107 := NB234_268.out
           have hnb108 := NB268_251.out
           have hnc108 := NB251_268.out
           have hnb109 := NB268_259.out
           have hnc109 := NB259_268.out
           have hcz110_0 : wc.cell? ⟨gb268, 0, none⟩ = some (.int .i64 t260) := (blk_cell BK268.out 0).trans rfl
           have hcz110_1 : wc.cell? ⟨gb268, 1, none⟩ = some (.slice Ao44 t261.length co44) := (blk_cell BK268.out 1).trans rfl
           have hcz110_2 : wc.cell? ⟨gb268, 2, none⟩ = some (.slice Ao45 t264.length co45) := (blk_cell BK268.out 2).trans rfl
           have hfz110_0 := blk_frozen BK268.out 0
           have hfz110_1 := blk_frozen BK268.out 1
           have hfz110_2 := blk_frozen BK268.out 2
           go_upto_region 25 with (first | ((with_reducible refine gate_callee (f := 16) rfl ?_); refine goesL_ (some 84) rfl rfl Try.func16 (by kernel_rfl) rfl #[.agg #[.int .i64 t260, .slice Ao44 t261.length co44, .slice Ao45 t264.length co45], .int .i64 1] rfl (by (try simp only [lA, lB, lC]); first | done | rfl | (simp only [lD, lE]; rfl)) ?_; (with_reducible refine (laws_markCounts.calls kj68 t260 (fun k_ => some k_ = (.slice Ao44 t261.length co44 : Value).ownBlock) (.slice Ao44 t261.length co44) t261 (fun k_ => some k_ = (.slice Ao45 t264.length co45 : Value).ownBlock) (.slice Ao45 t264.length co45) t264 1 t282 t283 t284 w _ ?side1 ?side2 ?side3 ?side4 ?side5 A100.out).mono ?_); (case side1 => repeat (with_reducible first | exact HB.out | refine bz ?_ (by assumption) | apply bA | apply bN | apply bD)); (case side2 => exact Kd.R_tight rfl HO_269001.out); (case side3 => exact fun k_ e_ => (HO_269001.out.1 k_ e_.symm).2.2.2.2); (case side4 => exact Kd.R_tight rfl HO_269002.out); (case side5 => exact fun k_ e_ => (HO_269002.out.1 k_ e_.symm).2.2.2.2); rintro e w111 ⟨rfl, hy0, hy1, hb, hkp⟩; refine ⟨_, rfl, ?_⟩; replace HO_252001 := a_ (Kd.R_mono (ok' := fun k_ => N_ (.slice Ao29 t247.length co29) k_ ∧ N_ (.slice Ao36 t279.length co36) k_ ∧ N_ (.slice Ao37 t280.length co37) k_ ∧ N_ (.slice Ao44 t261.length co44) k_ ∧ N_ (.slice Ao45 t264.length co45) k_) (Kd.R_keptB (HO_252001.out) hkp (fun k_ hk_ hs_ => Or.elim hs_ (fun e_ => (hk_.2.2.2.1) e_) (fun e_ => (hk_.2.2.2.2) e_))) (fun _ hk_ => hk_.1)); replace HO_252002 := a_ (Kd.R_mono (ok' := fun k_ => N_ (.slice Ao28 t244.length co28) k_ ∧ N_ (.slice Ao36 t279.length co36) k_ ∧ N_ (.slice Ao37 t280.length co37) k_ ∧ N_ (.slice Ao44 t261.length co44) k_ ∧ N_ (.slice Ao45 t264.length co45) k_) (Kd.R_keptB (HO_252002.out) hkp (fun k_ hk_ hs_ => Or.elim hs_ (fun e_ => (hk_.2.2.2.1) e_) (fun e_ => (hk_.2.2.2.2) e_))) (fun _ hk_ => hk_.1)); replace HO_260001 := a_ (Kd.R_mono (ok' := fun k_ => N_ (.slice Ao28 t244.length co28) k_ ∧ N_ (.slice Ao29 t247.length co29) k_ ∧ N_ (.slice Ao37 t280.length co37) k_ ∧ N_ (.slice Ao44 t261.length co44) k_ ∧ N_ (.slice Ao45 t264.length co45) k_) (Kd.R_keptB (HO_260001.out) hkp (fun k_ hk_ hs_ => Or.elim hs_ (fun e_ => (hk_.2.2.2.1) e_) (fun e_ => (hk_.2.2.2.2) e_))) (fun _ hk_ => hk_.1)); replace HO_260002 := a_ (Kd.R_mono (ok' := fun k_ => N_ (.slice Ao28 t244.length co28) k_ ∧ N_ (.slice Ao29 t247.length co29) k_ ∧ N_ (.slice Ao36 t279.length co36) k_ ∧ N_ (.slice Ao44 t261.length co44) k_ ∧ N_ (.slice Ao45 t264.length co45) k_) (Kd.R_keptB (HO_260002.out) hkp (fun k_ hk_ hs_ => Or.elim hs_ (fun e_ => (hk_.2.2.2.1) e_) (fun e_ => (hk_.2.2.2.2) e_))) (fun _ hk_ => hk_.1)); replace BK234 := a_ (blk_kept (pk BK234.out) hkp (fun hs_ => Or.elim hs_ (fun e_ => (fun e_ => (Kd.R_ne HO_269001.out BK234.out (by decide)) e_) e_) (fun e_ => (fun e_ => (Kd.R_ne HO_269002.out BK234.out (by decide)) e_) e_))); replace BK251 := a_ (blk_kept (pk BK251.out) hkp (fun hs_ => Or.elim hs_ (fun e_ => (fun e_ => (Kd.R_ne HO_269001.out BK251.out (by decide)) e_) e_) (fun e_ => (fun e_ => (Kd.R_ne HO_269002.out BK251.out (by decide)) e_) e_))); replace BK259 := a_ (blk_kept (pk BK259.out) hkp (fun hs_ => Or.elim hs_ (fun e_ => (fun e_ => (Kd.R_ne HO_269001.out BK259.out (by decide)) e_) e_) (fun e_ => (fun e_ => (Kd.R_ne HO_269002.out BK259.out (by decide)) e_) e_))); replace BK268 := a_ (blk_kept (pk BK268.out) hkp (fun hs_ => Or.elim hs_ (fun e_ => (fun e_ => (Kd.R_ne HO_269001.out BK268.out (by decide)) e_) e_) (fun e_ => (fun e_ => (Kd.R_ne HO_269002.out BK268.out (by decide)) e_) e_))); replace HO_269001 := a_ (Kd.R_reok rfl hy0 (fun k_ e_ => HO_269001.out.1 k_ e_)); replace HO_269002 := a_ (Kd.R_reok rfl hy1 (fun k_ e_ => HO_269002.out.1 k_ e_)); replace HB := a_ (hb); clear hb hkp hy0 hy1; have hcz112_0 : _ = some (Value.int .i64 t260) := (blk_cell BK268.out 0).trans rfl; have hcz112_1 : _ = some (Value.slice Ao44 t261.length co44) := (blk_cell BK268.out 1).trans rfl; have hcz112_2 : _ = some (Value.slice Ao45 t264.length co45) := (blk_cell BK268.out 2).trans rfl; have hfz112_0 := blk_frozen BK268.out 0; have hfz112_1 := blk_frozen BK268.out 1; have hfz112_2 := blk_frozen BK268.out 2) | ((with_reducible refine gate_callee (f := 17) rfl ?_); refine goesL_ (some 87) rfl rfl Try.func17 (by kernel_rfl) rfl #[.agg #[.int .i64 t260, .slice Ao44 t283.length co44, .slice Ao45 t284.length co45], .int .i64 1] rfl (by (try simp only [lA, lB, lC]); first | done | (rw [show t283.length = t261.length from (Kd.R_reads' HO_269001.out).1.symm, show t284.length = t264.length from (Kd.R_reads' HO_269002.out).1.symm] <;> rfl) | rfl | (simp only [lD, lE]; rfl)) ?_; (with_reducible refine (laws_heldCounts.calls kj68 t260 _ _ t283 _ _ t284 1 t285 _ ?side1 ?side2 ?side3 ?side4 A101.out).mono ?_); (case side1 => exact cu (Kd.R_reads' HO_269001.out).2.2); (case side2 => rw [show t283.length = t261.length from (Kd.R_reads' HO_269001.out).1.symm]; exact (Kd.R_reads' HO_269001.out).2.1); (case side3 => exact cu (Kd.R_reads' HO_269002.out).2.2); (case side4 => rw [show t284.length = t264.length from (Kd.R_reads' HO_269002.out).1.symm]; exact (Kd.R_reads' HO_269002.out).2.1); rintro e w113 ⟨rfl, hb⟩; refine ⟨_, rfl, ?_⟩; replace HO_252001 := a_ (Kd.R_below (rk HO_252001.out) hb); replace HO_252002 := a_ (Kd.R_below (rk HO_252002.out) hb); replace HO_260001 := a_ (Kd.R_below (rk HO_260001.out) hb); replace HO_260002 := a_ (Kd.R_below (rk HO_260002.out) hb); replace HO_269001 := a_ (Kd.R_below (rk HO_269001.out) hb); replace HO_269002 := a_ (Kd.R_below (rk HO_269002.out) hb); replace BK234 := a_ (blk_below (pk BK234.out) hb); replace BK251 := a_ (blk_below (pk BK251.out) hb); replace BK259 := a_ (blk_below (pk BK259.out) hb); replace BK268 := a_ (blk_below (pk BK268.out) hb); replace HB := a_ (below_step (by repeat (with_reducible first | exact HB.out | refine bz ?_ (by assumption) | apply bA | apply bN | apply bD)) hb); clear hb; have hnb114 := NB234_251.out; have hnc114 := NB251_234.out; have hnb115 := NB234_259.out; have hnc115 := NB259_234.out; have hcz116_0 : _ = some (Value.int .i64 a0_0) := (blk_cell BK234.out 0).trans rfl; have hcz116_1 : _ = some (Value.slice A0_1 l0_1.length c0_1) := (blk_cell BK234.out 1).trans rfl; have hcz116_2 : _ = some (Value.slice A0_2 l0_2.length c0_2) := (blk_cell BK234.out 2).trans rfl; have hfz116_0 := blk_frozen BK234.out 0; have hfz116_1 := blk_frozen BK234.out 1; have hfz116_2 := blk_frozen BK234.out 2) | ((with_reducible refine gate_callee (f := 13) rfl ?_); refine goesL_ (some 95) rfl rfl Try.func13 (by kernel_rfl) rfl #[.agg #[.int .i64 a0_0, .slice A0_1 l0_1.length c0_1, .slice A0_2 l0_2.length c0_2]] rfl (by (try simp only [lA, lB, lC]); first | done | rfl | (simp only [lD, lE]; rfl)) ?_; (with_reducible refine (laws_toCounts.calls kj68 a0_0 _ _ l0_1 _ _ l0_2 t286 t287 t290 _ ?side1 ?side2 ?side3 ?side4 A104.out).mono ?_); (case side1 => exact Kd.C_below HR0_1.out (un HB.out)); (case side2 => exact HC0_1.out); (case side3 => exact Kd.C_below HR0_2.out (un HB.out)); (case side4 => exact HC0_2.out); rintro e w117 ⟨v288, v291, rfl, ho0, ho1, hb⟩; refine ⟨_, rfl, ?_⟩; have HO289 := a_ (Kd.R_lower (nw (nw (nw (nw (nw (nw ho0 HO_252001.out) HO_252002.out) HO_260001.out) HO_260002.out) HO_269001.out) HO_269002.out) (bs HB.out)); have HO292 := a_ (Kd.R_lower (nw (nw (nw (nw (nw (nw ho1 HO_252001.out) HO_252002.out) HO_260001.out) HO_260002.out) HO_269001.out) HO_269002.out) (bs HB.out)); replace HO_252001 := a_ (ol2 HO_252001.out hb ho0 ho1); replace HO_252002 := a_ (ol2 HO_252002.out hb ho0 ho1); replace HO_260001 := a_ (ol2 HO_260001.out hb ho0 ho1); replace HO_260002 := a_ (ol2 HO_260002.out hb ho0 ho1); replace HO_269001 := a_ (ol2 HO_269001.out hb ho0 ho1); replace HO_269002 := a_ (ol2 HO_269002.out hb ho0 ho1); replace BK234 := a_ (blk_below (pk BK234.out) hb); replace BK251 := a_ (blk_below (pk BK251.out) hb); replace BK259 := a_ (blk_below (pk BK259.out) hb); replace BK268 := a_ (blk_below (pk BK268.out) hb); replace HB := a_ (below_step (by repeat (with_reducible first | exact HB.out | refine bz ?_ (by assumption) | apply bA | apply bN | apply bD)) hb); clear hb ho0 ho1; obtain ⟨Ao118, co118, eo118⟩ := Kd.R_slice HO289.out; subst eo118; obtain ⟨Ao119, co119, eo119⟩ := Kd.R_slice HO292.out; subst eo119) | ((with_reducible refine gate_callee (f := 14) rfl ?_); refine goesL_ (some 101) rfl rfl Try.func14 (by kernel_rfl) rfl #[.agg #[.int .i64 t286, .slice Ao118 t287.length co118, .slice Ao119 t290.length co119], .int .i64 a1, .int .i64 a2, .int .i64 a3, .int .i64 a4, .bool a5] rfl (by (try simp only [lA, lB, lC]); first | done | rfl | (simp only [lD, lE]; rfl)) ?_; (with_reducible refine (impl_AddRay.calls kj68 t286 _ _ t287 _ _ t290 a1 a2 a3 a4 a5 t293 t294 t297 t300 _ ?side1 ?side2 ?side3 ?side4 A105.out).mono ?_); (case side1 => exact cu (Kd.R_reads' HO289.out).2.2); (case side2 => exact (Kd.R_reads' HO289.out).2.1); (case side3 => exact cu (Kd.R_reads' HO292.out).2.2); (case side4 => exact (Kd.R_reads' HO292.out).2.1); rintro e w120 ⟨v295, v298, rfl, ho0, ho1, hb⟩; refine ⟨_, rfl, ?_⟩; have HO296 := a_ (Kd.R_lower (nw (nw (nw (nw (nw (nw (nw (nw ho0 HO_252001.out) HO_252002.out) HO_260001.out) HO_260002.out) HO_269001.out) HO_269002.out) HO289.out) HO292.out) (bs HB.out)); have HO299 := a_ (Kd.R_lower (nw (nw (nw (nw (nw (nw (nw (nw ho1 HO_252001.out) HO_252002.out) HO_260001.out) HO_260002.out) HO_269001.out) HO_269002.out) HO289.out) HO292.out) (bs HB.out)); replace HO_252001 := a_ (ol2 HO_252001.out hb ho0 ho1); replace HO_252002 := a_ (ol2 HO_252002.out hb ho0 ho1); replace HO_260001 := a_ (ol2 HO_260001.out hb ho0 ho1); replace HO_260002 := a_ (ol2 HO_260002.out hb ho0 ho1); replace HO_269001 := a_ (ol2 HO_269001.out hb ho0 ho1); replace HO_269002 := a_ (ol2 HO_269002.out hb ho0 ho1); replace HO289 := a_ (ol2 HO289.out hb ho0 ho1); replace HO292 := a_ (ol2 HO292.out hb ho0 ho1); replace BK234 := a_ (blk_below (pk BK234.out) hb); replace BK251 := a_ (blk_below (pk BK251.out) hb); replace BK259 := a_ (blk_below (pk BK259.out) hb); replace BK268 := a_ (blk_below (pk BK268.out) hb); replace HB := a_ (below_step (by repeat (with_reducible first | exact HB.out | refine bz ?_ (by assumption) | apply bA | apply bN | apply bD)) hb); clear hb ho0 ho1) | ((with_reducible refine gate_dst (N := 22) rfl ?_); refine box_event ?hg (N := 22) ?hd (cs := #[.int .i64 0, .slice none 0 0, .slice none 0 0]) (t := 31) ?hr ?_; (case hd => rfl); (case hg => rfl); (case hr => first | (go_simp; done) | (go_simp; rfl)); intro gb301 hg w121 hbox hb; replace HO_252001 := a_ (Kd.R_below (rk HO_252001.out) hb); replace HO_252002 := a_ (Kd.R_below (rk HO_252002.out) hb); replace HO_260001 := a_ (Kd.R_below (rk HO_260001.out) hb); replace HO_260002 := a_ (Kd.R_below (rk HO_260002.out) hb); replace HO_269001 := a_ (Kd.R_below (rk HO_269001.out) hb); replace HO_269002 := a_ (Kd.R_below (rk HO_269002.out) hb); replace HO289 := a_ (Kd.R_below (rk HO289.out) hb); replace HO292 := a_ (Kd.R_below (rk HO292.out) hb); replace HO296 := a_ (Kd.R_below (rk HO296.out) hb); replace HO299 := a_ (Kd.R_below (rk HO299.out) hb); have BK301 := a_ (hbox); have GW301 := a_ (bsg hg HB.out); have GE301 := a_ (bsg hg HB.out); replace HB := a_ (below_step (by repeat (with_reducible first | exact HB.out | refine bz ?_ (by assumption) | apply bA | apply bN | apply bD)) hb); have NB234_301 := a_ (nel hg BK234.out); have NB301_234 := a_ (nle hg BK234.out); replace BK234 := a_ (blk_below (pk BK234.out) hb); have NB251_301 := a_ (nel hg BK251.out); have NB301_251 := a_ (nle hg BK251.out); replace BK251 := a_ (blk_below (pk BK251.out) hb); have NB259_301 := a_ (nel hg BK259.out); have NB301_259 := a_ (nle hg BK259.out); replace BK259 := a_ (blk_below (pk BK259.out) hb); have NB268_301 := a_ (nel hg BK268.out); have NB301_268 := a_ (nle hg BK268.out); replace BK268 := a_ (blk_below (pk BK268.out) hb); clear hb hbox hg; have hnb122 := NB301_234.out; have hnc122 := NB234_301.out; have hnb123 := NB301_251.out; have hnc123 := NB251_301.out; have hnb124 := NB301_259.out; have hnc124 := NB259_301.out; have hnb125 := NB301_268.out; have hnc125 := NB268_301.out; have hcz126_0 : _ = some (Value.int .i64 0) := (blk_cell BK301.out 0).trans rfl; have hcz126_1 : _ = some (Value.slice none 0 0) := (blk_cell BK301.out 1).trans rfl; have hcz126_2 : _ = some (Value.slice none 0 0) := (blk_cell BK301.out 2).trans rfl; have hfz126_0 := blk_frozen BK301.out 0; have hfz126_1 := blk_frozen BK301.out 1; have hfz126_2 := blk_frozen BK301.out 2; obtain ⟨Ao127, co127, eo127⟩ := Kd.R_slice HO296.out; subst eo127; obtain ⟨Ao128, co128, eo128⟩ := Kd.R_slice HO299.out; subst eo128))
           (try simp only [Act.put, sB, sC, sD])
           go_cut [112] (fun v112 wc => ∃ (kq : Nat) (x112_105 : Bool), v112 = .bool x112_105 ∧ Aside0 (laws_FnExactAddRay.j2 kq t282 x112_105 t260 t283 t284 = some r) ∧ Aside0 (kq ≤ kj68) ∧ Aside0 (Kd.R (Kd.int .i64) 3 wc w.heap.size (fun k_ => some k_ ≠ ((.slice Ao29 t247.length co29) : Value).ownBlock ∧ some k_ ≠ ((.slice Ao36 t279.length co36) : Value).ownBlock ∧ some k_ ≠ ((.slice Ao37 t280.length co37) : Value).ownBlock ∧ some k_ ≠ ((.slice Ao44 t261.length co44) : Value).ownBlock ∧ some k_ ≠ ((.slice Ao45 t264.length co45) : Value).ownBlock ∧ some k_ ≠ ((.slice Ao127 t294.length co127) : Value).ownBlock ∧ some k_ ≠ ((.slice Ao128 t297.length co128) : Value).ownBlock) (.slice Ao28 t244.length co28) t244) ∧ Aside0 (Kd.R (Kd.int .i64) 3 wc w.heap.size (fun k_ => some k_ ≠ ((.slice Ao28 t244.length co28) : Value).ownBlock ∧ some k_ ≠ ((.slice Ao36 t279.length co36) : Value).ownBlock ∧ some k_ ≠ ((.slice Ao37 t280.length co37) : Value).ownBlock ∧ some k_ ≠ ((.slice Ao44 t261.length co44) : Value).ownBlock ∧ some k_ ≠ ((.slice Ao45 t264.length co45) : Value).ownBlock ∧ some k_ ≠ ((.slice Ao127 t294.length co127) : Value).ownBlock ∧ some k_ ≠ ((.slice Ao128 t297.length co128) : Value).ownBlock) (.slice Ao29 t247.length co29) t247) ∧ Aside0 (Kd.R (Kd.int .i64) 3 wc w.heap.size (fun k_ => some k_ ≠ ((.slice Ao28 t244.length co28) : Value).ownBlock ∧ some k_ ≠ ((.slice Ao29 t247.length co29) : Value).ownBlock ∧ some k_ ≠ ((.slice Ao37 t280.length co37) : Value).ownBlock ∧ some k_ ≠ ((.slice Ao44 t261.length co44) : Value).ownBlock ∧ some k_ ≠ ((.slice Ao45 t264.length co45) : Value).ownBlock ∧ some k_ ≠ ((.slice Ao127 t294.length co127) : Value).ownBlock ∧ some k_ ≠ ((.slice Ao128 t297.length co128) : Value).ownBlock) (.slice Ao36 t279.length co36) t279) ∧ Aside0 (Kd.R (Kd.int .i64) 3 wc w.heap.size (fun k_ => some k_ ≠ ((.slice Ao28 t244.length co28) : Value).ownBlock ∧ some k_ ≠ ((.slice Ao29 t247.length co29) : Value).ownBlock ∧ some k_ ≠ ((.slice Ao36 t279.length co36) : Value).ownBlock ∧ some k_ ≠ ((.slice Ao44 t261.length co44) : Value).ownBlock ∧ some k_ ≠ ((.slice Ao45 t264.length co45) : Value).ownBlock ∧ some k_ ≠ ((.slice Ao127 t294.length co127) : Value).ownBlock ∧ some k_ ≠ ((.slice Ao128 t297.length co128) : Value).ownBlock) (.slice Ao37 t280.length co37) t280) ∧ Aside0 (Kd.R (Kd.int .i64) 3 wc w.heap.size (fun k_ => some k_ ≠ ((.slice Ao28 t244.length co28) : Value).ownBlock ∧ some k_ ≠ ((.slice Ao29 t247.length co29) : Value).ownBlock ∧ some k_ ≠ ((.slice Ao36 t279.length co36) : Value).ownBlock ∧ some k_ ≠ ((.slice Ao37 t280.length co37) : Value).ownBlock ∧ some k_ ≠ ((.slice Ao45 t264.length co45) : Value).ownBlock ∧ some k_ ≠ ((.slice Ao127 t294.length co127) : Value).ownBlock ∧ some k_ ≠ ((.slice Ao128 t297.length co128) : Value).ownBlock) (.slice Ao44 t261.length co44) t283) ∧ Aside0 (Kd.R (Kd.int .i64) 3 wc w.heap.size (fun k_ => some k_ ≠ ((.slice Ao28 t244.length co28) : Value).ownBlock ∧ some k_ ≠ ((.slice Ao29 t247.length co29) : Value).ownBlock ∧ some k_ ≠ ((.slice Ao36 t279.length co36) : Value).ownBlock ∧ some k_ ≠ ((.slice Ao37 t280.length co37) : Value).ownBlock ∧ some k_ ≠ ((.slice Ao44 t261.length co44) : Value).ownBlock ∧ some k_ ≠ ((.slice Ao127 t294.length co127) : Value).ownBlock ∧ some k_ ≠ ((.slice Ao128 t297.length co128) : Value).ownBlock) (.slice Ao45 t264.length co45) t284) ∧ Aside0 (Kd.R (Kd.int .i64) 3 wc w.heap.size (fun k_ => some k_ ≠ ((.slice Ao28 t244.length co28) : Value).ownBlock ∧ some k_ ≠ ((.slice Ao29 t247.length co29) : Value).ownBlock ∧ some k_ ≠ ((.slice Ao36 t279.length co36) : Value).ownBlock ∧ some k_ ≠ ((.slice Ao37 t280.length co37) : Value).ownBlock ∧ some k_ ≠ ((.slice Ao44 t261.length co44) : Value).ownBlock ∧ some k_ ≠ ((.slice Ao45 t264.length co45) : Value).ownBlock ∧ some k_ ≠ ((.slice Ao128 t297.length co128) : Value).ownBlock) (.slice Ao127 t294.length co127) t294) ∧ Aside0 (Kd.R (Kd.int .i64) 3 wc w.heap.size (fun k_ => some k_ ≠ ((.slice Ao28 t244.length co28) : Value).ownBlock ∧ some k_ ≠ ((.slice Ao29 t247.length co29) : Value).ownBlock ∧ some k_ ≠ ((.slice Ao36 t279.length co36) : Value).ownBlock ∧ some k_ ≠ ((.slice Ao37 t280.length co37) : Value).ownBlock ∧ some k_ ≠ ((.slice Ao44 t261.length co44) : Value).ownBlock ∧ some k_ ≠ ((.slice Ao45 t264.length co45) : Value).ownBlock ∧ some k_ ≠ ((.slice Ao127 t294.length co127) : Value).ownBlock) (.slice Ao128 t297.length co128) t297) ∧ Aside0 (wc.heap[gb234]? = some (.cells #[.int .i64 a0_0, (.slice A0_1 l0_1.length c0_1), (.slice A0_2 l0_2.length c0_2)] 29 (0, 0))) ∧ Aside0 (wc.heap[gb251]? = some (.cells #[.int .i64 t243, (.slice Ao28 t244.length co28), (.slice Ao29 t247.length co29)] 31 (0, 0))) ∧ Aside0 (wc.heap[gb259]? = some (.cells #[.int .i64 t252, (.slice Ao36 t279.length co36), (.slice Ao37 t280.length co37)] 31 (0, 0))) ∧ Aside0 (wc.heap[gb268]? = some (.cells #[.int .i64 t260, (.slice Ao44 t261.length co44), (.slice Ao45 t264.length co45)] 31 (0, 0))) ∧ Aside0 (wc.heap[gb301]? = some (.cells #[.int .i64 t293, (.slice Ao127 t294.length co127), (.slice Ao128 t297.length co128)] 31 (0, 0))) ∧ Aside0 (Below w.heap.size w wc))
           case first =>
            have H := HC106.out
            clear HC106
            replace H := Option.bind_eq_some_iff.mp H
            obtain ⟨t302, A1290, H⟩ := H
            have A129 := Aside0.mk A1290
            clear A1290
            by_cases c130 : t302 = true
            ·subst c130
             have H1 : (laws_FnExactAddRay.j2 kj68 t282 (t300 != t250) t260 t283 t284) = some r := by rw [if_pos rfl] at H; exact H
             clear H
             have H := H1
             clear H1
             have H' := Aside0.mk H
             clear H
             have hnb131 := NB301_234.out
             have hnc131 := NB234_301.out
             have hnb132 := NB301_251.out
             have hnc132 := NB251_301.out
             have hnb133 := NB301_259.out
             have hnc133 := NB259_301.out
             have hnb134 := NB301_268.out
             have hnc134 := NB268_301.out
             have hcz135_0 : _ = some (Value.int .i64 0) := (blk_cell BK301.out 0).trans rfl
             have hcz135_1 : _ = some (Value.slice none 0 0) := (blk_cell BK301.out 1).trans rfl
             have hcz135_2 : _ = some (Value.slice none 0 0) := (blk_cell BK301.out 2).trans rfl
             have hfz135_0 := blk_frozen BK301.out 0
             have hfz135_1 := blk_frozen BK301.out 1
             have hfz135_2 := blk_frozen BK301.out 2
             have hnb136 := NB251_234.out
             have hnc136 := NB234_251.out
             have hnb137 := NB251_259.out
             have hnc137 := NB259_251.out
             have hnb138 := NB251_268.out
             have hnc138 := NB268_251.out
             have hcz139_0 : _ = some (Value.int .i64 t243) := (blk_cell BK251.out 0).trans rfl
             have hcz139_1 : _ = some (Value.slice Ao28 t244.length co28) := (blk_cell BK251.out 1).trans rfl
             have hcz139_2 : _ = some (Value.slice Ao29 t247.length co29) := (blk_cell BK251.out 2).trans rfl
             have hfz139_0 := blk_frozen BK251.out 0
             have hfz139_1 := blk_frozen BK251.out 1
             have hfz139_2 := blk_frozen BK251.out 2
             go_wp2_with (first | ((with_reducible refine gate_callee (f := 15) rfl ?_); refine goesL_ (some 106) rfl rfl Try.func15 (by kernel_rfl) rfl #[.agg #[.int .i64 t293, .slice Ao127 t294.length co127, .slice Ao128 t297.length co128], .agg #[.int .i64 t243, .slice Ao28 t244.length co28, .slice Ao29 t247.length co29]] rfl (by (try simp only [lA, lB, lC]); first | done | rfl | (simp only [lD, lE]; rfl)) ?_; (with_reducible refine (laws_eqCounts.calls kj68 t293 _ _ t294 _ _ t297 t243 _ _ t244 _ _ t247 true _ ?side1 ?side2 ?side3 ?side4 ?side5 ?side6 ?side7 ?side8 A129.out).mono ?_); (case side1 => exact cu (Kd.R_reads' (fr3 HO296.out BK301.out (by decide) 0 (.int .i64 t293) 1 (.slice Ao127 t294.length co127) 2 (.slice Ao128 t297.length co128))).2.2); (case side2 => exact (Kd.R_reads' HO296.out).2.1); (case side3 => exact cu (Kd.R_reads' (fr3 HO299.out BK301.out (by decide) 0 (.int .i64 t293) 1 (.slice Ao127 t294.length co127) 2 (.slice Ao128 t297.length co128))).2.2); (case side4 => exact (Kd.R_reads' HO299.out).2.1); (case side5 => exact cu (Kd.R_reads' (fr3 HO_252001.out BK301.out (by decide) 0 (.int .i64 t293) 1 (.slice Ao127 t294.length co127) 2 (.slice Ao128 t297.length co128))).2.2); (case side6 => exact (Kd.R_reads' HO_252001.out).2.1); (case side7 => exact cu (Kd.R_reads' (fr3 HO_252002.out BK301.out (by decide) 0 (.int .i64 t293) 1 (.slice Ao127 t294.length co127) 2 (.slice Ao128 t297.length co128))).2.2); (case side8 => exact (Kd.R_reads' HO_252002.out).2.1); rintro e w140 ⟨rfl, hb⟩; refine ⟨_, rfl, ?_⟩; replace HO_252001 := a_ (Kd.R_below (rk (Kd.R_mono (fr3 HO_252001.out BK301.out (by decide) 0 (.int .i64 t293) 1 (.slice Ao127 t294.length co127) 2 (.slice Ao128 t297.length co128)) (fun _ h_ => h_.1))) hb); replace HO_252002 := a_ (Kd.R_below (rk (Kd.R_mono (fr3 HO_252002.out BK301.out (by decide) 0 (.int .i64 t293) 1 (.slice Ao127 t294.length co127) 2 (.slice Ao128 t297.length co128)) (fun _ h_ => h_.1))) hb); replace HO_260001 := a_ (Kd.R_below (rk (Kd.R_mono (fr3 HO_260001.out BK301.out (by decide) 0 (.int .i64 t293) 1 (.slice Ao127 t294.length co127) 2 (.slice Ao128 t297.length co128)) (fun _ h_ => h_.1))) hb); replace HO_260002 := a_ (Kd.R_below (rk (Kd.R_mono (fr3 HO_260002.out BK301.out (by decide) 0 (.int .i64 t293) 1 (.slice Ao127 t294.length co127) 2 (.slice Ao128 t297.length co128)) (fun _ h_ => h_.1))) hb); replace HO_269001 := a_ (Kd.R_below (rk (Kd.R_mono (fr3 HO_269001.out BK301.out (by decide) 0 (.int .i64 t293) 1 (.slice Ao127 t294.length co127) 2 (.slice Ao128 t297.length co128)) (fun _ h_ => h_.1))) hb); replace HO_269002 := a_ (Kd.R_below (rk (Kd.R_mono (fr3 HO_269002.out BK301.out (by decide) 0 (.int .i64 t293) 1 (.slice Ao127 t294.length co127) 2 (.slice Ao128 t297.length co128)) (fun _ h_ => h_.1))) hb); replace HO289 := a_ (Kd.R_below (rk (Kd.R_mono (fr3 HO289.out BK301.out (by decide) 0 (.int .i64 t293) 1 (.slice Ao127 t294.length co127) 2 (.slice Ao128 t297.length co128)) (fun _ h_ => h_.1))) hb); replace HO292 := a_ (Kd.R_below (rk (Kd.R_mono (fr3 HO292.out BK301.out (by decide) 0 (.int .i64 t293) 1 (.slice Ao127 t294.length co127) 2 (.slice Ao128 t297.length co128)) (fun _ h_ => h_.1))) hb); replace HO296 := a_ (Kd.R_below (rk (Kd.R_mono (fr3 HO296.out BK301.out (by decide) 0 (.int .i64 t293) 1 (.slice Ao127 t294.length co127) 2 (.slice Ao128 t297.length co128)) (fun _ h_ => h_.1))) hb); replace HO299 := a_ (Kd.R_below (rk (Kd.R_mono (fr3 HO299.out BK301.out (by decide) 0 (.int .i64 t293) 1 (.slice Ao127 t294.length co127) 2 (.slice Ao128 t297.length co128)) (fun _ h_ => h_.1))) hb); replace BK234 := a_ (blk_below (g := gb234) (o := .cells #[.int .i64 a0_0, .slice A0_1 l0_1.length c0_1, .slice A0_2 l0_2.length c0_2] 29 (0, 0)) (by refine pk ?_; refine blk_far ?_ NB234_301.out _; refine pk ?_; refine blk_far ?_ NB234_301.out _; refine pk ?_; refine blk_far ?_ NB234_301.out _; refine pk ?_; exact BK234.out) hb); replace BK251 := a_ (blk_below (g := gb251) (o := .cells #[.int .i64 t243, .slice Ao28 t244.length co28, .slice Ao29 t247.length co29] 31 (0, 0)) (by refine pk ?_; refine blk_far ?_ NB251_301.out _; refine pk ?_; refine blk_far ?_ NB251_301.out _; refine pk ?_; refine blk_far ?_ NB251_301.out _; refine pk ?_; exact BK251.out) hb); replace BK259 := a_ (blk_below (g := gb259) (o := .cells #[.int .i64 t252, .slice Ao36 t279.length co36, .slice Ao37 t280.length co37] 31 (0, 0)) (by refine pk ?_; refine blk_far ?_ NB259_301.out _; refine pk ?_; refine blk_far ?_ NB259_301.out _; refine pk ?_; refine blk_far ?_ NB259_301.out _; refine pk ?_; exact BK259.out) hb); replace BK268 := a_ (blk_below (g := gb268) (o := .cells #[.int .i64 t260, .slice Ao44 t261.length co44, .slice Ao45 t264.length co45] 31 (0, 0)) (by refine pk ?_; refine blk_far ?_ NB268_301.out _; refine pk ?_; refine blk_far ?_ NB268_301.out _; refine pk ?_; refine blk_far ?_ NB268_301.out _; refine pk ?_; exact BK268.out) hb); replace BK301 := a_ (blk_below (g := gb301) (o := .cells #[.int .i64 t293, .slice Ao127 t294.length co127, .slice Ao128 t297.length co128] 31 (0, 0)) (by refine pk ?_; refine blk_put (cs := #[.int .i64 t293, .slice Ao127 t294.length co127, .slice none 0 0]) ?_ 2 _ rfl; refine pk ?_; refine blk_put (cs := #[.int .i64 t293, .slice none 0 0, .slice none 0 0]) ?_ 1 _ rfl; refine pk ?_; refine blk_put (cs := #[.int .i64 0, .slice none 0 0, .slice none 0 0]) ?_ 0 _ rfl; refine pk ?_; exact BK301.out) hb); replace HB := a_ (below_step (by repeat (with_reducible first | exact HB.out | refine bz ?_ (by assumption) | apply bA | apply bN | apply bD)) hb); clear hb))
             go_meet
             case rel => exact ⟨_, ((t300 != t250)), (by first | rfl | (simp; done) | (simp [*]; done)), H', ⟨by have := HJ15.out; have := HJ68.out; first | omega | exact Nat.le_refl _⟩, ⟨by (try simp only [hl260001_68, hl260002_68]); refine rk ?_; exact Kd.R_mono HO_252001.out (fun _ ⟨⟨⟨⟨⟨a, b, c, d, e⟩, _⟩, _⟩, f⟩, g⟩ => ⟨a, b, c, d, e, f, g⟩)⟩, ⟨by (try simp only [hl260001_68, hl260002_68]); refine rk ?_; exact Kd.R_mono HO_252002.out (fun _ ⟨⟨⟨⟨⟨a, b, c, d, e⟩, _⟩, _⟩, f⟩, g⟩ => ⟨a, b, c, d, e, f, g⟩)⟩, ⟨by (try simp only [hl260001_68, hl260002_68]); refine rk ?_; exact Kd.R_mono HO_260001.out (fun _ ⟨⟨⟨⟨⟨a, b, c, d, e⟩, _⟩, _⟩, f⟩, g⟩ => ⟨a, b, c, d, e, f, g⟩)⟩, ⟨by (try simp only [hl260001_68, hl260002_68]); refine rk ?_; exact Kd.R_mono HO_260002.out (fun _ ⟨⟨⟨⟨⟨a, b, c, d, e⟩, _⟩, _⟩, f⟩, g⟩ => ⟨a, b, c, d, e, f, g⟩)⟩, ⟨by (try simp only [hl260001_68, hl260002_68]); refine rk ?_; exact Kd.R_mono HO_269001.out (fun _ ⟨⟨⟨⟨⟨a, b, c, d, e⟩, _⟩, _⟩, f⟩, g⟩ => ⟨a, b, c, d, e, f, g⟩)⟩, ⟨by (try simp only [hl260001_68, hl260002_68]); refine rk ?_; exact Kd.R_mono HO_269002.out (fun _ ⟨⟨⟨⟨⟨a, b, c, d, e⟩, _⟩, _⟩, f⟩, g⟩ => ⟨a, b, c, d, e, f, g⟩)⟩, ⟨by (try simp only [hl260001_68, hl260002_68]); refine rk ?_; exact Kd.R_mono HO296.out (fun _ ⟨⟨⟨⟨⟨⟨⟨⟨a, b⟩, c⟩, d⟩, e⟩, f⟩, g⟩, _⟩, _⟩ => ⟨b, c, d, e, f, g, a⟩)⟩, ⟨by (try simp only [hl260001_68, hl260002_68]); refine rk ?_; exact Kd.R_mono HO299.out (fun _ ⟨⟨⟨⟨⟨⟨⟨⟨a, b⟩, c⟩, d⟩, e⟩, f⟩, g⟩, _⟩, _⟩ => ⟨b, c, d, e, f, g, a⟩)⟩, ⟨by (try simp only [hl260001_68, hl260002_68]); refine pk ?_; exact BK234.out⟩, ⟨by (try simp only [hl260001_68, hl260002_68]); refine pk ?_; exact BK251.out⟩, ⟨by (try simp only [hl260001_68, hl260002_68]); refine pk ?_; exact BK259.out⟩, ⟨by (try simp only [hl260001_68, hl260002_68]); refine pk ?_; exact BK268.out⟩, ⟨by (try simp only [hl260001_68, hl260002_68]); refine pk ?_; exact BK301.out⟩, ⟨by repeat (with_reducible first | exact HB.out | refine bz ?_ (by assumption) | apply bA | apply bN | apply bD)⟩⟩
            ·replace c130 := Bool.eq_false_iff.mpr c130
             subst c130
             have H1 : (laws_FnExactAddRay.j2 kj68 t282 true t260 t283 t284) = some r := by rw [if_neg (show ¬ (false = true) by decide)] at H; exact H
             clear H
             have H := H1
             clear H1
             have H' := Aside0.mk H
             clear H
             have hnb141 := NB301_234.out
             have hnc141 := NB234_301.out
             have hnb142 := NB301_251.out
             have hnc142 := NB251_301.out
             have hnb143 := NB301_259.out
             have hnc143 := NB259_301.out
             have hnb144 := NB301_268.out
             have hnc144 := NB268_301.out
             have hcz145_0 : _ = some (Value.int .i64 0) := (blk_cell BK301.out 0).trans rfl
             have hcz145_1 : _ = some (Value.slice none 0 0) := (blk_cell BK301.out 1).trans rfl
             have hcz145_2 : _ = some (Value.slice none 0 0) := (blk_cell BK301.out 2).trans rfl
             have hfz145_0 := blk_frozen BK301.out 0
             have hfz145_1 := blk_frozen BK301.out 1
             have hfz145_2 := blk_frozen BK301.out 2
             have hnb146 := NB251_234.out
             have hnc146 := NB234_251.out
             have hnb147 := NB251_259.out
             have hnc147 := NB259_251.out
             have hnb148 := NB251_268.out
             have hnc148 := NB268_251.out
             have hcz149_0 : _ = some (Value.int .i64 t243) := (blk_cell BK251.out 0).trans rfl
             have hcz149_1 : _ = some (Value.slice Ao28 t244.length co28) := (blk_cell BK251.out 1).trans rfl
             have hcz149_2 : _ = some (Value.slice Ao29 t247.length co29) := (blk_cell BK251.out 2).trans rfl
             have hfz149_0 := blk_frozen BK251.out 0
             have hfz149_1 := blk_frozen BK251.out 1
             have hfz149_2 := blk_frozen BK251.out 2
             go_wp2_with (first | ((with_reducible refine gate_callee (f := 15) rfl ?_); refine goesL_ (some 106) rfl rfl Try.func15 (by kernel_rfl) rfl #[.agg #[.int .i64 t293, .slice Ao127 t294.length co127, .slice Ao128 t297.length co128], .agg #[.int .i64 t243, .slice Ao28 t244.length co28, .slice Ao29 t247.length co29]] rfl (by (try simp only [lA, lB, lC]); first | done | rfl | (simp only [lD, lE]; rfl)) ?_; (with_reducible refine (laws_eqCounts.calls kj68 t293 _ _ t294 _ _ t297 t243 _ _ t244 _ _ t247 false _ ?side1 ?side2 ?side3 ?side4 ?side5 ?side6 ?side7 ?side8 A129.out).mono ?_); (case side1 => exact cu (Kd.R_reads' (fr3 HO296.out BK301.out (by decide) 0 (.int .i64 t293) 1 (.slice Ao127 t294.length co127) 2 (.slice Ao128 t297.length co128))).2.2); (case side2 => exact (Kd.R_reads' HO296.out).2.1); (case side3 => exact cu (Kd.R_reads' (fr3 HO299.out BK301.out (by decide) 0 (.int .i64 t293) 1 (.slice Ao127 t294.length co127) 2 (.slice Ao128 t297.length co128))).2.2); (case side4 => exact (Kd.R_reads' HO299.out).2.1); (case side5 => exact cu (Kd.R_reads' (fr3 HO_252001.out BK301.out (by decide) 0 (.int .i64 t293) 1 (.slice Ao127 t294.length co127) 2 (.slice Ao128 t297.length co128))).2.2); (case side6 => exact (Kd.R_reads' HO_252001.out).2.1); (case side7 => exact cu (Kd.R_reads' (fr3 HO_252002.out BK301.out (by decide) 0 (.int .i64 t293) 1 (.slice Ao127 t294.length co127) 2 (.slice Ao128 t297.length co128))).2.2); (case side8 => exact (Kd.R_reads' HO_252002.out).2.1); rintro e w150 ⟨rfl, hb⟩; refine ⟨_, rfl, ?_⟩; replace HO_252001 := a_ (Kd.R_below (rk (Kd.R_mono (fr3 HO_252001.out BK301.out (by decide) 0 (.int .i64 t293) 1 (.slice Ao127 t294.length co127) 2 (.slice Ao128 t297.length co128)) (fun _ h_ => h_.1))) hb); replace HO_252002 := a_ (Kd.R_below (rk (Kd.R_mono (fr3 HO_252002.out BK301.out (by decide) 0 (.int .i64 t293) 1 (.slice Ao127 t294.length co127) 2 (.slice Ao128 t297.length co128)) (fun _ h_ => h_.1))) hb); replace HO_260001 := a_ (Kd.R_below (rk (Kd.R_mono (fr3 HO_260001.out BK301.out (by decide) 0 (.int .i64 t293) 1 (.slice Ao127 t294.length co127) 2 (.slice Ao128 t297.length co128)) (fun _ h_ => h_.1))) hb); replace HO_260002 := a_ (Kd.R_below (rk (Kd.R_mono (fr3 HO_260002.out BK301.out (by decide) 0 (.int .i64 t293) 1 (.slice Ao127 t294.length co127) 2 (.slice Ao128 t297.length co128)) (fun _ h_ => h_.1))) hb); replace HO_269001 := a_ (Kd.R_below (rk (Kd.R_mono (fr3 HO_269001.out BK301.out (by decide) 0 (.int .i64 t293) 1 (.slice Ao127 t294.length co127) 2 (.slice Ao128 t297.length co128)) (fun _ h_ => h_.1))) hb); replace HO_269002 := a_ (Kd.R_below (rk (Kd.R_mono (fr3 HO_269002.out BK301.out (by decide) 0 (.int .i64 t293) 1 (.slice Ao127 t294.length co127) 2 (.slice Ao128 t297.length co128)) (fun _ h_ => h_.1))) hb); replace HO289 := a_ (Kd.R_below (rk (Kd.R_mono (fr3 HO289.out BK301.out (by decide) 0 (.int .i64 t293) 1 (.slice Ao127 t294.length co127) 2 (.slice Ao128 t297.length co128)) (fun _ h_ => h_.1))) hb); replace HO292 := a_ (Kd.R_below (rk (Kd.R_mono (fr3 HO292.out BK301.out (by decide) 0 (.int .i64 t293) 1 (.slice Ao127 t294.length co127) 2 (.slice Ao128 t297.length co128)) (fun _ h_ => h_.1))) hb); replace HO296 := a_ (Kd.R_below (rk (Kd.R_mono (fr3 HO296.out BK301.out (by decide) 0 (.int .i64 t293) 1 (.slice Ao127 t294.length co127) 2 (.slice Ao128 t297.length co128)) (fun _ h_ => h_.1))) hb); replace HO299 := a_ (Kd.R_below (rk (Kd.R_mono (fr3 HO299.out BK301.out (by decide) 0 (.int .i64 t293) 1 (.slice Ao127 t294.length co127) 2 (.slice Ao128 t297.length co128)) (fun _ h_ => h_.1))) hb); replace BK234 := a_ (blk_below (g := gb234) (o := .cells #[.int .i64 a0_0, .slice A0_1 l0_1.length c0_1, .slice A0_2 l0_2.length c0_2] 29 (0, 0)) (by refine pk ?_; refine blk_far ?_ NB234_301.out _; refine pk ?_; refine blk_far ?_ NB234_301.out _; refine pk ?_; refine blk_far ?_ NB234_301.out _; refine pk ?_; exact BK234.out) hb); replace BK251 := a_ (blk_below (g := gb251) (o := .cells #[.int .i64 t243, .slice Ao28 t244.length co28, .slice Ao29 t247.length co29] 31 (0, 0)) (by refine pk ?_; refine blk_far ?_ NB251_301.out _; refine pk ?_; refine blk_far ?_ NB251_301.out _; refine pk ?_; refine blk_far ?_ NB251_301.out _; refine pk ?_; exact BK251.out) hb); replace BK259 := a_ (blk_below (g := gb259) (o := .cells #[.int .i64 t252, .slice Ao36 t279.length co36, .slice Ao37 t280.length co37] 31 (0, 0)) (by refine pk ?_; refine blk_far ?_ NB259_301.out _; refine pk ?_; refine blk_far ?_ NB259_301.out _; refine pk ?_; refine blk_far ?_ NB259_301.out _; refine pk ?_; exact BK259.out) hb); replace BK268 := a_ (blk_below (g := gb268) (o := .cells #[.int .i64 t260, .slice Ao44 t261.length co44, .slice Ao45 t264.length co45] 31 (0, 0)) (by refine pk ?_; refine blk_far ?_ NB268_301.out _; refine pk ?_; refine blk_far ?_ NB268_301.out _; refine pk ?_; refine blk_far ?_ NB268_301.out _; refine pk ?_; exact BK268.out) hb); replace BK301 := a_ (blk_below (g := gb301) (o := .cells #[.int .i64 t293, .slice Ao127 t294.length co127, .slice Ao128 t297.length co128] 31 (0, 0)) (by refine pk ?_; refine blk_put (cs := #[.int .i64 t293, .slice Ao127 t294.length co127, .slice none 0 0]) ?_ 2 _ rfl; refine pk ?_; refine blk_put (cs := #[.int .i64 t293, .slice none 0 0, .slice none 0 0]) ?_ 1 _ rfl; refine pk ?_; refine blk_put (cs := #[.int .i64 0, .slice none 0 0, .slice none 0 0]) ?_ 0 _ rfl; refine pk ?_; exact BK301.out) hb); replace HB := a_ (below_step (by repeat (with_reducible first | exact HB.out | refine bz ?_ (by assumption) | apply bA | apply bN | apply bD)) hb); clear hb))
             go_meet
             case rel => exact ⟨_, (true), (by first | rfl | (simp; done) | (simp [*]; done)), H', ⟨by have := HJ15.out; have := HJ68.out; first | omega | exact Nat.le_refl _⟩, ⟨by (try simp only [hl260001_68, hl260002_68]); refine rk ?_; exact Kd.R_mono HO_252001.out (fun _ ⟨⟨⟨⟨⟨a, b, c, d, e⟩, _⟩, _⟩, f⟩, g⟩ => ⟨a, b, c, d, e, f, g⟩)⟩, ⟨by (try simp only [hl260001_68, hl260002_68]); refine rk ?_; exact Kd.R_mono HO_252002.out (fun _ ⟨⟨⟨⟨⟨a, b, c, d, e⟩, _⟩, _⟩, f⟩, g⟩ => ⟨a, b, c, d, e, f, g⟩)⟩, ⟨by (try simp only [hl260001_68, hl260002_68]); refine rk ?_; exact Kd.R_mono HO_260001.out (fun _ ⟨⟨⟨⟨⟨a, b, c, d, e⟩, _⟩, _⟩, f⟩, g⟩ => ⟨a, b, c, d, e, f, g⟩)⟩, ⟨by (try simp only [hl260001_68, hl260002_68]); refine rk ?_; exact Kd.R_mono HO_260002.out (fun _ ⟨⟨⟨⟨⟨a, b, c, d, e⟩, _⟩, _⟩, f⟩, g⟩ => ⟨a, b, c, d, e, f, g⟩)⟩, ⟨by (try simp only [hl260001_68, hl260002_68]); refine rk ?_; exact Kd.R_mono HO_269001.out (fun _ ⟨⟨⟨⟨⟨a, b, c, d, e⟩, _⟩, _⟩, f⟩, g⟩ => ⟨a, b, c, d, e, f, g⟩)⟩, ⟨by (try simp only [hl260001_68, hl260002_68]); refine rk ?_; exact Kd.R_mono HO_269002.out (fun _ ⟨⟨⟨⟨⟨a, b, c, d, e⟩, _⟩, _⟩, f⟩, g⟩ => ⟨a, b, c, d, e, f, g⟩)⟩, ⟨by (try simp only [hl260001_68, hl260002_68]); refine rk ?_; exact Kd.R_mono HO296.out (fun _ ⟨⟨⟨⟨⟨⟨⟨⟨a, b⟩, c⟩, d⟩, e⟩, f⟩, g⟩, _⟩, _⟩ => ⟨b, c, d, e, f, g, a⟩)⟩, ⟨by (try simp only [hl260001_68, hl260002_68]); refine rk ?_; exact Kd.R_mono HO299.out (fun _ ⟨⟨⟨⟨⟨⟨⟨⟨a, b⟩, c⟩, d⟩, e⟩, f⟩, g⟩, _⟩, _⟩ => ⟨b, c, d, e, f, g, a⟩)⟩, ⟨by (try simp only [hl260001_68, hl260002_68]); refine pk ?_; exact BK234.out⟩, ⟨by (try simp only [hl260001_68, hl260002_68]); refine pk ?_; exact BK251.out⟩, ⟨by (try simp only [hl260001_68, hl260002_68]); refine pk ?_; exact BK259.out⟩, ⟨by (try simp only [hl260001_68, hl260002_68]); refine pk ?_; exact BK268.out⟩, ⟨by (try simp only [hl260001_68, hl260002_68]); refine pk ?_; exact BK301.out⟩, ⟨by repeat (with_reducible first | exact HB.out | refine bz ?_ (by assumption) | apply bA | apply bN | apply bD)⟩⟩
           case rest =>
            clear HC106
            try clear c1; try clear c2; try clear p2; try clear c3; try clear c4; try clear c5; try clear c6; try clear c7; try clear c8; try clear c8b0; try clear c9; try clear c10; try clear c11; try clear c12; try clear c13; try clear c14; try clear c15; try clear c16; try clear c17; try clear c26; try clear c33; try clear c34; try clear c40; try clear c41; try clear c42; try clear c47; try clear c48; try clear c49; try clear c50; try clear c52; try clear c53; try clear c56; try clear c57; try clear c58; try clear c60; try clear c61; try clear c64; try clear c67; try clear c75; try clear c76; try clear c77; try clear c80; try clear c80b0; try clear c82; try clear c83; try clear c84; try clear c85; try clear c87; try clear c88; try clear c91; try clear c92; try clear c93; try clear c95; try clear c96; try clear c99; try clear c102; try clear c102b0; try clear c103; try clear c103b0; try clear c103b1; try clear c107; try clear c108; try clear c109; try clear c114; try clear c115; try clear c122; try clear c123; try clear c124; try clear c125; try clear c130; try clear c131; try clear c132; try clear c133; try clear c134; try clear c136; try clear c137; try clear c138; try clear c141; try clear c142; try clear c143; try clear c144; try clear c146; try clear c147; try clear c148; try clear hcz10_0; try clear hcz10_1; try clear hcz10_2; try clear hcz110_0; try clear hcz110_1; try clear hcz110_2; try clear hcz112_0; try clear hcz112_1; try clear hcz112_2; try clear hcz116_0; try clear hcz116_1; try clear hcz116_2; try clear hcz126_0; try clear hcz126_1; try clear hcz126_2; try clear hcz135_0; try clear hcz135_1; try clear hcz135_2; try clear hcz139_0; try clear hcz139_1; try clear hcz139_2; try clear hcz145_0; try clear hcz145_1; try clear hcz145_2; try clear hcz149_0; try clear hcz149_1; try clear hcz149_2; try clear hcz18_0; try clear hcz18_1; try clear hcz18_2; try clear hcz20_0; try clear hcz20_1; try clear hcz20_2; try clear hcz27_0; try clear hcz27_1; try clear hcz27_2; try clear hcz30_0; try clear hcz30_1; try clear hcz30_2; try clear hcz35_0; try clear hcz35_1; try clear hcz35_2; try clear hcz43_0; try clear hcz43_1; try clear hcz43_2; try clear hcz51_0; try clear hcz51_1; try clear hcz51_2; try clear hcz54_0; try clear hcz54_1; try clear hcz54_2; try clear hcz59_0; try clear hcz59_1; try clear hcz59_2; try clear hcz62_0; try clear hcz62_1; try clear hcz62_2; try clear hcz78_0; try clear hcz78_1; try clear hcz78_2; try clear hcz86_0; try clear hcz86_1; try clear hcz86_2; try clear hcz89_0; try clear hcz89_1; try clear hcz89_2; try clear hcz94_0; try clear hcz94_1; try clear hcz94_2; try clear hcz97_0; try clear hcz97_1; try clear hcz97_2; try clear hfz10_0; try clear hfz10_1; try clear hfz10_2; try clear hfz110_0; try clear hfz110_1; try clear hfz110_2; try clear hfz112_0; try clear hfz112_1; try clear hfz112_2; try clear hfz116_0; try clear hfz116_1; try clear hfz116_2; try clear hfz126_0; try clear hfz126_1; try clear hfz126_2; try clear hfz135_0; try clear hfz135_1; try clear hfz135_2; try clear hfz139_0; try clear hfz139_1; try clear hfz139_2; try clear hfz145_0; try clear hfz145_1; try clear hfz145_2; try clear hfz149_0; try clear hfz149_1; try clear hfz149_2; try clear hfz18_0; try clear hfz18_1; try clear hfz18_2; try clear hfz20_0; try clear hfz20_1; try clear hfz20_2; try clear hfz27_0; try clear hfz27_1; try clear hfz27_2; try clear hfz30_0; try clear hfz30_1; try clear hfz30_2; try clear hfz35_0; try clear hfz35_1; try clear hfz35_2; try clear hfz43_0; try clear hfz43_1; try clear hfz43_2; try clear hfz51_0; try clear hfz51_1; try clear hfz51_2; try clear hfz54_0; try clear hfz54_1; try clear hfz54_2; try clear hfz59_0; try clear hfz59_1; try clear hfz59_2; try clear hfz62_0; try clear hfz62_1; try clear hfz62_2; try clear hfz78_0; try clear hfz78_1; try clear hfz78_2; try clear hfz86_0; try clear hfz86_1; try clear hfz86_2; try clear hfz89_0; try clear hfz89_1; try clear hfz89_2; try clear hfz94_0; try clear hfz94_1; try clear hfz94_2; try clear hfz97_0; try clear hfz97_1; try clear hfz97_2; try clear p2
            obtain ⟨kq, x112_105, rfl, HA, HJ105, HO_252001, HO_252002, HO_260001, HO_260002, HO_269001, HO_269002, HO_302001, HO_302002, BK234, BK251, BK259, BK268, BK301, HB⟩ := hcut
            have hl269001_105 := (Kd.R_reads' HO_269001.out).1
            rw [hl269001_105] at HO_269001
            (try simp only [hl269001_105])
            (try simp only [hl269001_105] at BK234)
            (try simp only [hl269001_105] at BK251)
            (try simp only [hl269001_105] at BK259)
            (try simp only [hl269001_105] at BK268)
            (try simp only [hl269001_105] at BK301)
            (try simp only [hl269001_105] at HO_252001)
            (try simp only [hl269001_105] at HO_252002)
            (try simp only [hl269001_105] at HO_260001)
            (try simp only [hl269001_105] at HO_260002)
            (try simp only [hl269001_105] at HO_269002)
            (try simp only [hl269001_105] at HO_302001)
            (try simp only [hl269001_105] at HO_302002)
            have hl269002_105 := (Kd.R_reads' HO_269002.out).1
            rw [hl269002_105] at HO_269002
            (try simp only [hl269002_105])
            (try simp only [hl269002_105] at BK234)
            (try simp only [hl269002_105] at BK251)
            (try simp only [hl269002_105] at BK259)
            (try simp only [hl269002_105] at BK268)
            (try simp only [hl269002_105] at BK301)
            (try simp only [hl269002_105] at HO_252001)
            (try simp only [hl269002_105] at HO_252002)
            (try simp only [hl269002_105] at HO_260001)
            (try simp only [hl269002_105] at HO_260002)
            (try simp only [hl269002_105] at HO_269001)
            (try simp only [hl269002_105] at HO_302001)
            (try simp only [hl269002_105] at HO_302002)
            cases kq with
            | zero => exact absurd HA.out (by simp [laws_FnExactAddRay.j2])
            | succ kj105 =>
             have H := HA.out
             clear HA
             simp only [laws_FnExactAddRay.j2] at H
             by_cases c151 : x112_105 = true
             ·subst c151
              have H1 : (none) = some r := by rw [if_pos rfl] at H; exact H
              clear H
              have H := H1
              clear H1
              exact absurd H (by simp)
             ·replace c151 := Bool.eq_false_iff.mpr c151
              subst c151
              have H1 : ((laws_heldCounts.f kj105 t260 t283 t284 1).bind fun t303 => (if t303 < 0 then (none) else (if t303 = t282 then (some true) else (none)))) = some r := by rw [if_neg (show ¬ (false = true) by decide)] at H; exact H
              clear H
              have H := H1
              clear H1
              replace H := Option.bind_eq_some_iff.mp H
              obtain ⟨t303, A1520, H⟩ := H
              have A152 := Aside0.mk A1520
              clear A1520
              by_cases c153 : t303 < 0
              ·rw [if_pos c153] at H
               exact absurd H (by simp)
              ·rw [if_neg c153] at H
               have c153b0 : decide (t303 < 0) = false := decide_eq_false c153
               clear c153
               by_cases c154 : t303 = t282
               ·rw [if_pos c154] at H
                have c154b0 : (t303 == t282) = true := beq_iff_eq.mpr c154
                have c154b1 : (t303 != t282) = false := bne_eq_false_iff_eq.mpr c154
                clear c154
                obtain rfl := Option.some.inj H
                have hnb155 := NB268_234.out
                have hnc155 := NB234_268.out
                have hnb156 := NB268_251.out
                have hnc156 := NB251_268.out
                have hnb157 := NB268_259.out
                have hnc157 := NB259_268.out
                have hnb158 := NB268_301.out
                have hnc158 := NB301_268.out
                have hcz159_0 : wc.cell? ⟨gb268, 0, none⟩ = some (.int .i64 t260) := (blk_cell BK268.out 0).trans rfl
                have hcz159_1 : wc.cell? ⟨gb268, 1, none⟩ = some (.slice Ao44 t283.length co44) := (blk_cell BK268.out 1).trans rfl
                have hcz159_2 : wc.cell? ⟨gb268, 2, none⟩ = some (.slice Ao45 t284.length co45) := (blk_cell BK268.out 2).trans rfl
                have hfz159_0 := blk_frozen BK268.out 0
                have hfz159_1 := blk_frozen BK268.out 1
                have hfz159_2 := blk_frozen BK268.out 2
                go_wp2_with (first | ((with_reducible refine gate_callee (f := 17) rfl ?_); refine goesL_ (some 115) rfl rfl Try.func17 (by kernel_rfl) rfl #[.agg #[.int .i64 t260, .slice Ao44 t283.length co44, .slice Ao45 t284.length co45], .int .i64 1] rfl (by (try simp only [lA, lB, lC]); first | done | rfl | (simp only [lD, lE]; rfl)) ?_; (with_reducible refine (laws_heldCounts.calls kj105 t260 _ _ t283 _ _ t284 1 t303 _ ?side1 ?side2 ?side3 ?side4 A152.out).mono ?_); (case side1 => exact cu (Kd.R_reads' HO_269001.out).2.2); (case side2 => exact (Kd.R_reads' HO_269001.out).2.1); (case side3 => exact cu (Kd.R_reads' HO_269002.out).2.2); (case side4 => exact (Kd.R_reads' HO_269002.out).2.1); rintro e w160 ⟨rfl, hb⟩; refine ⟨_, rfl, ?_⟩; replace HO_252001 := a_ (Kd.R_below (rk HO_252001.out) hb); replace HO_252002 := a_ (Kd.R_below (rk HO_252002.out) hb); replace HO_260001 := a_ (Kd.R_below (rk HO_260001.out) hb); replace HO_260002 := a_ (Kd.R_below (rk HO_260002.out) hb); replace HO_269001 := a_ (Kd.R_below (rk HO_269001.out) hb); replace HO_269002 := a_ (Kd.R_below (rk HO_269002.out) hb); replace HO_302001 := a_ (Kd.R_below (rk HO_302001.out) hb); replace HO_302002 := a_ (Kd.R_below (rk HO_302002.out) hb); replace BK234 := a_ (blk_below (pk BK234.out) hb); replace BK251 := a_ (blk_below (pk BK251.out) hb); replace BK259 := a_ (blk_below (pk BK259.out) hb); replace BK268 := a_ (blk_below (pk BK268.out) hb); replace BK301 := a_ (blk_below (pk BK301.out) hb); replace HB := a_ (below_step (by repeat (with_reducible first | exact HB.out | refine bz ?_ (by assumption) | apply bA | apply bN | apply bD)) hb); clear hb))
                go_ret
                exact ⟨by first | rfl | (simp [errW_none, errW_some] <;> rfl) | (simp [*, errW_none, errW_some] <;> rfl), by repeat (with_reducible first | exact HB.out | refine bz ?_ (by assumption) | apply bA | apply bN | apply bD)⟩
               ·rw [if_neg c154] at H
                exact absurd H (by simp)
          ·rw [if_neg c103] at H
           exact absurd H (by simp)
     ·replace c67 := Bool.eq_false_iff.mpr c67
      subst c67
      have H1 : (none) = some r := by rw [if_neg (show ¬ (false = true) by decide)] at H; exact H
      clear H
      have H := H1
      clear H1
      exact absurd H (by simp)

end Go.Proofs.Ytgkjnocjdonjdaa.PFnExactAddRay
