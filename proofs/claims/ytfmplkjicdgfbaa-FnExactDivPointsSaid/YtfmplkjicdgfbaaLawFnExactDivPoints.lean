/- The law FnExactDivPoints holds: for every input that can be read the call returns true, and each argument reads behind the call as it did before. No condition. -/
import Derived.Test.YtfmplkjicdgfbaaRows
import Derived.Test.YtfmplkjicdgfbaaRFnExactDivPointsx5
import Derived.Test.YtfmplkjicdgfbaaOpen
import Derived.Test.YtfmplkjicdgfbaaPureFnExactDivPoints
import Derived.WalkKit
import Derived.ProofKit
import Derived.OpenShut
import Derived.ShutString
import Derived.ChangeOld
import Derived.Below
import Derived.SizedLaws
namespace Go.Proofs.Ytfmplkjicdgfbaa.fnExactDivPoints
open Go.ChangeShapes Go.WideShapes Go.ChangeAt Go.RowKit
open Go.ChangeMaps (open_string shut_string)
open Go.Proofs.Ytfmplkjicdgfbaa.PFnExactDivPoints Go.Proofs.YtfmplkjicdgfbaaW.PrintWords Go.Proofs.YtfmplkjicdgfbaaW.PrintLast Go.Proofs.YtfmplkjicdgfbaaW.PrintMore
set_option linter.unusedVariables false
set_option linter.unusedSimpArgs false
theorem own : ownKnob Try.prog.godebug = none := by kernel_rfl
theorem laid : laidOutB Try.prog = true := by kernel_rfl
theorem cells22 : Try.prog.cellsOf 22 = 1 := by kernel_rfl
theorem cells24 : Try.prog.cellsOf 24 = 2 := by kernel_rfl
set_option maxRecDepth 100000 in
set_option maxHeartbeats 1000000 in
theorem lifted (os : Os) (started : os.Started) (H : Type) (enc : TypeId × Value → H) :
    ReturnsInHanded {} Try.checked os 4 .any (Rows.fnExactDivPointsSpec.pre6 enc Try.prog Try.f4 Rows.fnExactDivPointsRow.domain false) (Rows.fnExactDivPointsSpec.post enc Try.prog Try.f4 false true false false) := by
  refine returnsInHanded_of_change_sized (C := Try.checked) own started (by kernel_rfl) Try.func4
    (ChangeSpec.witness6 (enc := enc) (C := Try.checked) false ⟨#[], #[.agg #[.float .f64 0, .float .f64 0], .agg #[.float .f64 0, .float .f64 0]], []⟩ 8 (by kernel_rfl) (by kernel_rfl) (by kernel_rfl) (by kernel_rfl)) ?_
  intro W base args ds gs before hval0 hW hcnd hsz0 _
  have hval : ∀ (j : Nat) t v, Try.f4.params[j]? = some t → args[j]? = some v → Value.okWide Try.prog W .any base t v := hval0
  have hW' := hW
  obtain ⟨p, q, hA0, hV, rfl, hfz, hnd⟩ := hW
  have hA : DataW.TrodAll enc Try.prog W 0 (fun _ => true) true Try.f4.params.toList args.toList ds p := hA0
  rw [Try.params4] at hA hval
  have hlt := DataW.TrodAll.lt hA
  obtain ⟨v0, vs0, d0, ds0, p0, q0, hargs, rfl, hp, h0, r0⟩ := trodAll_cons hA
  obtain ⟨v1, vs1, d1, ds1, p1, q1, rfl, rfl, rfl, h1, r1⟩ := trodAll_cons r0
  obtain ⟨rfl, rfl, rfl⟩ := trodAll_nil r1
  obtain rfl : args = #[v0, v1] := by cases args; simp_all
  obtain ⟨rfl, rfl⟩ := trodVars_none hV
  have hback := fun (W' : World) (bel : Below W.heap.size W W') => Open.below_all (enc := enc) laid bel [24, 24] (by intro t ht; simp only [List.mem_cons, List.not_mem_nil, or_false] at ht; rcases ht with rfl | rfl <;> exact ⟨by kernel_rfl, of_decide_eq_true (by kernel_rfl)⟩) _ _ _ hA hlt
  clear hA0 hval0 hsz0 hlt hA hp
  obtain ⟨cs0, rfl, hsz0⟩ := okWide_struct Try.underlying24 (hval 0 24 v0 rfl rfl)
  obtain ⟨fuel0, hf0⟩ := h0
  obtain ⟨⟨a0_0, a0_1⟩, ⟨_, _, hcs0, rfl, rfl⟩, ok0⟩ := (Open.opens_struct (d := (Kd.pair Open.flt Open.flt)) Try.underlying24 (cells24.trans rfl) (Open.opensF_cons (d := Open.flt) (d' := Open.flt) rfl (cells22.trans rfl) (Open.opens_float Try.underlying22) (Open.opensF_one (d := Open.flt) rfl (cells22.trans rfl) (Open.opens_float Try.underlying22)))) _ _ _ _ _ _ _ _ hf0
  obtain rfl : cs0 = #[.float .f64 a0_0, .float .f64 a0_1] := Array.toList_inj.1 hcs0
  clear hcs0 hf0 hsz0
  obtain ⟨cs1, rfl, hsz1⟩ := okWide_struct Try.underlying24 (hval 1 24 v1 rfl rfl)
  obtain ⟨fuel1, hf1⟩ := h1
  obtain ⟨⟨a1_0, a1_1⟩, ⟨_, _, hcs1, rfl, rfl⟩, ok1⟩ := (Open.opens_struct (d := (Kd.pair Open.flt Open.flt)) Try.underlying24 (cells24.trans rfl) (Open.opensF_cons (d := Open.flt) (d' := Open.flt) rfl (cells22.trans rfl) (Open.opens_float Try.underlying22) (Open.opensF_one (d := Open.flt) rfl (cells22.trans rfl) (Open.opens_float Try.underlying22)))) _ _ _ _ _ _ _ _ hf1
  obtain rfl : cs1 = #[.float .f64 a1_0, .float .f64 a1_1] := Array.toList_inj.1 hcs1
  clear hcs1 hf1 hsz1
  obtain ⟨k, hk⟩ := Pure.FnExactDivPoints a0_0 a0_1 a1_0 a1_1 ok0 ok1
  refine (laws_FnExactDivPoints.calls (k := k) (r := true) (w := W)  (h := hk)).mono fun e W' ⟨he, bel⟩ => ?_
  subst he
  exact ⟨_, rfl, _, _, _, [], _, [], hW', trodAll_mk1 (shut_bool Try.underlying4 _), hback W' bel, rfl, bel.frame _, fun h => by cases h⟩
theorem over : Rows.fnExactDivPointsRow.holds Try.pinned (OpenSpec.ofChange Rows.fnExactDivPointsSpec) :=
  OpenClaim.holds_of_wide 4 Try.f4 rfl rfl rfl rfl rfl rfl rfl ⟨rfl, rfl, rfl, rfl, rfl⟩ rfl rfl rfl rfl rfl (by kernel_rfl) Try.func4 (by kernel_rfl)
    (of_decide_eq_true (by kernel_rfl)) (by unfold Func.isWrapper; first | (rw [if_pos (by decide +kernel)]; kernel_rfl) | (rw [if_neg (by decide +kernel)]; exact ⟨rfl, rfl⟩))
    (fun os started H enc _ => lifted os started H enc)
theorem proved : Rows.FnExactDivPointsSaid := over
#print axioms proved
end Go.Proofs.Ytfmplkjicdgfbaa.fnExactDivPoints
namespace Go.Proofs.Ytfmplkjicdgfbaa
/-- The row, under a short name, for the claim. -/
theorem fnExactDivPoints_holds : Rows.FnExactDivPointsSaid := fnExactDivPoints.proved
end Go.Proofs.Ytfmplkjicdgfbaa
