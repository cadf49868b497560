/- The law FnExactLastReal holds: for every input that can be read the call returns true, and each argument reads behind the call as it did before. No condition. -/
import Derived.Test.YtbehlhihbhfciaaRows
import Derived.Test.YtbehlhihbhfciaaRFnExactLastRealx2
import Derived.Test.YtbehlhihbhfciaaOpen
import Derived.Test.YtbehlhihbhfciaaPureFnExactLastReal
import Derived.WalkKit
import Derived.ProofKit
import Derived.OpenShut
import Derived.ShutString
import Derived.ChangeOld
import Derived.Below
import Derived.SizedLaws
namespace Go.Proofs.Ytbehlhihbhfciaa.fnExactLastReal
open Go.ChangeShapes Go.WideShapes Go.ChangeAt Go.RowKit
open Go.ChangeMaps (open_string shut_string)
open Go.Proofs.Ytbehlhihbhfciaa.PFnExactLastReal Go.Proofs.YtbehlhihbhfciaaW.PrintWords Go.Proofs.YtbehlhihbhfciaaW.PrintLast Go.Proofs.YtbehlhihbhfciaaW.PrintMore
set_option linter.unusedVariables false
set_option linter.unusedSimpArgs false
theorem own : ownKnob Try.prog.godebug = none := by kernel_rfl
theorem laid : laidOutB Try.prog = true := by kernel_rfl
set_option maxRecDepth 100000 in
set_option maxHeartbeats 1000000 in
theorem lifted (os : Os) (started : os.Started) (H : Type) (enc : TypeId × Value → H) :
    ReturnsInHanded {} Try.checked os 5 .any (Rows.fnExactLastRealSpec.pre6 enc Try.prog Try.f5 Rows.fnExactLastRealRow.domain false) (Rows.fnExactLastRealSpec.post enc Try.prog Try.f5 false true false false) := by
  refine returnsInHanded_of_change_sized (C := Try.checked) own started (by kernel_rfl) Try.func5
    (ChangeSpec.witness6 (enc := enc) (C := Try.checked) false ⟨#[], #[.float .f64 0], []⟩ 8 (by kernel_rfl) (by kernel_rfl) (by kernel_rfl) (by kernel_rfl)) ?_
  intro W base args ds gs before hval0 hW hcnd hsz0 _
  have hval : ∀ (j : Nat) t v, Try.f5.params[j]? = some t → args[j]? = some v → Value.okWide Try.prog W .any base t v := hval0
  have hW' := hW
  obtain ⟨p, q, hA0, hV, rfl, hfz, hnd⟩ := hW
  have hA : DataW.TrodAll enc Try.prog W 0 (fun _ => true) true Try.f5.params.toList args.toList ds p := hA0
  rw [Try.params5] at hA hval
  have hlt := DataW.TrodAll.lt hA
  obtain ⟨v0, vs0, d0, ds0, p0, q0, hargs, rfl, hp, h0, r0⟩ := trodAll_cons hA
  obtain ⟨rfl, rfl, rfl⟩ := trodAll_nil r0
  obtain rfl : args = #[v0] := by cases args; simp_all
  obtain ⟨rfl, rfl⟩ := trodVars_none hV
  have hback := fun (W' : World) (bel : Below W.heap.size W W') => Open.below_all (enc := enc) laid bel [22] (by intro t ht; simp only [List.mem_cons, List.not_mem_nil, or_false] at ht; rcases ht with rfl <;> exact ⟨by kernel_rfl, of_decide_eq_true (by kernel_rfl)⟩) _ _ _ hA hlt
  clear hA0 hval0 hsz0 hlt hA hp
  obtain ⟨a0, rfl, ok0⟩ := Open.arg_float Try.underlying22 (hval 0 22 v0 rfl rfl) h0
  obtain ⟨k, hk⟩ := Pure.FnExactLastReal a0 ok0
  refine (laws_FnExactLastReal.calls (k := k) (r := true) (w := W)  (h := hk)).mono fun e W' ⟨he, bel0⟩ => ?_
  have bel := bel0.below
  subst he
  exact ⟨_, rfl, _, _, _, [], _, [], hW', trodAll_mk1 (shut_bool Try.underlying4 _), hback W' bel, rfl, bel.frame _, fun h => by cases h⟩
theorem over : Rows.fnExactLastRealRow.holds Try.pinned (OpenSpec.ofChange Rows.fnExactLastRealSpec) :=
  OpenClaim.holds_of_wide 5 Try.f5 rfl rfl rfl rfl rfl rfl rfl ⟨rfl, rfl, rfl, rfl, rfl⟩ rfl rfl rfl rfl rfl (by kernel_rfl) Try.func5 (by kernel_rfl)
    (of_decide_eq_true (by kernel_rfl)) (by unfold Func.isWrapper; first | (rw [if_pos (by decide +kernel)]; kernel_rfl) | (rw [if_neg (by decide +kernel)]; exact ⟨rfl, rfl⟩))
    (fun os started H enc _ => lifted os started H enc)
theorem proved : Rows.FnExactLastRealSaid := over
#print axioms proved
end Go.Proofs.Ytbehlhihbhfciaa.fnExactLastReal
namespace Go.Proofs.Ytbehlhihbhfciaa
/-- The row, under a short name, for the claim. -/
theorem fnExactLastReal_holds : Rows.FnExactLastRealSaid := fnExactLastReal.proved
end Go.Proofs.Ytbehlhihbhfciaa
