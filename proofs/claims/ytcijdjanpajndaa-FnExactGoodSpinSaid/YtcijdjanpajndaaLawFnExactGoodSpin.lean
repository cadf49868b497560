/- The law FnExactGoodSpin holds: for every input that can be read the call returns true, and each argument reads behind the call as it did before. No condition. -/
import Derived.Test.YtcijdjanpajndaaRows
import Derived.Test.YtcijdjanpajndaaQFnExactGoodSpinx2
import Derived.Test.YtcijdjanpajndaaOpen
import Derived.Test.YtcijdjanpajndaaPureFnExactGoodSpin
import Derived.WalkKit
import Derived.ProofKit
import Derived.OpenShut
import Derived.ShutString
import Derived.ChangeOld
import Derived.Below
import Derived.SizedLaws
namespace Go.Proofs.Ytcijdjanpajndaa.fnExactGoodSpin
open Go.ChangeShapes Go.WideShapes Go.ChangeAt Go.RowKit
open Go.ChangeMaps (open_string shut_string)
open Go.Proofs.Ytcijdjanpajndaa.PFnExactGoodSpin Go.Proofs.YtcijdjanpajndaaW.PrintWords Go.Proofs.YtcijdjanpajndaaW.PrintLast Go.Proofs.YtcijdjanpajndaaW.PrintMore
set_option linter.unusedVariables false
set_option linter.unusedSimpArgs false
theorem own : ownKnob Try.prog.godebug = none := by kernel_rfl
theorem laid : laidOutB Try.prog = true := by kernel_rfl
theorem cells3 : Try.prog.cellsOf 3 = 1 := by kernel_rfl
theorem cells30 : Try.prog.cellsOf 30 = 4 := by kernel_rfl
set_option maxRecDepth 100000 in
set_option maxHeartbeats 1000000 in
theorem lifted (os : Os) (started : os.Started) (H : Type) (enc : TypeId × Value → H) :
    ReturnsInHanded {} Try.checked os 5 .any (Rows.fnExactGoodSpinSpec.pre6 enc Try.prog Try.f5 Rows.fnExactGoodSpinRow.domain false) (Rows.fnExactGoodSpinSpec.post enc Try.prog Try.f5 false true false false) := by
  refine returnsInHanded_of_change_sized (C := Try.checked) own started (by kernel_rfl) Try.func5
    (ChangeSpec.witness6 (enc := enc) (C := Try.checked) false ⟨#[], #[.agg #[.int .i64 0, .int .i64 0, .int .i64 0, .int .i64 0]], []⟩ 8 (by kernel_rfl) (by kernel_rfl) (by kernel_rfl) (by kernel_rfl)) ?_
  intro W base args ds gs before hval0 hW hcnd hsz0 _
  have hval : ∀ (j : Nat) t v, Try.f5.params[j]? = some t → args[j]? = some v → Value.okWide Try.prog W .any base t v := hval0
  have hW' := hW
  obtain ⟨p, q, hA0, hV, rfl, hfz, hnd⟩ := hW
  have hA : DataW.TrodAll enc Try.prog W 0 (fun _ => true) true Try.f5.params.toList args.toList ds p := hA0
  rw [Try.params5] at hA hval
  have hlt := DataW.TrodAll.lt hA
  obtain ⟨v0, vs0, d0, ds0, p0, q0, hargs, rfl, hp, h0, r0⟩ := trodAll_cons hA
  obtain ⟨rfl, rfl, rfl⟩ := trodAll_nil r0
  obtain rfl : args = #[v0] := by cases args; simp_all
  obtain ⟨rfl, rfl⟩ := trodVars_none hV
  have hback := fun (W' : World) (bel : Below W.heap.size W W') => Open.below_all (enc := enc) laid bel [30] (by intro t ht; simp only [List.mem_cons, List.not_mem_nil, or_false] at ht; rcases ht with rfl <;> exact ⟨by kernel_rfl, of_decide_eq_true (by kernel_rfl)⟩) _ _ _ hA hlt
  clear hA0 hval0 hsz0 hlt hA hp
  obtain ⟨cs0, rfl, hsz0⟩ := okWide_struct Try.underlying30 (hval 0 30 v0 rfl rfl)
  obtain ⟨fuel0, hf0⟩ := h0
  obtain ⟨⟨a0_0, a0_1, a0_2, a0_3⟩, ⟨_, _, hcs0, rfl, ⟨_, _, rfl, rfl, ⟨_, _, rfl, rfl, rfl⟩⟩⟩, ok0⟩ := (Open.opens_struct (d := (Kd.pair (Kd.int .i64) (Kd.pair (Kd.int .i64) (Kd.pair (Kd.int .i64) (Kd.int .i64))))) Try.underlying30 (cells30.trans rfl) (Open.opensF_cons (d := (Kd.int .i64)) (d' := (Kd.pair (Kd.int .i64) (Kd.pair (Kd.int .i64) (Kd.int .i64)))) rfl (cells3.trans rfl) (Open.opens_int Try.underlying3) (Open.opensF_cons (d := (Kd.int .i64)) (d' := (Kd.pair (Kd.int .i64) (Kd.int .i64))) rfl (cells3.trans rfl) (Open.opens_int Try.underlying3) (Open.opensF_cons (d := (Kd.int .i64)) (d' := (Kd.int .i64)) rfl (cells3.trans rfl) (Open.opens_int Try.underlying3) (Open.opensF_one (d := (Kd.int .i64)) rfl (cells3.trans rfl) (Open.opens_int Try.underlying3)))))) _ _ _ _ _ _ _ _ hf0
  obtain rfl : cs0 = #[.int .i64 a0_0, .int .i64 a0_1, .int .i64 a0_2, .int .i64 a0_3] := Array.toList_inj.1 hcs0
  clear hcs0 hf0 hsz0
  have hk := Pure.FnExactGoodSpin a0_0 a0_1 a0_2 a0_3 ok0
  refine (laws_FnExactGoodSpin.calls (w := W)  (h := hk)).mono fun e W' ⟨he, bel⟩ => ?_
  subst he
  exact ⟨_, rfl, _, _, _, [], _, [], hW', trodAll_mk1 (shut_bool Try.underlying4 _), hback W' bel, rfl, bel.frame _, fun h => by cases h⟩
theorem over : Rows.fnExactGoodSpinRow.holds Try.pinned (OpenSpec.ofChange Rows.fnExactGoodSpinSpec) :=
  OpenClaim.holds_of_wide 5 Try.f5 rfl rfl rfl rfl rfl rfl rfl ⟨rfl, rfl, rfl, rfl, rfl⟩ rfl rfl rfl rfl rfl (by kernel_rfl) Try.func5 (by kernel_rfl)
    (of_decide_eq_true (by kernel_rfl)) (by unfold Func.isWrapper; first | (rw [if_pos (by decide +kernel)]; kernel_rfl) | (rw [if_neg (by decide +kernel)]; exact ⟨rfl, rfl⟩))
    (fun os started H enc _ => lifted os started H enc)
theorem proved : Rows.FnExactGoodSpinSaid := over
#print axioms proved
end Go.Proofs.Ytcijdjanpajndaa.fnExactGoodSpin
namespace Go.Proofs.Ytcijdjanpajndaa
/-- The row, under a short name, for the claim. -/
theorem fnExactGoodSpin_holds : Rows.FnExactGoodSpinSaid := fnExactGoodSpin.proved
end Go.Proofs.Ytcijdjanpajndaa
