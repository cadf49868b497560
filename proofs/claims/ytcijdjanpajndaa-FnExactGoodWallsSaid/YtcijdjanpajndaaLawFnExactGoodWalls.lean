/- The law FnExactGoodWalls holds: for every input that can be read the call returns true, and each argument reads behind the call as it did before. No condition. -/
import Derived.Test.YtcijdjanpajndaaRows
import Derived.Test.YtcijdjanpajndaaPFnExactGoodWallsx2
import Derived.Test.YtcijdjanpajndaaOpen
import Derived.Test.YtcijdjanpajndaaPureFnExactGoodWalls
import Derived.WalkKit
import Derived.ProofKit
import Derived.OpenShut
import Derived.ShutString
import Derived.ChangeOld
import Derived.Below
import Derived.SizedLaws
namespace Go.Proofs.Ytcijdjanpajndaa.fnExactGoodWalls
open Go.ChangeShapes Go.WideShapes Go.ChangeAt Go.RowKit
open Go.ChangeMaps (open_string shut_string)
open Go.Proofs.Ytcijdjanpajndaa.PFnExactGoodWalls Go.Proofs.YtcijdjanpajndaaW.PrintWords Go.Proofs.YtcijdjanpajndaaW.PrintLast Go.Proofs.YtcijdjanpajndaaW.PrintMore
set_option linter.unusedVariables false
set_option linter.unusedSimpArgs false
theorem own : ownKnob Try.prog.godebug = none := by kernel_rfl
theorem laid : laidOutB Try.prog = true := by kernel_rfl
theorem cells3 : Try.prog.cellsOf 3 = 1 := by kernel_rfl
theorem cells95 : Try.prog.cellsOf 95 = 4 := by kernel_rfl
def ok95 (x : S95) : Prop := (fun n : Int => (Lit.int .i64 n).wf = true) x.f0 ∧ (fun n : Int => (Lit.int .i64 n).wf = true) x.f1 ∧ (fun n : Int => (Lit.int .i64 n).wf = true) x.f2 ∧ (fun n : Int => (Lit.int .i64 n).wf = true) x.f3
set_option maxRecDepth 100000 in
theorem opens95 : Open.Opens Try.prog k95 ok95 95 :=
  Open.opens_iso (d := (Kd.pair (Kd.int .i64) (Kd.pair (Kd.int .i64) (Kd.pair (Kd.int .i64) (Kd.int .i64))))) (Open.opens_struct (d := (Kd.pair (Kd.int .i64) (Kd.pair (Kd.int .i64) (Kd.pair (Kd.int .i64) (Kd.int .i64))))) Try.underlying95 (cells95.trans rfl) (Open.opensF_cons (d := (Kd.int .i64)) (d' := (Kd.pair (Kd.int .i64) (Kd.pair (Kd.int .i64) (Kd.int .i64)))) rfl (cells3.trans rfl) (Open.opens_int Try.underlying3) (Open.opensF_cons (d := (Kd.int .i64)) (d' := (Kd.pair (Kd.int .i64) (Kd.int .i64))) rfl (cells3.trans rfl) (Open.opens_int Try.underlying3) (Open.opensF_cons (d := (Kd.int .i64)) (d' := (Kd.int .i64)) rfl (cells3.trans rfl) (Open.opens_int Try.underlying3) (Open.opensF_one (d := (Kd.int .i64)) rfl (cells3.trans rfl) (Open.opens_int Try.underlying3)))))) (fun x : S95 => (x.f0, x.f1, x.f2, x.f3)) (fun p => ⟨p.1, p.2.1, p.2.2.1, p.2.2.2⟩) (fun _ => rfl)
set_option maxRecDepth 100000 in
set_option maxHeartbeats 1000000 in
theorem lifted (os : Os) (started : os.Started) (H : Type) (enc : TypeId × Value → H) :
    ReturnsInHanded {} Try.checked os 12 .any (Rows.fnExactGoodWallsSpec.pre6 enc Try.prog Try.f12 Rows.fnExactGoodWallsRow.domain false) (Rows.fnExactGoodWallsSpec.post enc Try.prog Try.f12 false true false false) := by
  refine returnsInHanded_of_change_sized (C := Try.checked) own started (by kernel_rfl) Try.func12
    (ChangeSpec.witness6 (enc := enc) (C := Try.checked) false ⟨#[], #[.slice none 0 0], []⟩ 8 (by kernel_rfl) (by kernel_rfl) (by kernel_rfl) (by kernel_rfl)) ?_
  intro W base args ds gs before hval0 hW hcnd hsz0 _
  have hval : ∀ (j : Nat) t v, Try.f12.params[j]? = some t → args[j]? = some v → Value.okWide Try.prog W .any base t v := hval0
  have hW' := hW
  obtain ⟨p, q, hA0, hV, rfl, hfz, hnd⟩ := hW
  have hA : DataW.TrodAll enc Try.prog W 0 (fun _ => true) true Try.f12.params.toList args.toList ds p := hA0
  rw [Try.params12] at hA hval
  have hlt := DataW.TrodAll.lt hA
  obtain ⟨v0, vs0, d0, ds0, p0, q0, hargs, rfl, hp, h0, r0⟩ := trodAll_cons hA
  obtain ⟨rfl, rfl, rfl⟩ := trodAll_nil r0
  obtain rfl : args = #[v0] := by cases args; simp_all
  obtain ⟨rfl, rfl⟩ := trodVars_none hV
  have hback := fun (W' : World) (bel : Below W.heap.size W W') => Open.below_all (enc := enc) laid bel [65] (by intro t ht; simp only [List.mem_cons, List.not_mem_nil, or_false] at ht; rcases ht with rfl <;> exact ⟨by kernel_rfl, of_decide_eq_true (by kernel_rfl)⟩) _ _ _ hA hlt
  clear hA0 hval0 hsz0 hlt hA hp
  obtain ⟨b0, len0, cap0, rfl⟩ := okWide_slice Try.underlying65 (hval 0 65 v0 rfl rfl)
  obtain ⟨fuel0, hf0⟩ := h0
  obtain ⟨l0, ⟨A0, c0, hcs0, hc0, hr0⟩, ok0⟩ := Open.opens_slice (d := k95) Try.underlying65 cells95 opens95 _ _ _ _ _ _ _ _ hf0
  have hcs0' : Value.slice b0 len0 cap0 = Value.slice A0 l0.length c0 := (List.cons.inj hcs0).1
  clear hcs0 hf0; injection hcs0' with e1 e2 e3; subst e1 e2 e3
  obtain ⟨k, hk⟩ := Pure.FnExactGoodWalls l0 ok0
  refine (laws_FnExactGoodWalls.calls (k := k) (r := true) (w := W) (hr0 := hr0) (hc0 := hc0) (h := hk)).mono fun e W' ⟨he, bel⟩ => ?_
  subst he
  exact ⟨_, rfl, _, _, _, [], _, [], hW', trodAll_mk1 (shut_bool Try.underlying4 _), hback W' bel, rfl, bel.frame _, fun h => by cases h⟩
theorem over : Rows.fnExactGoodWallsRow.holds Try.pinned (OpenSpec.ofChange Rows.fnExactGoodWallsSpec) :=
  OpenClaim.holds_of_wide 12 Try.f12 rfl rfl rfl rfl rfl rfl rfl ⟨rfl, rfl, rfl, rfl, rfl⟩ rfl rfl rfl rfl rfl (by kernel_rfl) Try.func12 (by kernel_rfl)
    (of_decide_eq_true (by kernel_rfl)) (by unfold Func.isWrapper; first | (rw [if_pos (by decide +kernel)]; kernel_rfl) | (rw [if_neg (by decide +kernel)]; exact ⟨rfl, rfl⟩))
    (fun os started H enc _ => lifted os started H enc)
theorem proved : Rows.FnExactGoodWallsSaid := over
#print axioms proved
end Go.Proofs.Ytcijdjanpajndaa.fnExactGoodWalls
namespace Go.Proofs.Ytcijdjanpajndaa
/-- The row, under a short name, for the claim. -/
theorem fnExactGoodWalls_holds : Rows.FnExactGoodWallsSaid := fnExactGoodWalls.proved
end Go.Proofs.Ytcijdjanpajndaa
