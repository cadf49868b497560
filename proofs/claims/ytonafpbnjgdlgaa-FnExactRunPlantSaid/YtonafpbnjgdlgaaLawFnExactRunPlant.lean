/- The law FnExactRunPlant holds: for every input that can be read the call returns true, and each argument reads behind the call as it did before. No condition. -/
import Derived.Test.YtonafpbnjgdlgaaRows
import Derived.Test.YtonafpbnjgdlgaaQFnExactRunPlantx9
import Derived.Test.YtonafpbnjgdlgaaOpen
import Derived.Test.YtonafpbnjgdlgaaPureFnExactRunPlant
import Derived.WalkKit
import Derived.ProofKit
import Derived.OpenShut
import Derived.ShutString
import Derived.ChangeOld
import Derived.Below
import Derived.SizedLaws
namespace Go.Proofs.Ytonafpbnjgdlgaa.fnExactRunPlant
open Go.ChangeShapes Go.WideShapes Go.ChangeAt Go.RowKit
open Go.ChangeMaps (open_string shut_string)
open Go.Proofs.Ytonafpbnjgdlgaa.PFnExactRunPlant Go.Proofs.YtonafpbnjgdlgaaW.PrintWords Go.Proofs.YtonafpbnjgdlgaaW.PrintLast Go.Proofs.YtonafpbnjgdlgaaW.PrintMore
set_option linter.unusedVariables false
set_option linter.unusedSimpArgs false
theorem own : ownKnob Try.prog.godebug = none := by kernel_rfl
theorem laid : laidOutB Try.prog = true := by kernel_rfl
theorem cells3 : Try.prog.cellsOf 3 = 1 := by kernel_rfl
theorem cells33 : Try.prog.cellsOf 33 = 7 := by kernel_rfl
set_option maxRecDepth 100000 in
set_option maxHeartbeats 1000000 in
theorem lifted (os : Os) (started : os.Started) (H : Type) (enc : TypeId × Value → H) :
    ReturnsInHanded {} Try.checked os 6 .any (Rows.fnExactRunPlantSpec.pre6 enc Try.prog Try.f6 Rows.fnExactRunPlantRow.domain false) (Rows.fnExactRunPlantSpec.post enc Try.prog Try.f6 false true false false) := by
  refine returnsInHanded_of_change_sized (C := Try.checked) own started (by kernel_rfl) Try.func6
    (ChangeSpec.witness6 (enc := enc) (C := Try.checked) false ⟨#[], #[.agg #[.int .i64 0, .int .i64 0, .int .i64 0, .int .i64 0, .int .i64 0, .int .i64 0, .int .i64 0], .int .i64 0, .slice none 0 0], []⟩ 8 (by kernel_rfl) (by kernel_rfl) (by kernel_rfl) (by kernel_rfl)) ?_
  intro W base args ds gs before hval0 hW hcnd hsz0 _
  have hval : ∀ (j : Nat) t v, Try.f6.params[j]? = some t → args[j]? = some v → Value.okWide Try.prog W .any base t v := hval0
  have hW' := hW
  obtain ⟨p, q, hA0, hV, rfl, hfz, hnd⟩ := hW
  have hA : DataW.TrodAll enc Try.prog W 0 (fun _ => true) true Try.f6.params.toList args.toList ds p := hA0
  rw [Try.params6] at hA hval
  have hlt := DataW.TrodAll.lt hA
  obtain ⟨v0, vs0, d0, ds0, p0, q0, hargs, rfl, hp, h0, r0⟩ := trodAll_cons hA
  obtain ⟨v1, vs1, d1, ds1, p1, q1, rfl, rfl, rfl, h1, r1⟩ := trodAll_cons r0
  obtain ⟨v2, vs2, d2, ds2, p2, q2, rfl, rfl, rfl, h2, r2⟩ := trodAll_cons r1
  obtain ⟨rfl, rfl, rfl⟩ := trodAll_nil r2
  obtain rfl : args = #[v0, v1, v2] := by cases args; simp_all
  obtain ⟨rfl, rfl⟩ := trodVars_none hV
  have hback := fun (W' : World) (bel : Below W.heap.size W W') => Open.below_all (enc := enc) laid bel [33, 3, 46] (by intro t ht; simp only [List.mem_cons, List.not_mem_nil, or_false] at ht; rcases ht with rfl | rfl | rfl <;> exact ⟨by kernel_rfl, of_decide_eq_true (by kernel_rfl)⟩) _ _ _ hA hlt
  clear hA0 hval0 hsz0 hlt hA hp
  obtain ⟨cs0, rfl, hsz0⟩ := okWide_struct Try.underlying33 (hval 0 33 v0 rfl rfl)
  obtain ⟨fuel0, hf0⟩ := h0
  obtain ⟨⟨a0_0, a0_1, a0_2, a0_3, a0_4, a0_5, a0_6⟩, ⟨_, _, hcs0, rfl, ⟨_, _, rfl, rfl, ⟨_, _, rfl, rfl, ⟨_, _, rfl, rfl, ⟨_, _, rfl, rfl, ⟨_, _, rfl, rfl, rfl⟩⟩⟩⟩⟩⟩, ok0⟩ := (Open.opens_struct (d := (Kd.pair (Kd.int .i64) (Kd.pair (Kd.int .i64) (Kd.pair (Kd.int .i64) (Kd.pair (Kd.int .i64) (Kd.pair (Kd.int .i64) (Kd.pair (Kd.int .i64) (Kd.int .i64)))))))) Try.underlying33 (cells33.trans rfl) (Open.opensF_cons (d := (Kd.int .i64)) (d' := (Kd.pair (Kd.int .i64) (Kd.pair (Kd.int .i64) (Kd.pair (Kd.int .i64) (Kd.pair (Kd.int .i64) (Kd.pair (Kd.int .i64) (Kd.int .i64))))))) rfl (cells3.trans rfl) (Open.opens_int Try.underlying3) (Open.opensF_cons (d := (Kd.int .i64)) (d' := (Kd.pair (Kd.int .i64) (Kd.pair (Kd.int .i64) (Kd.pair (Kd.int .i64) (Kd.pair (Kd.int .i64) (Kd.int .i64)))))) rfl (cells3.trans rfl) (Open.opens_int Try.underlying3) (Open.opensF_cons (d := (Kd.int .i64)) (d' := (Kd.pair (Kd.int .i64) (Kd.pair (Kd.int .i64) (Kd.pair (Kd.int .i64) (Kd.int .i64))))) rfl (cells3.trans rfl) (Open.opens_int Try.underlying3) (Open.opensF_cons (d := (Kd.int .i64)) (d' := (Kd.pair (Kd.int .i64) (Kd.pair (Kd.int .i64) (Kd.int .i64)))) rfl (cells3.trans rfl) (Open.opens_int Try.underlying3) (Open.opensF_cons (d := (Kd.int .i64)) (d' := (Kd.pair (Kd.int .i64) (Kd.int .i64))) rfl (cells3.trans rfl) (Open.opens_int Try.underlying3) (Open.opensF_cons (d := (Kd.int .i64)) (d' := (Kd.int .i64)) rfl (cells3.trans rfl) (Open.opens_int Try.underlying3) (Open.opensF_one (d := (Kd.int .i64)) rfl (cells3.trans rfl) (Open.opens_int Try.underlying3))))))))) _ _ _ _ _ _ _ _ hf0
  obtain rfl : cs0 = #[.int .i64 a0_0, .int .i64 a0_1, .int .i64 a0_2, .int .i64 a0_3, .int .i64 a0_4, .int .i64 a0_5, .int .i64 a0_6] := Array.toList_inj.1 hcs0
  clear hcs0 hf0 hsz0
  obtain ⟨a1, rfl, rfl, rfl, ok1⟩ := open_int Try.underlying3 (hval 1 3 v1 rfl rfl) h1
  obtain ⟨b2, len2, cap2, rfl⟩ := okWide_slice Try.underlying46 (hval 2 46 v2 rfl rfl)
  obtain ⟨fuel2, hf2⟩ := h2
  obtain ⟨l2, ⟨A2, c2, hcs2, hc2, hr2⟩, ok2⟩ := Open.opens_slice (d := (Kd.int .i64)) Try.underlying46 cells3 (Open.opens_int Try.underlying3) _ _ _ _ _ _ _ _ hf2
  have hcs2' : Value.slice b2 len2 cap2 = Value.slice A2 l2.length c2 := (List.cons.inj hcs2).1
  clear hcs2 hf2; injection hcs2' with e1 e2 e3; subst e1 e2 e3
  obtain ⟨k, hk⟩ := Pure.FnExactRunPlant a0_0 a0_1 a0_2 a0_3 a0_4 a0_5 a0_6 a1 l2 ok0 ok1 ok2
  refine (laws_FnExactRunPlant.calls (k := k) (r := true) (w := W) (hr2 := hr2) (hc2 := hc2) (h := hk)).mono fun e W' ⟨he, bel⟩ => ?_
  subst he
  exact ⟨_, rfl, _, _, _, [], _, [], hW', trodAll_mk1 (shut_bool Try.underlying4 _), hback W' bel, rfl, bel.frame _, fun h => by cases h⟩
theorem over : Rows.fnExactRunPlantRow.holds Try.pinned (OpenSpec.ofChange Rows.fnExactRunPlantSpec) :=
  OpenClaim.holds_of_wide 6 Try.f6 rfl rfl rfl rfl rfl rfl rfl ⟨rfl, rfl, rfl, rfl, rfl⟩ rfl rfl rfl rfl rfl (by kernel_rfl) Try.func6 (by kernel_rfl)
    (of_decide_eq_true (by kernel_rfl)) (by unfold Func.isWrapper; first | (rw [if_pos (by decide +kernel)]; kernel_rfl) | (rw [if_neg (by decide +kernel)]; exact ⟨rfl, rfl⟩))
    (fun os started H enc _ => lifted os started H enc)
theorem proved : Rows.FnExactRunPlantSaid := over
#print axioms proved
end Go.Proofs.Ytonafpbnjgdlgaa.fnExactRunPlant
namespace Go.Proofs.Ytonafpbnjgdlgaa
/-- The row, under a short name, for the claim. -/
theorem fnExactRunPlant_holds : Rows.FnExactRunPlantSaid := fnExactRunPlant.proved
end Go.Proofs.Ytonafpbnjgdlgaa
