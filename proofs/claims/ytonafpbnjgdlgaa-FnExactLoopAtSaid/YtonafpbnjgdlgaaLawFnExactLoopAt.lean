/- The law FnExactLoopAt holds: for every input that can be read the call returns true, and each argument reads behind the call as it did before. No condition. -/
import Derived.Test.YtonafpbnjgdlgaaRows
import Derived.Test.YtonafpbnjgdlgaaPFnExactLoopAtx6
import Derived.Test.YtonafpbnjgdlgaaOpen
import Derived.Test.YtonafpbnjgdlgaaPureFnExactLoopAt
import Derived.WalkKit
import Derived.ProofKit
import Derived.OpenShut
import Derived.ShutString
import Derived.ChangeOld
import Derived.Below
import Derived.SizedLaws
namespace Go.Proofs.Ytonafpbnjgdlgaa.fnExactLoopAt
open Go.ChangeShapes Go.WideShapes Go.ChangeAt Go.RowKit
open Go.ChangeMaps (open_string shut_string)
open Go.Proofs.Ytonafpbnjgdlgaa.PFnExactLoopAt Go.Proofs.YtonafpbnjgdlgaaW.PrintWords Go.Proofs.YtonafpbnjgdlgaaW.PrintLast Go.Proofs.YtonafpbnjgdlgaaW.PrintMore
set_option linter.unusedVariables false
set_option linter.unusedSimpArgs false
theorem own : ownKnob Try.prog.godebug = none := by kernel_rfl
theorem laid : laidOutB Try.prog = true := by kernel_rfl
theorem cells3 : Try.prog.cellsOf 3 = 1 := by kernel_rfl
theorem cells33 : Try.prog.cellsOf 33 = 7 := by kernel_rfl
theorem cells75 : Try.prog.cellsOf 75 = 8 := by kernel_rfl
def ok33 (x : S33) : Prop := (fun n : Int => (Lit.int .i64 n).wf = true) x.f0 ∧ (fun n : Int => (Lit.int .i64 n).wf = true) x.f1 ∧ (fun n : Int => (Lit.int .i64 n).wf = true) x.f2 ∧ (fun n : Int => (Lit.int .i64 n).wf = true) x.f3 ∧ (fun n : Int => (Lit.int .i64 n).wf = true) x.f4 ∧ (fun n : Int => (Lit.int .i64 n).wf = true) x.f5 ∧ (fun n : Int => (Lit.int .i64 n).wf = true) x.f6
set_option maxRecDepth 100000 in
theorem opens33 : Open.Opens Try.prog k33 ok33 33 :=
  Open.opens_iso (d := (Kd.pair (Kd.int .i64) (Kd.pair (Kd.int .i64) (Kd.pair (Kd.int .i64) (Kd.pair (Kd.int .i64) (Kd.pair (Kd.int .i64) (Kd.pair (Kd.int .i64) (Kd.int .i64)))))))) (Open.opens_struct (d := (Kd.pair (Kd.int .i64) (Kd.pair (Kd.int .i64) (Kd.pair (Kd.int .i64) (Kd.pair (Kd.int .i64) (Kd.pair (Kd.int .i64) (Kd.pair (Kd.int .i64) (Kd.int .i64)))))))) Try.underlying33 (cells33.trans rfl) (Open.opensF_cons (d := (Kd.int .i64)) (d' := (Kd.pair (Kd.int .i64) (Kd.pair (Kd.int .i64) (Kd.pair (Kd.int .i64) (Kd.pair (Kd.int .i64) (Kd.pair (Kd.int .i64) (Kd.int .i64))))))) rfl (cells3.trans rfl) (Open.opens_int Try.underlying3) (Open.opensF_cons (d := (Kd.int .i64)) (d' := (Kd.pair (Kd.int .i64) (Kd.pair (Kd.int .i64) (Kd.pair (Kd.int .i64) (Kd.pair (Kd.int .i64) (Kd.int .i64)))))) rfl (cells3.trans rfl) (Open.opens_int Try.underlying3) (Open.opensF_cons (d := (Kd.int .i64)) (d' := (Kd.pair (Kd.int .i64) (Kd.pair (Kd.int .i64) (Kd.pair (Kd.int .i64) (Kd.int .i64))))) rfl (cells3.trans rfl) (Open.opens_int Try.underlying3) (Open.opensF_cons (d := (Kd.int .i64)) (d' := (Kd.pair (Kd.int .i64) (Kd.pair (Kd.int .i64) (Kd.int .i64)))) rfl (cells3.trans rfl) (Open.opens_int Try.underlying3) (Open.opensF_cons (d := (Kd.int .i64)) (d' := (Kd.pair (Kd.int .i64) (Kd.int .i64))) rfl (cells3.trans rfl) (Open.opens_int Try.underlying3) (Open.opensF_cons (d := (Kd.int .i64)) (d' := (Kd.int .i64)) rfl (cells3.trans rfl) (Open.opens_int Try.underlying3) (Open.opensF_one (d := (Kd.int .i64)) rfl (cells3.trans rfl) (Open.opens_int Try.underlying3))))))))) (fun x : S33 => (x.f0, x.f1, x.f2, x.f3, x.f4, x.f5, x.f6)) (fun p => ⟨p.1, p.2.1, p.2.2.1, p.2.2.2.1, p.2.2.2.2.1, p.2.2.2.2.2.1, p.2.2.2.2.2.2⟩) (fun _ => rfl)
def ok75 (x : S75) : Prop := (fun n : Int => (Lit.int .i64 n).wf = true) x.f0 ∧ ok33 x.f1
set_option maxRecDepth 100000 in
theorem opens75 : Open.Opens Try.prog k75 ok75 75 :=
  Open.opens_iso (d := (Kd.pair (Kd.int .i64) k33)) (Open.opens_struct (d := (Kd.pair (Kd.int .i64) k33)) Try.underlying75 (cells75.trans rfl) (Open.opensF_cons (d := (Kd.int .i64)) (d' := k33) rfl (cells3.trans rfl) (Open.opens_int Try.underlying3) (Open.opensF_one (d := k33) rfl (cells33.trans rfl) opens33))) (fun x : S75 => (x.f0, x.f1)) (fun p => ⟨p.1, p.2⟩) (fun _ => rfl)
set_option maxRecDepth 100000 in
set_option maxHeartbeats 1000000 in
theorem lifted (os : Os) (started : os.Started) (H : Type) (enc : TypeId × Value → H) :
    ReturnsInHanded {} Try.checked os 3 .any (Rows.fnExactLoopAtSpec.pre6 enc Try.prog Try.f3 Rows.fnExactLoopAtRow.domain false) (Rows.fnExactLoopAtSpec.post enc Try.prog Try.f3 false true false false) := by
  refine returnsInHanded_of_change_sized (C := Try.checked) own started (by kernel_rfl) Try.func3
    (ChangeSpec.witness6 (enc := enc) (C := Try.checked) false ⟨#[], #[.slice none 0 0, .int .i64 0], []⟩ 8 (by kernel_rfl) (by kernel_rfl) (by kernel_rfl) (by kernel_rfl)) ?_
  intro W base args ds gs before hval0 hW hcnd hsz0 _
  have hval : ∀ (j : Nat) t v, Try.f3.params[j]? = some t → args[j]? = some v → Value.okWide Try.prog W .any base t v := hval0
  have hW' := hW
  obtain ⟨p, q, hA0, hV, rfl, hfz, hnd⟩ := hW
  have hA : DataW.TrodAll enc Try.prog W 0 (fun _ => true) true Try.f3.params.toList args.toList ds p := hA0
  rw [Try.params3] at hA hval
  have hlt := DataW.TrodAll.lt hA
  obtain ⟨v0, vs0, d0, ds0, p0, q0, hargs, rfl, hp, h0, r0⟩ := trodAll_cons hA
  obtain ⟨v1, vs1, d1, ds1, p1, q1, rfl, rfl, rfl, h1, r1⟩ := trodAll_cons r0
  obtain ⟨rfl, rfl, rfl⟩ := trodAll_nil r1
  obtain rfl : args = #[v0, v1] := by cases args; simp_all
  obtain ⟨rfl, rfl⟩ := trodVars_none hV
  have hback := fun (W' : World) (bel : Below W.heap.size W W') => Open.below_all (enc := enc) laid bel [22, 3] (by intro t ht; simp only [List.mem_cons, List.not_mem_nil, or_false] at ht; rcases ht with rfl | rfl <;> exact ⟨by kernel_rfl, of_decide_eq_true (by kernel_rfl)⟩) _ _ _ hA hlt
  clear hA0 hval0 hsz0 hlt hA hp
  obtain ⟨b0, len0, cap0, rfl⟩ := okWide_slice Try.underlying22 (hval 0 22 v0 rfl rfl)
  obtain ⟨fuel0, hf0⟩ := h0
  obtain ⟨l0, ⟨A0, c0, hcs0, hc0, hr0⟩, ok0⟩ := Open.opens_slice (d := k75) Try.underlying22 cells75 opens75 _ _ _ _ _ _ _ _ hf0
  have hcs0' : Value.slice b0 len0 cap0 = Value.slice A0 l0.length c0 := (List.cons.inj hcs0).1
  clear hcs0 hf0; injection hcs0' with e1 e2 e3; subst e1 e2 e3
  obtain ⟨a1, rfl, rfl, rfl, ok1⟩ := open_int Try.underlying3 (hval 1 3 v1 rfl rfl) h1
  obtain ⟨k, hk⟩ := Pure.FnExactLoopAt l0 a1 ok0 ok1
  refine (laws_FnExactLoopAt.calls (k := k) (r := true) (w := W) (hr0 := hr0) (hc0 := hc0) (h := hk)).mono fun e W' ⟨he, bel⟩ => ?_
  subst he
  exact ⟨_, rfl, _, _, _, [], _, [], hW', trodAll_mk1 (shut_bool Try.underlying4 _), hback W' bel, rfl, bel.frame _, fun h => by cases h⟩
theorem over : Rows.fnExactLoopAtRow.holds Try.pinned (OpenSpec.ofChange Rows.fnExactLoopAtSpec) :=
  OpenClaim.holds_of_wide 3 Try.f3 rfl rfl rfl rfl rfl rfl rfl ⟨rfl, rfl, rfl, rfl, rfl⟩ rfl rfl rfl rfl rfl (by kernel_rfl) Try.func3 (by kernel_rfl)
    (of_decide_eq_true (by kernel_rfl)) (by unfold Func.isWrapper; first | (rw [if_pos (by decide +kernel)]; kernel_rfl) | (rw [if_neg (by decide +kernel)]; exact ⟨rfl, rfl⟩))
    (fun os started H enc _ => lifted os started H enc)
theorem proved : Rows.FnExactLoopAtSaid := over
#print axioms proved
end Go.Proofs.Ytonafpbnjgdlgaa.fnExactLoopAt
namespace Go.Proofs.Ytonafpbnjgdlgaa
/-- The row, under a short name, for the claim. -/
theorem fnExactLoopAt_holds : Rows.FnExactLoopAtSaid := fnExactLoopAt.proved
end Go.Proofs.Ytonafpbnjgdlgaa
