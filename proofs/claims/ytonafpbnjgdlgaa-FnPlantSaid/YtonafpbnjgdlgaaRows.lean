/-
  No cell of these rows narrows 'for every input' (looked for: loops, veiled, ifaces, maps, wideKeys, modest, calm, conditions, laid).
  DERIVED. THE GIVEN ROWS OF THIS SEAT. 8 by the template 'for every input the law returns true; each argument reads behind the call as it read before'; 0 by the template 'total and deterministic' (their statements: YtonafpbnjgdlgaaTotals.lean).
  GIVEN WITH THE SEED: the statements are not yours to turn. If you find one false, say at which input.
  Laid BY PROGRAM, IN A SANDBOX (cutbox-rows.mjs): the forced cells as the released guide's own fill.sh prints them over the translation 200aca3c4a6893a7… (all of the seat's roots in one cut). By AI agents, Wed Nov 11 2026. No macro, syntax, notation, axiom, sorry.
-/
import Derived.Test.YtonafpbnjgdlgaaChecked
import GoSem.Claim
import GoSem.ClaimJoined
import GoSem.ClaimMapViews
import Derived.JoinedTies
import Derived.KernelRfl
namespace Go.Proofs.Ytonafpbnjgdlgaa
/- THE CELL 'sum', in the pinned program and in every row, IS THE sha256 OF THE DUMP (.gsa) THAT YtonafpbnjgdlgaaProg.lean LOADS. Nothing in Lean hashes anything: it is a label: what it is worth is what the hold of that sum in a sandbox is worth. -/
noncomputable def Try.pinned : Pinned := { name := "ytonafpbnjgdlgaa", sum := "200aca3c4a6893a70d98b6784611c1af07cf7856b351d7c867684dc5fcea023e", checked := Try.checked }
namespace Rows
def none {H : Type} : Left H := { results := [], args := [] }

/-- 'laws.FnExactLoopAt': WHATEVER THE INPUT: true; the input reads as it did. -/
def fnExactLoopAtSpec : ChangeSpec := { name := "fnExactLoopAt", fn := fun _ => fun
  | [d1, d2] => { results := [.lit (.bool true)], args := [d1, d2] }
  | _ => none }
def fnExactLoopAtRow : OpenClaim := { program := "ytonafpbnjgdlgaa", sum := "200aca3c4a6893a70d98b6784611c1af07cf7856b351d7c867684dc5fcea023e", func := "loop.example/g00047/laws.FnExactLoopAt", spec := "fnExactLoopAt", apart := false }
def FnExactLoopAtSaid : Prop := fnExactLoopAtRow.holds Try.pinned (OpenSpec.ofChange fnExactLoopAtSpec)

/-- ITS FALSE NEIGHBOUR: 'it returns false'. Refute it at one input. -/
def fnExactLoopAtWrong : ChangeSpec := { name := "fnExactLoopAt", fn := fun _ => fun
  | [d1, d2] => { results := [.lit (.bool false)], args := [d1, d2] }
  | _ => none }
def FnExactLoopAtWrongFalsely : Prop := fnExactLoopAtRow.holds Try.pinned (OpenSpec.ofChange fnExactLoopAtWrong)

/-- 'laws.FnExactHoldStep': WHATEVER THE INPUT: true; the input reads as it did. -/
def fnExactHoldStepSpec : ChangeSpec := { name := "fnExactHoldStep", fn := fun _ => fun
  | [d1, d2, d3, d4] => { results := [.lit (.bool true)], args := [d1, d2, d3, d4] }
  | _ => none }
def fnExactHoldStepRow : OpenClaim := { program := "ytonafpbnjgdlgaa", sum := "200aca3c4a6893a70d98b6784611c1af07cf7856b351d7c867684dc5fcea023e", func := "loop.example/g00047/laws.FnExactHoldStep", spec := "fnExactHoldStep", apart := false }
def FnExactHoldStepSaid : Prop := fnExactHoldStepRow.holds Try.pinned (OpenSpec.ofChange fnExactHoldStepSpec)

/-- ITS FALSE NEIGHBOUR: 'it returns false'. Refute it at one input. -/
def fnExactHoldStepWrong : ChangeSpec := { name := "fnExactHoldStep", fn := fun _ => fun
  | [d1, d2, d3, d4] => { results := [.lit (.bool false)], args := [d1, d2, d3, d4] }
  | _ => none }
def FnExactHoldStepWrongFalsely : Prop := fnExactHoldStepRow.holds Try.pinned (OpenSpec.ofChange fnExactHoldStepWrong)

/-- 'laws.FnExactCascadeStep': WHATEVER THE INPUT: true; the input reads as it did. -/
def fnExactCascadeStepSpec : ChangeSpec := { name := "fnExactCascadeStep", fn := fun _ => fun
  | [d1, d2, d3, d4, d5, d6, d7] => { results := [.lit (.bool true)], args := [d1, d2, d3, d4, d5, d6, d7] }
  | _ => none }
def fnExactCascadeStepRow : OpenClaim := { program := "ytonafpbnjgdlgaa", sum := "200aca3c4a6893a70d98b6784611c1af07cf7856b351d7c867684dc5fcea023e", func := "loop.example/g00047/laws.FnExactCascadeStep", spec := "fnExactCascadeStep", apart := false }
def FnExactCascadeStepSaid : Prop := fnExactCascadeStepRow.holds Try.pinned (OpenSpec.ofChange fnExactCascadeStepSpec)

/-- ITS FALSE NEIGHBOUR: 'it returns false'. Refute it at one input. -/
def fnExactCascadeStepWrong : ChangeSpec := { name := "fnExactCascadeStep", fn := fun _ => fun
  | [d1, d2, d3, d4, d5, d6, d7] => { results := [.lit (.bool false)], args := [d1, d2, d3, d4, d5, d6, d7] }
  | _ => none }
def FnExactCascadeStepWrongFalsely : Prop := fnExactCascadeStepRow.holds Try.pinned (OpenSpec.ofChange fnExactCascadeStepWrong)

/-- 'laws.FnExactRunPlant': WHATEVER THE INPUT: true; the input reads as it did. -/
def fnExactRunPlantSpec : ChangeSpec := { name := "fnExactRunPlant", fn := fun _ => fun
  | [d1, d2, d3] => { results := [.lit (.bool true)], args := [d1, d2, d3] }
  | _ => none }
def fnExactRunPlantRow : OpenClaim := { program := "ytonafpbnjgdlgaa", sum := "200aca3c4a6893a70d98b6784611c1af07cf7856b351d7c867684dc5fcea023e", func := "loop.example/g00047/laws.FnExactRunPlant", spec := "fnExactRunPlant", apart := false }
def FnExactRunPlantSaid : Prop := fnExactRunPlantRow.holds Try.pinned (OpenSpec.ofChange fnExactRunPlantSpec)

/-- ITS FALSE NEIGHBOUR: 'it returns false'. Refute it at one input. -/
def fnExactRunPlantWrong : ChangeSpec := { name := "fnExactRunPlant", fn := fun _ => fun
  | [d1, d2, d3] => { results := [.lit (.bool false)], args := [d1, d2, d3] }
  | _ => none }
def FnExactRunPlantWrongFalsely : Prop := fnExactRunPlantRow.holds Try.pinned (OpenSpec.ofChange fnExactRunPlantWrong)

/-- 'laws.FnExactRunHold': WHATEVER THE INPUT: true; the input reads as it did. -/
def fnExactRunHoldSpec : ChangeSpec := { name := "fnExactRunHold", fn := fun _ => fun
  | [d1, d2, d3, d4] => { results := [.lit (.bool true)], args := [d1, d2, d3, d4] }
  | _ => none }
def fnExactRunHoldRow : OpenClaim := { program := "ytonafpbnjgdlgaa", sum := "200aca3c4a6893a70d98b6784611c1af07cf7856b351d7c867684dc5fcea023e", func := "loop.example/g00047/laws.FnExactRunHold", spec := "fnExactRunHold", apart := false }
def FnExactRunHoldSaid : Prop := fnExactRunHoldRow.holds Try.pinned (OpenSpec.ofChange fnExactRunHoldSpec)

/-- ITS FALSE NEIGHBOUR: 'it returns false'. Refute it at one input. -/
def fnExactRunHoldWrong : ChangeSpec := { name := "fnExactRunHold", fn := fun _ => fun
  | [d1, d2, d3, d4] => { results := [.lit (.bool false)], args := [d1, d2, d3, d4] }
  | _ => none }
def FnExactRunHoldWrongFalsely : Prop := fnExactRunHoldRow.holds Try.pinned (OpenSpec.ofChange fnExactRunHoldWrong)

/-- 'laws.FnGains': WHATEVER THE INPUT: true; the input reads as it did. -/
def fnGainsSpec : ChangeSpec := { name := "fnGains", fn := fun _ => fun
  | [d1, d2] => { results := [.lit (.bool true)], args := [d1, d2] }
  | _ => none }
def fnGainsRow : OpenClaim := { program := "ytonafpbnjgdlgaa", sum := "200aca3c4a6893a70d98b6784611c1af07cf7856b351d7c867684dc5fcea023e", func := "loop.example/g00047/laws.FnGains", spec := "fnGains", apart := false }
def FnGainsSaid : Prop := fnGainsRow.holds Try.pinned (OpenSpec.ofChange fnGainsSpec)

/-- ITS FALSE NEIGHBOUR: 'it returns false'. Refute it at one input. -/
def fnGainsWrong : ChangeSpec := { name := "fnGains", fn := fun _ => fun
  | [d1, d2] => { results := [.lit (.bool false)], args := [d1, d2] }
  | _ => none }
def FnGainsWrongFalsely : Prop := fnGainsRow.holds Try.pinned (OpenSpec.ofChange fnGainsWrong)

/-- 'laws.FnPlant': WHATEVER THE INPUT: true; the input reads as it did. -/
def fnPlantSpec : ChangeSpec := { name := "fnPlant", fn := fun _ => fun
  | [d] => { results := [.lit (.bool true)], args := [d] }
  | _ => none }
def fnPlantRow : OpenClaim := { program := "ytonafpbnjgdlgaa", sum := "200aca3c4a6893a70d98b6784611c1af07cf7856b351d7c867684dc5fcea023e", func := "loop.example/g00047/laws.FnPlant", spec := "fnPlant", apart := false }
def FnPlantSaid : Prop := fnPlantRow.holds Try.pinned (OpenSpec.ofChange fnPlantSpec)

/-- ITS FALSE NEIGHBOUR: 'it returns false'. Refute it at one input. -/
def fnPlantWrong : ChangeSpec := { name := "fnPlant", fn := fun _ => fun
  | [d] => { results := [.lit (.bool false)], args := [d] }
  | _ => none }
def FnPlantWrongFalsely : Prop := fnPlantRow.holds Try.pinned (OpenSpec.ofChange fnPlantWrong)

/-- 'laws.FnHold': WHATEVER THE INPUT: true; the input reads as it did. -/
def fnHoldSpec : ChangeSpec := { name := "fnHold", fn := fun _ => fun
  | [d] => { results := [.lit (.bool true)], args := [d] }
  | _ => none }
def fnHoldRow : OpenClaim := { program := "ytonafpbnjgdlgaa", sum := "200aca3c4a6893a70d98b6784611c1af07cf7856b351d7c867684dc5fcea023e", func := "loop.example/g00047/laws.FnHold", spec := "fnHold", apart := false }
def FnHoldSaid : Prop := fnHoldRow.holds Try.pinned (OpenSpec.ofChange fnHoldSpec)

/-- ITS FALSE NEIGHBOUR: 'it returns false'. Refute it at one input. -/
def fnHoldWrong : ChangeSpec := { name := "fnHold", fn := fun _ => fun
  | [d] => { results := [.lit (.bool false)], args := [d] }
  | _ => none }
def FnHoldWrongFalsely : Prop := fnHoldRow.holds Try.pinned (OpenSpec.ofChange fnHoldWrong)

/- THE SECOND FORM. 'bulk': how many values and letters a reading holds, each counted each time it is reached (what is shared counts as often as it is met; a slice's spare places count too). A statement '..UptoSaid' is the law's where the arguments, and the package variables that the reading takes, are together of bulk at most 1048576: NARROWER than '..Said'. Prove '..Said' where nothing that the law and all that it calls make is longer than what came in: it says more and counts as full. Else prove '..UptoSaid'. A law counts once. -/
mutual
def uptoBulk {H : Type} : DataW H → Nat
  | .lit (.string bytes) => bytes.length + 1
  | .lit _ => 1
  | .nil => 1
  | .ptr d => uptoBulk d + 1
  | .slice elems spare => uptoBulkAll elems + uptoBulkAll spare + 1
  | .agg parts => uptoBulkAll parts + 1
  | .iface _ d => uptoBulk d + 1
  | .map entries => uptoBulkEntries entries + 1
  | .held _ => 1
def uptoBulkAll {H : Type} : List (DataW H) → Nat
  | [] => 0
  | d :: r => uptoBulk d + uptoBulkAll r
def uptoBulkEntries {H : Type} : List (Lit × DataW H) → Nat
  | [] => 0
  | x :: r => uptoBulkEntry x + uptoBulkEntries r
def uptoBulkEntry {H : Type} : Lit × DataW H → Nat
  | (.string bytes, d) => bytes.length + uptoBulk d + 1
  | (_, d) => uptoBulk d + 1
 end
def uptoSmall : (H : Type) → List (DataW H) → Bool := fun _ ds => decide (uptoBulkAll ds ≤ 1048576)
def OpenSpec.upto (s : _root_.Go.ChangeSpec) : _root_.Go.OpenSpec := { _root_.Go.OpenSpec.ofChange s with cond := some uptoSmall }

/-- 'laws.FnExactLoopAt', WHERE WHAT IT READS IS OF BULK AT MOST 1048576: true; the input reads as it did. -/
def fnExactLoopAtUptoRow : OpenClaim := { program := "ytonafpbnjgdlgaa", sum := "200aca3c4a6893a70d98b6784611c1af07cf7856b351d7c867684dc5fcea023e", func := "loop.example/g00047/laws.FnExactLoopAt", spec := "fnExactLoopAt", apart := false, narrowed := true }
def FnExactLoopAtUptoSaid : Prop := fnExactLoopAtUptoRow.holds Try.pinned (OpenSpec.upto fnExactLoopAtSpec)

/-- 'laws.FnExactHoldStep', WHERE WHAT IT READS IS OF BULK AT MOST 1048576: true; the input reads as it did. -/
def fnExactHoldStepUptoRow : OpenClaim := { program := "ytonafpbnjgdlgaa", sum := "200aca3c4a6893a70d98b6784611c1af07cf7856b351d7c867684dc5fcea023e", func := "loop.example/g00047/laws.FnExactHoldStep", spec := "fnExactHoldStep", apart := false, narrowed := true }
def FnExactHoldStepUptoSaid : Prop := fnExactHoldStepUptoRow.holds Try.pinned (OpenSpec.upto fnExactHoldStepSpec)

/-- 'laws.FnExactCascadeStep', WHERE WHAT IT READS IS OF BULK AT MOST 1048576: true; the input reads as it did. -/
def fnExactCascadeStepUptoRow : OpenClaim := { program := "ytonafpbnjgdlgaa", sum := "200aca3c4a6893a70d98b6784611c1af07cf7856b351d7c867684dc5fcea023e", func := "loop.example/g00047/laws.FnExactCascadeStep", spec := "fnExactCascadeStep", apart := false, narrowed := true }
def FnExactCascadeStepUptoSaid : Prop := fnExactCascadeStepUptoRow.holds Try.pinned (OpenSpec.upto fnExactCascadeStepSpec)

/-- 'laws.FnExactRunPlant', WHERE WHAT IT READS IS OF BULK AT MOST 1048576: true; the input reads as it did. -/
def fnExactRunPlantUptoRow : OpenClaim := { program := "ytonafpbnjgdlgaa", sum := "200aca3c4a6893a70d98b6784611c1af07cf7856b351d7c867684dc5fcea023e", func := "loop.example/g00047/laws.FnExactRunPlant", spec := "fnExactRunPlant", apart := false, narrowed := true }
def FnExactRunPlantUptoSaid : Prop := fnExactRunPlantUptoRow.holds Try.pinned (OpenSpec.upto fnExactRunPlantSpec)

/-- 'laws.FnExactRunHold', WHERE WHAT IT READS IS OF BULK AT MOST 1048576: true; the input reads as it did. -/
def fnExactRunHoldUptoRow : OpenClaim := { program := "ytonafpbnjgdlgaa", sum := "200aca3c4a6893a70d98b6784611c1af07cf7856b351d7c867684dc5fcea023e", func := "loop.example/g00047/laws.FnExactRunHold", spec := "fnExactRunHold", apart := false, narrowed := true }
def FnExactRunHoldUptoSaid : Prop := fnExactRunHoldUptoRow.holds Try.pinned (OpenSpec.upto fnExactRunHoldSpec)

/-- 'laws.FnGains', WHERE WHAT IT READS IS OF BULK AT MOST 1048576: true; the input reads as it did. -/
def fnGainsUptoRow : OpenClaim := { program := "ytonafpbnjgdlgaa", sum := "200aca3c4a6893a70d98b6784611c1af07cf7856b351d7c867684dc5fcea023e", func := "loop.example/g00047/laws.FnGains", spec := "fnGains", apart := false, narrowed := true }
def FnGainsUptoSaid : Prop := fnGainsUptoRow.holds Try.pinned (OpenSpec.upto fnGainsSpec)

/-- 'laws.FnPlant', WHERE WHAT IT READS IS OF BULK AT MOST 1048576: true; the input reads as it did. -/
def fnPlantUptoRow : OpenClaim := { program := "ytonafpbnjgdlgaa", sum := "200aca3c4a6893a70d98b6784611c1af07cf7856b351d7c867684dc5fcea023e", func := "loop.example/g00047/laws.FnPlant", spec := "fnPlant", apart := false, narrowed := true }
def FnPlantUptoSaid : Prop := fnPlantUptoRow.holds Try.pinned (OpenSpec.upto fnPlantSpec)

/-- 'laws.FnHold', WHERE WHAT IT READS IS OF BULK AT MOST 1048576: true; the input reads as it did. -/
def fnHoldUptoRow : OpenClaim := { program := "ytonafpbnjgdlgaa", sum := "200aca3c4a6893a70d98b6784611c1af07cf7856b351d7c867684dc5fcea023e", func := "loop.example/g00047/laws.FnHold", spec := "fnHold", apart := false, narrowed := true }
def FnHoldUptoSaid : Prop := fnHoldUptoRow.holds Try.pinned (OpenSpec.upto fnHoldSpec)

end Rows
end Go.Proofs.Ytonafpbnjgdlgaa
