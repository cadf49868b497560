/-
  No cell of these rows narrows 'for every input' (looked for: loops, veiled, ifaces, maps, wideKeys, modest, calm, conditions, laid).
  DERIVED. THE GIVEN ROWS OF THIS SEAT. 6 by the template 'for every input the law returns true; each argument reads behind the call as it read before'; 0 by the template 'total and deterministic' (their statements: YtfmplkjicdgfbaaTotals.lean).
  GIVEN WITH THE SEED: the statements are not yours to turn. If you find one false, say at which input.
  Laid BY PROGRAM, IN A SANDBOX (cutbox-rows.mjs): the forced cells as the released guide's own fill.sh prints them over the translation b9da159b7ab984e5… (all of the seat's roots in one cut). By AI agents, Wed Nov 11 2026. No macro, syntax, notation, axiom, sorry.
-/
import Derived.Test.YtfmplkjicdgfbaaChecked
import GoSem.Claim
import GoSem.ClaimJoined
import GoSem.ClaimMapViews
import Derived.JoinedTies
import Derived.KernelRfl
namespace Go.Proofs.Ytfmplkjicdgfbaa
/- THE CELL 'sum', in the pinned program and in every row, IS THE sha256 OF THE DUMP (.gsa) THAT YtfmplkjicdgfbaaProg.lean LOADS. Nothing in Lean hashes anything: it is a label: what it is worth is what the hold of that sum in a sandbox is worth. -/
noncomputable def Try.pinned : Pinned := { name := "ytfmplkjicdgfbaa", sum := "b9da159b7ab984e5fbb46400f374a1c6879f9b12ec442e8aef725d861496ee4d", checked := Try.checked }
namespace Rows
def none {H : Type} : Left H := { results := [], args := [] }

/-- 'laws.FnExactMulPoints': WHATEVER THE INPUT: true; the input reads as it did. -/
def fnExactMulPointsSpec : ChangeSpec := { name := "fnExactMulPoints", fn := fun _ => fun
  | [d1, d2] => { results := [.lit (.bool true)], args := [d1, d2] }
  | _ => none }
def fnExactMulPointsRow : OpenClaim := { program := "ytfmplkjicdgfbaa", sum := "b9da159b7ab984e5fbb46400f374a1c6879f9b12ec442e8aef725d861496ee4d", func := "loop.example/g00047/laws.FnExactMulPoints", spec := "fnExactMulPoints", inPlace := ["math.Float64bits", "math.Float64frombits"], apart := false }
def FnExactMulPointsSaid : Prop := fnExactMulPointsRow.holds Try.pinned (OpenSpec.ofChange fnExactMulPointsSpec)

/-- ITS FALSE NEIGHBOUR: 'it returns false'. Refute it at one input. -/
def fnExactMulPointsWrong : ChangeSpec := { name := "fnExactMulPoints", fn := fun _ => fun
  | [d1, d2] => { results := [.lit (.bool false)], args := [d1, d2] }
  | _ => none }
def FnExactMulPointsWrongFalsely : Prop := fnExactMulPointsRow.holds Try.pinned (OpenSpec.ofChange fnExactMulPointsWrong)

/-- 'laws.FnExactDivPoints': WHATEVER THE INPUT: true; the input reads as it did. -/
def fnExactDivPointsSpec : ChangeSpec := { name := "fnExactDivPoints", fn := fun _ => fun
  | [d1, d2] => { results := [.lit (.bool true)], args := [d1, d2] }
  | _ => none }
def fnExactDivPointsRow : OpenClaim := { program := "ytfmplkjicdgfbaa", sum := "b9da159b7ab984e5fbb46400f374a1c6879f9b12ec442e8aef725d861496ee4d", func := "loop.example/g00047/laws.FnExactDivPoints", spec := "fnExactDivPoints", inPlace := ["math.Float64bits", "math.Float64frombits"], apart := false }
def FnExactDivPointsSaid : Prop := fnExactDivPointsRow.holds Try.pinned (OpenSpec.ofChange fnExactDivPointsSpec)

/-- ITS FALSE NEIGHBOUR: 'it returns false'. Refute it at one input. -/
def fnExactDivPointsWrong : ChangeSpec := { name := "fnExactDivPoints", fn := fun _ => fun
  | [d1, d2] => { results := [.lit (.bool false)], args := [d1, d2] }
  | _ => none }
def FnExactDivPointsWrongFalsely : Prop := fnExactDivPointsRow.holds Try.pinned (OpenSpec.ofChange fnExactDivPointsWrong)

/-- 'laws.FnExactFirstGuess': WHATEVER THE INPUT: true; the input reads as it did. -/
def fnExactFirstGuessSpec : ChangeSpec := { name := "fnExactFirstGuess", fn := fun _ => fun
  | [d] => { results := [.lit (.bool true)], args := [d] }
  | _ => none }
def fnExactFirstGuessRow : OpenClaim := { program := "ytfmplkjicdgfbaa", sum := "b9da159b7ab984e5fbb46400f374a1c6879f9b12ec442e8aef725d861496ee4d", func := "loop.example/g00047/laws.FnExactFirstGuess", spec := "fnExactFirstGuess", inPlace := ["math.Float64bits", "math.Float64frombits"], apart := false }
def FnExactFirstGuessSaid : Prop := fnExactFirstGuessRow.holds Try.pinned (OpenSpec.ofChange fnExactFirstGuessSpec)

/-- ITS FALSE NEIGHBOUR: 'it returns false'. Refute it at one input. -/
def fnExactFirstGuessWrong : ChangeSpec := { name := "fnExactFirstGuess", fn := fun _ => fun
  | [d] => { results := [.lit (.bool false)], args := [d] }
  | _ => none }
def FnExactFirstGuessWrongFalsely : Prop := fnExactFirstGuessRow.holds Try.pinned (OpenSpec.ofChange fnExactFirstGuessWrong)

/-- 'laws.FnExactPolyAt': WHATEVER THE INPUT: true; the input reads as it did. -/
def fnExactPolyAtSpec : ChangeSpec := { name := "fnExactPolyAt", fn := fun _ => fun
  | [d1, d2] => { results := [.lit (.bool true)], args := [d1, d2] }
  | _ => none }
def fnExactPolyAtRow : OpenClaim := { program := "ytfmplkjicdgfbaa", sum := "b9da159b7ab984e5fbb46400f374a1c6879f9b12ec442e8aef725d861496ee4d", func := "loop.example/g00047/laws.FnExactPolyAt", spec := "fnExactPolyAt", inPlace := ["math.Float64bits", "math.Float64frombits"], apart := false }
def FnExactPolyAtSaid : Prop := fnExactPolyAtRow.holds Try.pinned (OpenSpec.ofChange fnExactPolyAtSpec)

/-- ITS FALSE NEIGHBOUR: 'it returns false'. Refute it at one input. -/
def fnExactPolyAtWrong : ChangeSpec := { name := "fnExactPolyAt", fn := fun _ => fun
  | [d1, d2] => { results := [.lit (.bool false)], args := [d1, d2] }
  | _ => none }
def FnExactPolyAtWrongFalsely : Prop := fnExactPolyAtRow.holds Try.pinned (OpenSpec.ofChange fnExactPolyAtWrong)

/-- 'laws.FnExactRootStep': WHATEVER THE INPUT: true; the input reads as it did. -/
def fnExactRootStepSpec : ChangeSpec := { name := "fnExactRootStep", fn := fun _ => fun
  | [d1, d2] => { results := [.lit (.bool true)], args := [d1, d2] }
  | _ => none }
def fnExactRootStepRow : OpenClaim := { program := "ytfmplkjicdgfbaa", sum := "b9da159b7ab984e5fbb46400f374a1c6879f9b12ec442e8aef725d861496ee4d", func := "loop.example/g00047/laws.FnExactRootStep", spec := "fnExactRootStep", inPlace := ["math.Float64bits", "math.Float64frombits"], apart := false }
def FnExactRootStepSaid : Prop := fnExactRootStepRow.holds Try.pinned (OpenSpec.ofChange fnExactRootStepSpec)

/-- ITS FALSE NEIGHBOUR: 'it returns false'. Refute it at one input. -/
def fnExactRootStepWrong : ChangeSpec := { name := "fnExactRootStep", fn := fun _ => fun
  | [d1, d2] => { results := [.lit (.bool false)], args := [d1, d2] }
  | _ => none }
def FnExactRootStepWrongFalsely : Prop := fnExactRootStepRow.holds Try.pinned (OpenSpec.ofChange fnExactRootStepWrong)

/-- 'laws.FnExactRootsOf': WHATEVER THE INPUT: true; the input reads as it did. -/
def fnExactRootsOfSpec : ChangeSpec := { name := "fnExactRootsOf", fn := fun _ => fun
  | [d1, d2] => { results := [.lit (.bool true)], args := [d1, d2] }
  | _ => none }
def fnExactRootsOfRow : OpenClaim := { program := "ytfmplkjicdgfbaa", sum := "b9da159b7ab984e5fbb46400f374a1c6879f9b12ec442e8aef725d861496ee4d", func := "loop.example/g00047/laws.FnExactRootsOf", spec := "fnExactRootsOf", inPlace := ["math.Float64bits", "math.Float64frombits"], apart := false }
def FnExactRootsOfSaid : Prop := fnExactRootsOfRow.holds Try.pinned (OpenSpec.ofChange fnExactRootsOfSpec)

/-- ITS FALSE NEIGHBOUR: 'it returns false'. Refute it at one input. -/
def fnExactRootsOfWrong : ChangeSpec := { name := "fnExactRootsOf", fn := fun _ => fun
  | [d1, d2] => { results := [.lit (.bool false)], args := [d1, d2] }
  | _ => none }
def FnExactRootsOfWrongFalsely : Prop := fnExactRootsOfRow.holds Try.pinned (OpenSpec.ofChange fnExactRootsOfWrong)

/- THE SECOND FORM. 'bulk': how many values and letters a reading holds, each counted each time it is reached (what is shared counts as often as it is met; a slice's spare places count too). A statement '..UptoSaid' is the law's where the arguments, and the package variables that the reading takes, are together of bulk at most 1048576: NARROWER than '..Said'. Prove '..Said' where nothing that the law and all that it calls make is longer than what came in: it says more and counts as full. Else prove '..UptoSaid'. A law counts once. -/
mutual
def uptoBulk {H : Type} : DataW H → Nat
  | .lit (.string bytes) => bytes.length + 1
  | .lit _ => 1
  | .nil => 1
  | .ptr d => uptoBulk d + 1
  | .slice elems spare => uptoBulkAll elems + uptoBulkAll spare + 1
  | .agg parts => uptoBulkAll parts + 1
  | .iface _ d => uptoBulk d + 1
  | .map entries => uptoBulkEntries entries + 1
  | .held _ => 1
def uptoBulkAll {H : Type} : List (DataW H) → Nat
  | [] => 0
  | d :: r => uptoBulk d + uptoBulkAll r
def uptoBulkEntries {H : Type} : List (Lit × DataW H) → Nat
  | [] => 0
  | x :: r => uptoBulkEntry x + uptoBulkEntries r
def uptoBulkEntry {H : Type} : Lit × DataW H → Nat
  | (.string bytes, d) => bytes.length + uptoBulk d + 1
  | (_, d) => uptoBulk d + 1
 end
def uptoSmall : (H : Type) → List (DataW H) → Bool := fun _ ds => decide (uptoBulkAll ds ≤ 1048576)
def OpenSpec.upto (s : _root_.Go.ChangeSpec) : _root_.Go.OpenSpec := { _root_.Go.OpenSpec.ofChange s with cond := some uptoSmall }

/-- 'laws.FnExactMulPoints', WHERE WHAT IT READS IS OF BULK AT MOST 1048576: true; the input reads as it did. -/
def fnExactMulPointsUptoRow : OpenClaim := { program := "ytfmplkjicdgfbaa", sum := "b9da159b7ab984e5fbb46400f374a1c6879f9b12ec442e8aef725d861496ee4d", func := "loop.example/g00047/laws.FnExactMulPoints", spec := "fnExactMulPoints", inPlace := ["math.Float64bits", "math.Float64frombits"], apart := false, narrowed := true }
def FnExactMulPointsUptoSaid : Prop := fnExactMulPointsUptoRow.holds Try.pinned (OpenSpec.upto fnExactMulPointsSpec)

/-- 'laws.FnExactDivPoints', WHERE WHAT IT READS IS OF BULK AT MOST 1048576: true; the input reads as it did. -/
def fnExactDivPointsUptoRow : OpenClaim := { program := "ytfmplkjicdgfbaa", sum := "b9da159b7ab984e5fbb46400f374a1c6879f9b12ec442e8aef725d861496ee4d", func := "loop.example/g00047/laws.FnExactDivPoints", spec := "fnExactDivPoints", inPlace := ["math.Float64bits", "math.Float64frombits"], apart := false, narrowed := true }
def FnExactDivPointsUptoSaid : Prop := fnExactDivPointsUptoRow.holds Try.pinned (OpenSpec.upto fnExactDivPointsSpec)

/-- 'laws.FnExactFirstGuess', WHERE WHAT IT READS IS OF BULK AT MOST 1048576: true; the input reads as it did. -/
def fnExactFirstGuessUptoRow : OpenClaim := { program := "ytfmplkjicdgfbaa", sum := "b9da159b7ab984e5fbb46400f374a1c6879f9b12ec442e8aef725d861496ee4d", func := "loop.example/g00047/laws.FnExactFirstGuess", spec := "fnExactFirstGuess", inPlace := ["math.Float64bits", "math.Float64frombits"], apart := false, narrowed := true }
def FnExactFirstGuessUptoSaid : Prop := fnExactFirstGuessUptoRow.holds Try.pinned (OpenSpec.upto fnExactFirstGuessSpec)

/-- 'laws.FnExactPolyAt', WHERE WHAT IT READS IS OF BULK AT MOST 1048576: true; the input reads as it did. -/
def fnExactPolyAtUptoRow : OpenClaim := { program := "ytfmplkjicdgfbaa", sum := "b9da159b7ab984e5fbb46400f374a1c6879f9b12ec442e8aef725d861496ee4d", func := "loop.example/g00047/laws.FnExactPolyAt", spec := "fnExactPolyAt", inPlace := ["math.Float64bits", "math.Float64frombits"], apart := false, narrowed := true }
def FnExactPolyAtUptoSaid : Prop := fnExactPolyAtUptoRow.holds Try.pinned (OpenSpec.upto fnExactPolyAtSpec)

/-- 'laws.FnExactRootStep', WHERE WHAT IT READS IS OF BULK AT MOST 1048576: true; the input reads as it did. -/
def fnExactRootStepUptoRow : OpenClaim := { program := "ytfmplkjicdgfbaa", sum := "b9da159b7ab984e5fbb46400f374a1c6879f9b12ec442e8aef725d861496ee4d", func := "loop.example/g00047/laws.FnExactRootStep", spec := "fnExactRootStep", inPlace := ["math.Float64bits", "math.Float64frombits"], apart := false, narrowed := true }
def FnExactRootStepUptoSaid : Prop := fnExactRootStepUptoRow.holds Try.pinned (OpenSpec.upto fnExactRootStepSpec)

/-- 'laws.FnExactRootsOf', WHERE WHAT IT READS IS OF BULK AT MOST 1048576: true; the input reads as it did. -/
def fnExactRootsOfUptoRow : OpenClaim := { program := "ytfmplkjicdgfbaa", sum := "b9da159b7ab984e5fbb46400f374a1c6879f9b12ec442e8aef725d861496ee4d", func := "loop.example/g00047/laws.FnExactRootsOf", spec := "fnExactRootsOf", inPlace := ["math.Float64bits", "math.Float64frombits"], apart := false, narrowed := true }
def FnExactRootsOfUptoSaid : Prop := fnExactRootsOfUptoRow.holds Try.pinned (OpenSpec.upto fnExactRootsOfSpec)

end Rows
end Go.Proofs.Ytfmplkjicdgfbaa
