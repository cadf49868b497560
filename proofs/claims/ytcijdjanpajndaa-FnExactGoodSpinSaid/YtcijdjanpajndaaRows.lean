/-
  No cell of these rows narrows 'for every input' (looked for: loops, veiled, ifaces, maps, wideKeys, modest, calm, conditions, laid).
  DERIVED. THE GIVEN ROWS OF THIS SEAT. 12 by the template 'for every input the law returns true; each argument reads behind the call as it read before'; 0 by the template 'total and deterministic' (their statements: YtcijdjanpajndaaTotals.lean).
  GIVEN WITH THE SEED: the statements are not yours to turn. If you find one false, say at which input.
  Laid BY PROGRAM, IN A SANDBOX (cutbox-rows.mjs): the forced cells as the released guide's own fill.sh prints them over the translation 2ccf1d783d043567… (all of the seat's roots in one cut). By AI agents, Wed Nov 11 2026. No macro, syntax, notation, axiom, sorry.
-/
import Derived.Test.YtcijdjanpajndaaChecked
import GoSem.Claim
import GoSem.ClaimJoined
import GoSem.ClaimMapViews
import Derived.JoinedTies
import Derived.KernelRfl
namespace Go.Proofs.Ytcijdjanpajndaa
/- THE CELL 'sum', in the pinned program and in every row, IS THE sha256 OF THE DUMP (.gsa) THAT YtcijdjanpajndaaProg.lean LOADS. Nothing in Lean hashes anything: it is a label: what it is worth is what the hold of that sum in a sandbox is worth. -/
noncomputable def Try.pinned : Pinned := { name := "ytcijdjanpajndaa", sum := "2ccf1d783d04356718e20d89bc9756b7da7ffc82cd9054f53a77b85a7069aa26", checked := Try.checked }
namespace Rows
def none {H : Type} : Left H := { results := [], args := [] }

/-- 'laws.FnExactConstants': WHATEVER THE INPUT: true; the input reads as it did. -/
def fnExactConstantsSpec : ChangeSpec := { name := "fnExactConstants", fn := fun _ => fun
  | [] => { results := [.lit (.bool true)], args := [] }
  | _ => none }
def fnExactConstantsRow : OpenClaim := { program := "ytcijdjanpajndaa", sum := "2ccf1d783d04356718e20d89bc9756b7da7ffc82cd9054f53a77b85a7069aa26", func := "loop.example/g00047/laws.FnExactConstants", spec := "fnExactConstants", apart := false }
def FnExactConstantsSaid : Prop := fnExactConstantsRow.holds Try.pinned (OpenSpec.ofChange fnExactConstantsSpec)

/-- ITS FALSE NEIGHBOUR: 'it returns false'. Refute it at one input. -/
def fnExactConstantsWrong : ChangeSpec := { name := "fnExactConstants", fn := fun _ => fun
  | [] => { results := [.lit (.bool false)], args := [] }
  | _ => none }
def FnExactConstantsWrongFalsely : Prop := fnExactConstantsRow.holds Try.pinned (OpenSpec.ofChange fnExactConstantsWrong)

/-- 'laws.FnExactGoodLoop': WHATEVER THE INPUT: true; the input reads as it did. -/
def fnExactGoodLoopSpec : ChangeSpec := { name := "fnExactGoodLoop", fn := fun _ => fun
  | [d] => { results := [.lit (.bool true)], args := [d] }
  | _ => none }
def fnExactGoodLoopRow : OpenClaim := { program := "ytcijdjanpajndaa", sum := "2ccf1d783d04356718e20d89bc9756b7da7ffc82cd9054f53a77b85a7069aa26", func := "loop.example/g00047/laws.FnExactGoodLoop", spec := "fnExactGoodLoop", apart := false }
def FnExactGoodLoopSaid : Prop := fnExactGoodLoopRow.holds Try.pinned (OpenSpec.ofChange fnExactGoodLoopSpec)

/-- ITS FALSE NEIGHBOUR: 'it returns false'. Refute it at one input. -/
def fnExactGoodLoopWrong : ChangeSpec := { name := "fnExactGoodLoop", fn := fun _ => fun
  | [d] => { results := [.lit (.bool false)], args := [d] }
  | _ => none }
def FnExactGoodLoopWrongFalsely : Prop := fnExactGoodLoopRow.holds Try.pinned (OpenSpec.ofChange fnExactGoodLoopWrong)

/-- 'laws.FnExactGoodSpin': WHATEVER THE INPUT: true; the input reads as it did. -/
def fnExactGoodSpinSpec : ChangeSpec := { name := "fnExactGoodSpin", fn := fun _ => fun
  | [d] => { results := [.lit (.bool true)], args := [d] }
  | _ => none }
def fnExactGoodSpinRow : OpenClaim := { program := "ytcijdjanpajndaa", sum := "2ccf1d783d04356718e20d89bc9756b7da7ffc82cd9054f53a77b85a7069aa26", func := "loop.example/g00047/laws.FnExactGoodSpin", spec := "fnExactGoodSpin", apart := false }
def FnExactGoodSpinSaid : Prop := fnExactGoodSpinRow.holds Try.pinned (OpenSpec.ofChange fnExactGoodSpinSpec)

/-- ITS FALSE NEIGHBOUR: 'it returns false'. Refute it at one input. -/
def fnExactGoodSpinWrong : ChangeSpec := { name := "fnExactGoodSpin", fn := fun _ => fun
  | [d] => { results := [.lit (.bool false)], args := [d] }
  | _ => none }
def FnExactGoodSpinWrongFalsely : Prop := fnExactGoodSpinRow.holds Try.pinned (OpenSpec.ofChange fnExactGoodSpinWrong)

/-- 'laws.FnExactWrapCount': WHATEVER THE INPUT: true; the input reads as it did. -/
def fnExactWrapCountSpec : ChangeSpec := { name := "fnExactWrapCount", fn := fun _ => fun
  | [d1, d2] => { results := [.lit (.bool true)], args := [d1, d2] }
  | _ => none }
def fnExactWrapCountRow : OpenClaim := { program := "ytcijdjanpajndaa", sum := "2ccf1d783d04356718e20d89bc9756b7da7ffc82cd9054f53a77b85a7069aa26", func := "loop.example/g00047/laws.FnExactWrapCount", spec := "fnExactWrapCount", apart := false }
def FnExactWrapCountSaid : Prop := fnExactWrapCountRow.holds Try.pinned (OpenSpec.ofChange fnExactWrapCountSpec)

/-- ITS FALSE NEIGHBOUR: 'it returns false'. Refute it at one input. -/
def fnExactWrapCountWrong : ChangeSpec := { name := "fnExactWrapCount", fn := fun _ => fun
  | [d1, d2] => { results := [.lit (.bool false)], args := [d1, d2] }
  | _ => none }
def FnExactWrapCountWrongFalsely : Prop := fnExactWrapCountRow.holds Try.pinned (OpenSpec.ofChange fnExactWrapCountWrong)

/-- 'laws.FnExactGoodHold': WHATEVER THE INPUT: true; the input reads as it did. -/
def fnExactGoodHoldSpec : ChangeSpec := { name := "fnExactGoodHold", fn := fun _ => fun
  | [d1, d2] => { results := [.lit (.bool true)], args := [d1, d2] }
  | _ => none }
def fnExactGoodHoldRow : OpenClaim := { program := "ytcijdjanpajndaa", sum := "2ccf1d783d04356718e20d89bc9756b7da7ffc82cd9054f53a77b85a7069aa26", func := "loop.example/g00047/laws.FnExactGoodHold", spec := "fnExactGoodHold", apart := false }
def FnExactGoodHoldSaid : Prop := fnExactGoodHoldRow.holds Try.pinned (OpenSpec.ofChange fnExactGoodHoldSpec)

/-- ITS FALSE NEIGHBOUR: 'it returns false'. Refute it at one input. -/
def fnExactGoodHoldWrong : ChangeSpec := { name := "fnExactGoodHold", fn := fun _ => fun
  | [d1, d2] => { results := [.lit (.bool false)], args := [d1, d2] }
  | _ => none }
def FnExactGoodHoldWrongFalsely : Prop := fnExactGoodHoldRow.holds Try.pinned (OpenSpec.ofChange fnExactGoodHoldWrong)

/-- 'laws.FnExactGoodTurn': WHATEVER THE INPUT: true; the input reads as it did. -/
def fnExactGoodTurnSpec : ChangeSpec := { name := "fnExactGoodTurn", fn := fun _ => fun
  | [d] => { results := [.lit (.bool true)], args := [d] }
  | _ => none }
def fnExactGoodTurnRow : OpenClaim := { program := "ytcijdjanpajndaa", sum := "2ccf1d783d04356718e20d89bc9756b7da7ffc82cd9054f53a77b85a7069aa26", func := "loop.example/g00047/laws.FnExactGoodTurn", spec := "fnExactGoodTurn", apart := false }
def FnExactGoodTurnSaid : Prop := fnExactGoodTurnRow.holds Try.pinned (OpenSpec.ofChange fnExactGoodTurnSpec)

/-- ITS FALSE NEIGHBOUR: 'it returns false'. Refute it at one input. -/
def fnExactGoodTurnWrong : ChangeSpec := { name := "fnExactGoodTurn", fn := fun _ => fun
  | [d] => { results := [.lit (.bool false)], args := [d] }
  | _ => none }
def FnExactGoodTurnWrongFalsely : Prop := fnExactGoodTurnRow.holds Try.pinned (OpenSpec.ofChange fnExactGoodTurnWrong)

/-- 'laws.FnExactCmpCost': WHATEVER THE INPUT: true; the input reads as it did. -/
def fnExactCmpCostSpec : ChangeSpec := { name := "fnExactCmpCost", fn := fun _ => fun
  | [d1, d2, d3, d4] => { results := [.lit (.bool true)], args := [d1, d2, d3, d4] }
  | _ => none }
def fnExactCmpCostRow : OpenClaim := { program := "ytcijdjanpajndaa", sum := "2ccf1d783d04356718e20d89bc9756b7da7ffc82cd9054f53a77b85a7069aa26", func := "loop.example/g00047/laws.FnExactCmpCost", spec := "fnExactCmpCost", apart := false }
def FnExactCmpCostSaid : Prop := fnExactCmpCostRow.holds Try.pinned (OpenSpec.ofChange fnExactCmpCostSpec)

/-- ITS FALSE NEIGHBOUR: 'it returns false'. Refute it at one input. -/
def fnExactCmpCostWrong : ChangeSpec := { name := "fnExactCmpCost", fn := fun _ => fun
  | [d1, d2, d3, d4] => { results := [.lit (.bool false)], args := [d1, d2, d3, d4] }
  | _ => none }
def FnExactCmpCostWrongFalsely : Prop := fnExactCmpCostRow.holds Try.pinned (OpenSpec.ofChange fnExactCmpCostWrong)

/-- 'laws.FnExactGoodCloud': WHATEVER THE INPUT: true; the input reads as it did. -/
def fnExactGoodCloudSpec : ChangeSpec := { name := "fnExactGoodCloud", fn := fun _ => fun
  | [d] => { results := [.lit (.bool true)], args := [d] }
  | _ => none }
def fnExactGoodCloudRow : OpenClaim := { program := "ytcijdjanpajndaa", sum := "2ccf1d783d04356718e20d89bc9756b7da7ffc82cd9054f53a77b85a7069aa26", func := "loop.example/g00047/laws.FnExactGoodCloud", spec := "fnExactGoodCloud", apart := false }
def FnExactGoodCloudSaid : Prop := fnExactGoodCloudRow.holds Try.pinned (OpenSpec.ofChange fnExactGoodCloudSpec)

/-- ITS FALSE NEIGHBOUR: 'it returns false'. Refute it at one input. -/
def fnExactGoodCloudWrong : ChangeSpec := { name := "fnExactGoodCloud", fn := fun _ => fun
  | [d] => { results := [.lit (.bool false)], args := [d] }
  | _ => none }
def FnExactGoodCloudWrongFalsely : Prop := fnExactGoodCloudRow.holds Try.pinned (OpenSpec.ofChange fnExactGoodCloudWrong)

/-- 'laws.FnExactNewCounts': WHATEVER THE INPUT: true; the input reads as it did. -/
def fnExactNewCountsSpec : ChangeSpec := { name := "fnExactNewCounts", fn := fun _ => fun
  | [d1, d2] => { results := [.lit (.bool true)], args := [d1, d2] }
  | _ => none }
def fnExactNewCountsRow : OpenClaim := { program := "ytcijdjanpajndaa", sum := "2ccf1d783d04356718e20d89bc9756b7da7ffc82cd9054f53a77b85a7069aa26", func := "loop.example/g00047/laws.FnExactNewCounts", spec := "fnExactNewCounts", apart := false }
def FnExactNewCountsSaid : Prop := fnExactNewCountsRow.holds Try.pinned (OpenSpec.ofChange fnExactNewCountsSpec)

/-- ITS FALSE NEIGHBOUR: 'it returns false'. Refute it at one input. -/
def fnExactNewCountsWrong : ChangeSpec := { name := "fnExactNewCounts", fn := fun _ => fun
  | [d1, d2] => { results := [.lit (.bool false)], args := [d1, d2] }
  | _ => none }
def FnExactNewCountsWrongFalsely : Prop := fnExactNewCountsRow.holds Try.pinned (OpenSpec.ofChange fnExactNewCountsWrong)

/-- 'laws.FnExactGoodWalls': WHATEVER THE INPUT: true; the input reads as it did. -/
def fnExactGoodWallsSpec : ChangeSpec := { name := "fnExactGoodWalls", fn := fun _ => fun
  | [d] => { results := [.lit (.bool true)], args := [d] }
  | _ => none }
def fnExactGoodWallsRow : OpenClaim := { program := "ytcijdjanpajndaa", sum := "2ccf1d783d04356718e20d89bc9756b7da7ffc82cd9054f53a77b85a7069aa26", func := "loop.example/g00047/laws.FnExactGoodWalls", spec := "fnExactGoodWalls", apart := false }
def FnExactGoodWallsSaid : Prop := fnExactGoodWallsRow.holds Try.pinned (OpenSpec.ofChange fnExactGoodWallsSpec)

/-- ITS FALSE NEIGHBOUR: 'it returns false'. Refute it at one input. -/
def fnExactGoodWallsWrong : ChangeSpec := { name := "fnExactGoodWalls", fn := fun _ => fun
  | [d] => { results := [.lit (.bool false)], args := [d] }
  | _ => none }
def FnExactGoodWallsWrongFalsely : Prop := fnExactGoodWallsRow.holds Try.pinned (OpenSpec.ofChange fnExactGoodWallsWrong)

/-- 'laws.FnExactGoodCells': WHATEVER THE INPUT: true; the input reads as it did. -/
def fnExactGoodCellsSpec : ChangeSpec := { name := "fnExactGoodCells", fn := fun _ => fun
  | [d] => { results := [.lit (.bool true)], args := [d] }
  | _ => none }
def fnExactGoodCellsRow : OpenClaim := { program := "ytcijdjanpajndaa", sum := "2ccf1d783d04356718e20d89bc9756b7da7ffc82cd9054f53a77b85a7069aa26", func := "loop.example/g00047/laws.FnExactGoodCells", spec := "fnExactGoodCells", apart := false }
def FnExactGoodCellsSaid : Prop := fnExactGoodCellsRow.holds Try.pinned (OpenSpec.ofChange fnExactGoodCellsSpec)

/-- ITS FALSE NEIGHBOUR: 'it returns false'. Refute it at one input. -/
def fnExactGoodCellsWrong : ChangeSpec := { name := "fnExactGoodCells", fn := fun _ => fun
  | [d] => { results := [.lit (.bool false)], args := [d] }
  | _ => none }
def FnExactGoodCellsWrongFalsely : Prop := fnExactGoodCellsRow.holds Try.pinned (OpenSpec.ofChange fnExactGoodCellsWrong)

/-- 'laws.FnExactLostCloud': WHATEVER THE INPUT: true; the input reads as it did. -/
def fnExactLostCloudSpec : ChangeSpec := { name := "fnExactLostCloud", fn := fun _ => fun
  | [d] => { results := [.lit (.bool true)], args := [d] }
  | _ => none }
def fnExactLostCloudRow : OpenClaim := { program := "ytcijdjanpajndaa", sum := "2ccf1d783d04356718e20d89bc9756b7da7ffc82cd9054f53a77b85a7069aa26", func := "loop.example/g00047/laws.FnExactLostCloud", spec := "fnExactLostCloud", apart := false }
def FnExactLostCloudSaid : Prop := fnExactLostCloudRow.holds Try.pinned (OpenSpec.ofChange fnExactLostCloudSpec)

/-- ITS FALSE NEIGHBOUR: 'it returns false'. Refute it at one input. -/
def fnExactLostCloudWrong : ChangeSpec := { name := "fnExactLostCloud", fn := fun _ => fun
  | [d] => { results := [.lit (.bool false)], args := [d] }
  | _ => none }
def FnExactLostCloudWrongFalsely : Prop := fnExactLostCloudRow.holds Try.pinned (OpenSpec.ofChange fnExactLostCloudWrong)

/- THE SECOND FORM. 'bulk': how many values and letters a reading holds, each counted each time it is reached (what is shared counts as often as it is met; a slice's spare places count too). A statement '..UptoSaid' is the law's where the arguments, and the package variables that the reading takes, are together of bulk at most 1048576: NARROWER than '..Said'. Prove '..Said' where nothing that the law and all that it calls make is longer than what came in: it says more and counts as full. Else prove '..UptoSaid'. A law counts once. -/
mutual
def uptoBulk {H : Type} : DataW H → Nat
  | .lit (.string bytes) => bytes.length + 1
  | .lit _ => 1
  | .nil => 1
  | .ptr d => uptoBulk d + 1
  | .slice elems spare => uptoBulkAll elems + uptoBulkAll spare + 1
  | .agg parts => uptoBulkAll parts + 1
  | .iface _ d => uptoBulk d + 1
  | .map entries => uptoBulkEntries entries + 1
  | .held _ => 1
def uptoBulkAll {H : Type} : List (DataW H) → Nat
  | [] => 0
  | d :: r => uptoBulk d + uptoBulkAll r
def uptoBulkEntries {H : Type} : List (Lit × DataW H) → Nat
  | [] => 0
  | x :: r => uptoBulkEntry x + uptoBulkEntries r
def uptoBulkEntry {H : Type} : Lit × DataW H → Nat
  | (.string bytes, d) => bytes.length + uptoBulk d + 1
  | (_, d) => uptoBulk d + 1
 end
def uptoSmall : (H : Type) → List (DataW H) → Bool := fun _ ds => decide (uptoBulkAll ds ≤ 1048576)
def OpenSpec.upto (s : _root_.Go.ChangeSpec) : _root_.Go.OpenSpec := { _root_.Go.OpenSpec.ofChange s with cond := some uptoSmall }

/-- 'laws.FnExactConstants', WHERE WHAT IT READS IS OF BULK AT MOST 1048576: true; the input reads as it did. -/
def fnExactConstantsUptoRow : OpenClaim := { program := "ytcijdjanpajndaa", sum := "2ccf1d783d04356718e20d89bc9756b7da7ffc82cd9054f53a77b85a7069aa26", func := "loop.example/g00047/laws.FnExactConstants", spec := "fnExactConstants", apart := false, narrowed := true }
def FnExactConstantsUptoSaid : Prop := fnExactConstantsUptoRow.holds Try.pinned (OpenSpec.upto fnExactConstantsSpec)

/-- 'laws.FnExactGoodLoop', WHERE WHAT IT READS IS OF BULK AT MOST 1048576: true; the input reads as it did. -/
def fnExactGoodLoopUptoRow : OpenClaim := { program := "ytcijdjanpajndaa", sum := "2ccf1d783d04356718e20d89bc9756b7da7ffc82cd9054f53a77b85a7069aa26", func := "loop.example/g00047/laws.FnExactGoodLoop", spec := "fnExactGoodLoop", apart := false, narrowed := true }
def FnExactGoodLoopUptoSaid : Prop := fnExactGoodLoopUptoRow.holds Try.pinned (OpenSpec.upto fnExactGoodLoopSpec)

/-- 'laws.FnExactGoodSpin', WHERE WHAT IT READS IS OF BULK AT MOST 1048576: true; the input reads as it did. -/
def fnExactGoodSpinUptoRow : OpenClaim := { program := "ytcijdjanpajndaa", sum := "2ccf1d783d04356718e20d89bc9756b7da7ffc82cd9054f53a77b85a7069aa26", func := "loop.example/g00047/laws.FnExactGoodSpin", spec := "fnExactGoodSpin", apart := false, narrowed := true }
def FnExactGoodSpinUptoSaid : Prop := fnExactGoodSpinUptoRow.holds Try.pinned (OpenSpec.upto fnExactGoodSpinSpec)

/-- 'laws.FnExactWrapCount', WHERE WHAT IT READS IS OF BULK AT MOST 1048576: true; the input reads as it did. -/
def fnExactWrapCountUptoRow : OpenClaim := { program := "ytcijdjanpajndaa", sum := "2ccf1d783d04356718e20d89bc9756b7da7ffc82cd9054f53a77b85a7069aa26", func := "loop.example/g00047/laws.FnExactWrapCount", spec := "fnExactWrapCount", apart := false, narrowed := true }
def FnExactWrapCountUptoSaid : Prop := fnExactWrapCountUptoRow.holds Try.pinned (OpenSpec.upto fnExactWrapCountSpec)

/-- 'laws.FnExactGoodHold', WHERE WHAT IT READS IS OF BULK AT MOST 1048576: true; the input reads as it did. -/
def fnExactGoodHoldUptoRow : OpenClaim := { program := "ytcijdjanpajndaa", sum := "2ccf1d783d04356718e20d89bc9756b7da7ffc82cd9054f53a77b85a7069aa26", func := "loop.example/g00047/laws.FnExactGoodHold", spec := "fnExactGoodHold", apart := false, narrowed := true }
def FnExactGoodHoldUptoSaid : Prop := fnExactGoodHoldUptoRow.holds Try.pinned (OpenSpec.upto fnExactGoodHoldSpec)

/-- 'laws.FnExactGoodTurn', WHERE WHAT IT READS IS OF BULK AT MOST 1048576: true; the input reads as it did. -/
def fnExactGoodTurnUptoRow : OpenClaim := { program := "ytcijdjanpajndaa", sum := "2ccf1d783d04356718e20d89bc9756b7da7ffc82cd9054f53a77b85a7069aa26", func := "loop.example/g00047/laws.FnExactGoodTurn", spec := "fnExactGoodTurn", apart := false, narrowed := true }
def FnExactGoodTurnUptoSaid : Prop := fnExactGoodTurnUptoRow.holds Try.pinned (OpenSpec.upto fnExactGoodTurnSpec)

/-- 'laws.FnExactCmpCost', WHERE WHAT IT READS IS OF BULK AT MOST 1048576: true; the input reads as it did. -/
def fnExactCmpCostUptoRow : OpenClaim := { program := "ytcijdjanpajndaa", sum := "2ccf1d783d04356718e20d89bc9756b7da7ffc82cd9054f53a77b85a7069aa26", func := "loop.example/g00047/laws.FnExactCmpCost", spec := "fnExactCmpCost", apart := false, narrowed := true }
def FnExactCmpCostUptoSaid : Prop := fnExactCmpCostUptoRow.holds Try.pinned (OpenSpec.upto fnExactCmpCostSpec)

/-- 'laws.FnExactGoodCloud', WHERE WHAT IT READS IS OF BULK AT MOST 1048576: true; the input reads as it did. -/
def fnExactGoodCloudUptoRow : OpenClaim := { program := "ytcijdjanpajndaa", sum := "2ccf1d783d04356718e20d89bc9756b7da7ffc82cd9054f53a77b85a7069aa26", func := "loop.example/g00047/laws.FnExactGoodCloud", spec := "fnExactGoodCloud", apart := false, narrowed := true }
def FnExactGoodCloudUptoSaid : Prop := fnExactGoodCloudUptoRow.holds Try.pinned (OpenSpec.upto fnExactGoodCloudSpec)

/-- 'laws.FnExactNewCounts', WHERE WHAT IT READS IS OF BULK AT MOST 1048576: true; the input reads as it did. -/
def fnExactNewCountsUptoRow : OpenClaim := { program := "ytcijdjanpajndaa", sum := "2ccf1d783d04356718e20d89bc9756b7da7ffc82cd9054f53a77b85a7069aa26", func := "loop.example/g00047/laws.FnExactNewCounts", spec := "fnExactNewCounts", apart := false, narrowed := true }
def FnExactNewCountsUptoSaid : Prop := fnExactNewCountsUptoRow.holds Try.pinned (OpenSpec.upto fnExactNewCountsSpec)

/-- 'laws.FnExactGoodWalls', WHERE WHAT IT READS IS OF BULK AT MOST 1048576: true; the input reads as it did. -/
def fnExactGoodWallsUptoRow : OpenClaim := { program := "ytcijdjanpajndaa", sum := "2ccf1d783d04356718e20d89bc9756b7da7ffc82cd9054f53a77b85a7069aa26", func := "loop.example/g00047/laws.FnExactGoodWalls", spec := "fnExactGoodWalls", apart := false, narrowed := true }
def FnExactGoodWallsUptoSaid : Prop := fnExactGoodWallsUptoRow.holds Try.pinned (OpenSpec.upto fnExactGoodWallsSpec)

/-- 'laws.FnExactGoodCells', WHERE WHAT IT READS IS OF BULK AT MOST 1048576: true; the input reads as it did. -/
def fnExactGoodCellsUptoRow : OpenClaim := { program := "ytcijdjanpajndaa", sum := "2ccf1d783d04356718e20d89bc9756b7da7ffc82cd9054f53a77b85a7069aa26", func := "loop.example/g00047/laws.FnExactGoodCells", spec := "fnExactGoodCells", apart := false, narrowed := true }
def FnExactGoodCellsUptoSaid : Prop := fnExactGoodCellsUptoRow.holds Try.pinned (OpenSpec.upto fnExactGoodCellsSpec)

/-- 'laws.FnExactLostCloud', WHERE WHAT IT READS IS OF BULK AT MOST 1048576: true; the input reads as it did. -/
def fnExactLostCloudUptoRow : OpenClaim := { program := "ytcijdjanpajndaa", sum := "2ccf1d783d04356718e20d89bc9756b7da7ffc82cd9054f53a77b85a7069aa26", func := "loop.example/g00047/laws.FnExactLostCloud", spec := "fnExactLostCloud", apart := false, narrowed := true }
def FnExactLostCloudUptoSaid : Prop := fnExactLostCloudUptoRow.holds Try.pinned (OpenSpec.upto fnExactLostCloudSpec)

end Rows
end Go.Proofs.Ytcijdjanpajndaa
