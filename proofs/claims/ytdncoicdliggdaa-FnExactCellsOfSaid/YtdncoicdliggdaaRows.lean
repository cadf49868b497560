/-
  No cell of these rows narrows 'for every input' (looked for: loops, veiled, ifaces, maps, wideKeys, modest, calm, conditions, laid).
  DERIVED. THE GIVEN ROWS OF THIS SEAT. 7 by the template 'for every input the law returns true; each argument reads behind the call as it read before'; 0 by the template 'total and deterministic' (their statements: YtdncoicdliggdaaTotals.lean).
  GIVEN WITH THE SEED: the statements are not yours to turn. If you find one false, say at which input.
  Laid BY PROGRAM, IN A SANDBOX (cutbox-rows.mjs): the forced cells as the released guide's own fill.sh prints them over the translation 0862caf7b3028ed3… (all of the seat's roots in one cut). By AI agents, Wed Nov 11 2026. No macro, syntax, notation, axiom, sorry.
-/
import Derived.Test.YtdncoicdliggdaaChecked
import GoSem.Claim
import GoSem.ClaimJoined
import GoSem.ClaimMapViews
import Derived.JoinedTies
import Derived.KernelRfl
namespace Go.Proofs.Ytdncoicdliggdaa
/- THE CELL 'sum', in the pinned program and in every row, IS THE sha256 OF THE DUMP (.gsa) THAT YtdncoicdliggdaaProg.lean LOADS. Nothing in Lean hashes anything: it is a label: what it is worth is what the hold of that sum in a sandbox is worth. -/
noncomputable def Try.pinned : Pinned := { name := "ytdncoicdliggdaa", sum := "0862caf7b3028ed3e5e92072366e2c13b9309d7098930ddd534ff14f2a32f82e", checked := Try.checked }
namespace Rows
def none {H : Type} : Left H := { results := [], args := [] }

/-- 'laws.FnExactGoodCounts': WHATEVER THE INPUT: true; the input reads as it did. -/
def fnExactGoodCountsSpec : ChangeSpec := { name := "fnExactGoodCounts", fn := fun _ => fun
  | [d] => { results := [.lit (.bool true)], args := [d] }
  | _ => none }
def fnExactGoodCountsRow : OpenClaim := { program := "ytdncoicdliggdaa", sum := "0862caf7b3028ed3e5e92072366e2c13b9309d7098930ddd534ff14f2a32f82e", func := "loop.example/g00047/laws.FnExactGoodCounts", spec := "fnExactGoodCounts", apart := false }
def FnExactGoodCountsSaid : Prop := fnExactGoodCountsRow.holds Try.pinned (OpenSpec.ofChange fnExactGoodCountsSpec)

/-- ITS FALSE NEIGHBOUR: 'it returns false'. Refute it at one input. -/
def fnExactGoodCountsWrong : ChangeSpec := { name := "fnExactGoodCounts", fn := fun _ => fun
  | [d] => { results := [.lit (.bool false)], args := [d] }
  | _ => none }
def FnExactGoodCountsWrongFalsely : Prop := fnExactGoodCountsRow.holds Try.pinned (OpenSpec.ofChange fnExactGoodCountsWrong)

/-- 'laws.FnExactUnwrapCounts': WHATEVER THE INPUT: true; the input reads as it did. -/
def fnExactUnwrapCountsSpec : ChangeSpec := { name := "fnExactUnwrapCounts", fn := fun _ => fun
  | [d1, d2] => { results := [.lit (.bool true)], args := [d1, d2] }
  | _ => none }
def fnExactUnwrapCountsRow : OpenClaim := { program := "ytdncoicdliggdaa", sum := "0862caf7b3028ed3e5e92072366e2c13b9309d7098930ddd534ff14f2a32f82e", func := "loop.example/g00047/laws.FnExactUnwrapCounts", spec := "fnExactUnwrapCounts", apart := false }
def FnExactUnwrapCountsSaid : Prop := fnExactUnwrapCountsRow.holds Try.pinned (OpenSpec.ofChange fnExactUnwrapCountsSpec)

/-- ITS FALSE NEIGHBOUR: 'it returns false'. Refute it at one input. -/
def fnExactUnwrapCountsWrong : ChangeSpec := { name := "fnExactUnwrapCounts", fn := fun _ => fun
  | [d1, d2] => { results := [.lit (.bool false)], args := [d1, d2] }
  | _ => none }
def FnExactUnwrapCountsWrongFalsely : Prop := fnExactUnwrapCountsRow.holds Try.pinned (OpenSpec.ofChange fnExactUnwrapCountsWrong)

/-- 'laws.FnExactCellsOf': WHATEVER THE INPUT: true; the input reads as it did. -/
def fnExactCellsOfSpec : ChangeSpec := { name := "fnExactCellsOf", fn := fun _ => fun
  | [d] => { results := [.lit (.bool true)], args := [d] }
  | _ => none }
def fnExactCellsOfRow : OpenClaim := { program := "ytdncoicdliggdaa", sum := "0862caf7b3028ed3e5e92072366e2c13b9309d7098930ddd534ff14f2a32f82e", func := "loop.example/g00047/laws.FnExactCellsOf", spec := "fnExactCellsOf", apart := false }
def FnExactCellsOfSaid : Prop := fnExactCellsOfRow.holds Try.pinned (OpenSpec.ofChange fnExactCellsOfSpec)

/-- ITS FALSE NEIGHBOUR: 'it returns false'. Refute it at one input. -/
def fnExactCellsOfWrong : ChangeSpec := { name := "fnExactCellsOf", fn := fun _ => fun
  | [d] => { results := [.lit (.bool false)], args := [d] }
  | _ => none }
def FnExactCellsOfWrongFalsely : Prop := fnExactCellsOfRow.holds Try.pinned (OpenSpec.ofChange fnExactCellsOfWrong)

/-- 'laws.FnExactLineCells': WHATEVER THE INPUT: true; the input reads as it did. -/
def fnExactLineCellsSpec : ChangeSpec := { name := "fnExactLineCells", fn := fun _ => fun
  | [d1, d2, d3, d4] => { results := [.lit (.bool true)], args := [d1, d2, d3, d4] }
  | _ => none }
def fnExactLineCellsRow : OpenClaim := { program := "ytdncoicdliggdaa", sum := "0862caf7b3028ed3e5e92072366e2c13b9309d7098930ddd534ff14f2a32f82e", func := "loop.example/g00047/laws.FnExactLineCells", spec := "fnExactLineCells", unfollowed := true, recurses := true, apart := false }
def FnExactLineCellsSaid : Prop := fnExactLineCellsRow.holds Try.pinned (OpenSpec.ofChange fnExactLineCellsSpec)

/-- ITS FALSE NEIGHBOUR: 'it returns false'. Refute it at one input. -/
def fnExactLineCellsWrong : ChangeSpec := { name := "fnExactLineCells", fn := fun _ => fun
  | [d1, d2, d3, d4] => { results := [.lit (.bool false)], args := [d1, d2, d3, d4] }
  | _ => none }
def FnExactLineCellsWrongFalsely : Prop := fnExactLineCellsRow.holds Try.pinned (OpenSpec.ofChange fnExactLineCellsWrong)

/-- 'laws.FnExactAddRay': WHATEVER THE INPUT: true; the input reads as it did. -/
def fnExactAddRaySpec : ChangeSpec := { name := "fnExactAddRay", fn := fun _ => fun
  | [d1, d2, d3, d4, d5, d6] => { results := [.lit (.bool true)], args := [d1, d2, d3, d4, d5, d6] }
  | _ => none }
def fnExactAddRayRow : OpenClaim := { program := "ytdncoicdliggdaa", sum := "0862caf7b3028ed3e5e92072366e2c13b9309d7098930ddd534ff14f2a32f82e", func := "loop.example/g00047/laws.FnExactAddRay", spec := "fnExactAddRay", unfollowed := true, recurses := true, apart := false }
def FnExactAddRaySaid : Prop := fnExactAddRayRow.holds Try.pinned (OpenSpec.ofChange fnExactAddRaySpec)

/-- ITS FALSE NEIGHBOUR: 'it returns false'. Refute it at one input. -/
def fnExactAddRayWrong : ChangeSpec := { name := "fnExactAddRay", fn := fun _ => fun
  | [d1, d2, d3, d4, d5, d6] => { results := [.lit (.bool false)], args := [d1, d2, d3, d4, d5, d6] }
  | _ => none }
def FnExactAddRayWrongFalsely : Prop := fnExactAddRayRow.holds Try.pinned (OpenSpec.ofChange fnExactAddRayWrong)

/-- 'laws.FnLine': WHATEVER THE INPUT: true; the input reads as it did. -/
def fnLineSpec : ChangeSpec := { name := "fnLine", fn := fun _ => fun
  | [d] => { results := [.lit (.bool true)], args := [d] }
  | _ => none }
def fnLineRow : OpenClaim := { program := "ytdncoicdliggdaa", sum := "0862caf7b3028ed3e5e92072366e2c13b9309d7098930ddd534ff14f2a32f82e", func := "loop.example/g00047/laws.FnLine", spec := "fnLine", unfollowed := true, recurses := true, apart := false }
def FnLineSaid : Prop := fnLineRow.holds Try.pinned (OpenSpec.ofChange fnLineSpec)

/-- ITS FALSE NEIGHBOUR: 'it returns false'. Refute it at one input. -/
def fnLineWrong : ChangeSpec := { name := "fnLine", fn := fun _ => fun
  | [d] => { results := [.lit (.bool false)], args := [d] }
  | _ => none }
def FnLineWrongFalsely : Prop := fnLineRow.holds Try.pinned (OpenSpec.ofChange fnLineWrong)

/-- 'laws.FnCounts': WHATEVER THE INPUT: true; the input reads as it did. -/
def fnCountsSpec : ChangeSpec := { name := "fnCounts", fn := fun _ => fun
  | [d1, d2] => { results := [.lit (.bool true)], args := [d1, d2] }
  | _ => none }
def fnCountsRow : OpenClaim := { program := "ytdncoicdliggdaa", sum := "0862caf7b3028ed3e5e92072366e2c13b9309d7098930ddd534ff14f2a32f82e", func := "loop.example/g00047/laws.FnCounts", spec := "fnCounts", unfollowed := true, recurses := true, apart := false }
def FnCountsSaid : Prop := fnCountsRow.holds Try.pinned (OpenSpec.ofChange fnCountsSpec)

/-- ITS FALSE NEIGHBOUR: 'it returns false'. Refute it at one input. -/
def fnCountsWrong : ChangeSpec := { name := "fnCounts", fn := fun _ => fun
  | [d1, d2] => { results := [.lit (.bool false)], args := [d1, d2] }
  | _ => none }
def FnCountsWrongFalsely : Prop := fnCountsRow.holds Try.pinned (OpenSpec.ofChange fnCountsWrong)

/- THE SECOND FORM. 'bulk': how many values and letters a reading holds, each counted each time it is reached (what is shared counts as often as it is met; a slice's spare places count too). A statement '..UptoSaid' is the law's where the arguments, and the package variables that the reading takes, are together of bulk at most 1048576: NARROWER than '..Said'. Prove '..Said' where nothing that the law and all that it calls make is longer than what came in: it says more and counts as full. Else prove '..UptoSaid'. A law counts once. -/
mutual
def uptoBulk {H : Type} : DataW H → Nat
  | .lit (.string bytes) => bytes.length + 1
  | .lit _ => 1
  | .nil => 1
  | .ptr d => uptoBulk d + 1
  | .slice elems spare => uptoBulkAll elems + uptoBulkAll spare + 1
  | .agg parts => uptoBulkAll parts + 1
  | .iface _ d => uptoBulk d + 1
  | .map entries => uptoBulkEntries entries + 1
  | .held _ => 1
def uptoBulkAll {H : Type} : List (DataW H) → Nat
  | [] => 0
  | d :: r => uptoBulk d + uptoBulkAll r
def uptoBulkEntries {H : Type} : List (Lit × DataW H) → Nat
  | [] => 0
  | x :: r => uptoBulkEntry x + uptoBulkEntries r
def uptoBulkEntry {H : Type} : Lit × DataW H → Nat
  | (.string bytes, d) => bytes.length + uptoBulk d + 1
  | (_, d) => uptoBulk d + 1
 end
def uptoSmall : (H : Type) → List (DataW H) → Bool := fun _ ds => decide (uptoBulkAll ds ≤ 1048576)
def OpenSpec.upto (s : _root_.Go.ChangeSpec) : _root_.Go.OpenSpec := { _root_.Go.OpenSpec.ofChange s with cond := some uptoSmall }

/-- 'laws.FnExactGoodCounts', WHERE WHAT IT READS IS OF BULK AT MOST 1048576: true; the input reads as it did. -/
def fnExactGoodCountsUptoRow : OpenClaim := { program := "ytdncoicdliggdaa", sum := "0862caf7b3028ed3e5e92072366e2c13b9309d7098930ddd534ff14f2a32f82e", func := "loop.example/g00047/laws.FnExactGoodCounts", spec := "fnExactGoodCounts", apart := false, narrowed := true }
def FnExactGoodCountsUptoSaid : Prop := fnExactGoodCountsUptoRow.holds Try.pinned (OpenSpec.upto fnExactGoodCountsSpec)

/-- 'laws.FnExactUnwrapCounts', WHERE WHAT IT READS IS OF BULK AT MOST 1048576: true; the input reads as it did. -/
def fnExactUnwrapCountsUptoRow : OpenClaim := { program := "ytdncoicdliggdaa", sum := "0862caf7b3028ed3e5e92072366e2c13b9309d7098930ddd534ff14f2a32f82e", func := "loop.example/g00047/laws.FnExactUnwrapCounts", spec := "fnExactUnwrapCounts", apart := false, narrowed := true }
def FnExactUnwrapCountsUptoSaid : Prop := fnExactUnwrapCountsUptoRow.holds Try.pinned (OpenSpec.upto fnExactUnwrapCountsSpec)

/-- 'laws.FnExactCellsOf', WHERE WHAT IT READS IS OF BULK AT MOST 1048576: true; the input reads as it did. -/
def fnExactCellsOfUptoRow : OpenClaim := { program := "ytdncoicdliggdaa", sum := "0862caf7b3028ed3e5e92072366e2c13b9309d7098930ddd534ff14f2a32f82e", func := "loop.example/g00047/laws.FnExactCellsOf", spec := "fnExactCellsOf", apart := false, narrowed := true }
def FnExactCellsOfUptoSaid : Prop := fnExactCellsOfUptoRow.holds Try.pinned (OpenSpec.upto fnExactCellsOfSpec)

/-- 'laws.FnExactLineCells', WHERE WHAT IT READS IS OF BULK AT MOST 1048576: true; the input reads as it did. -/
def fnExactLineCellsUptoRow : OpenClaim := { program := "ytdncoicdliggdaa", sum := "0862caf7b3028ed3e5e92072366e2c13b9309d7098930ddd534ff14f2a32f82e", func := "loop.example/g00047/laws.FnExactLineCells", spec := "fnExactLineCells", unfollowed := true, recurses := true, apart := false, narrowed := true }
def FnExactLineCellsUptoSaid : Prop := fnExactLineCellsUptoRow.holds Try.pinned (OpenSpec.upto fnExactLineCellsSpec)

/-- 'laws.FnExactAddRay', WHERE WHAT IT READS IS OF BULK AT MOST 1048576: true; the input reads as it did. -/
def fnExactAddRayUptoRow : OpenClaim := { program := "ytdncoicdliggdaa", sum := "0862caf7b3028ed3e5e92072366e2c13b9309d7098930ddd534ff14f2a32f82e", func := "loop.example/g00047/laws.FnExactAddRay", spec := "fnExactAddRay", unfollowed := true, recurses := true, apart := false, narrowed := true }
def FnExactAddRayUptoSaid : Prop := fnExactAddRayUptoRow.holds Try.pinned (OpenSpec.upto fnExactAddRaySpec)

/-- 'laws.FnLine', WHERE WHAT IT READS IS OF BULK AT MOST 1048576: true; the input reads as it did. -/
def fnLineUptoRow : OpenClaim := { program := "ytdncoicdliggdaa", sum := "0862caf7b3028ed3e5e92072366e2c13b9309d7098930ddd534ff14f2a32f82e", func := "loop.example/g00047/laws.FnLine", spec := "fnLine", unfollowed := true, recurses := true, apart := false, narrowed := true }
def FnLineUptoSaid : Prop := fnLineUptoRow.holds Try.pinned (OpenSpec.upto fnLineSpec)

/-- 'laws.FnCounts', WHERE WHAT IT READS IS OF BULK AT MOST 1048576: true; the input reads as it did. -/
def fnCountsUptoRow : OpenClaim := { program := "ytdncoicdliggdaa", sum := "0862caf7b3028ed3e5e92072366e2c13b9309d7098930ddd534ff14f2a32f82e", func := "loop.example/g00047/laws.FnCounts", spec := "fnCounts", unfollowed := true, recurses := true, apart := false, narrowed := true }
def FnCountsUptoSaid : Prop := fnCountsUptoRow.holds Try.pinned (OpenSpec.upto fnCountsSpec)

end Rows
end Go.Proofs.Ytdncoicdliggdaa
