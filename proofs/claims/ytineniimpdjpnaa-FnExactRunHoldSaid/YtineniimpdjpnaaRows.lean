/-
  No cell of these rows narrows 'for every input' (looked for: loops, veiled, ifaces, maps, wideKeys, modest, calm, conditions, laid).
  DERIVED. THE GIVEN ROWS OF THIS SEAT. 3 by the template 'for every input the law returns true; each argument reads behind the call as it read before'; 0 by the template 'total and deterministic' (their statements: YtineniimpdjpnaaTotals.lean).
  GIVEN WITH THE SEED: the statements are not yours to turn. If you find one false, say at which input.
  Laid BY PROGRAM, IN A SANDBOX (cutbox-rows.mjs): the forced cells as the released guide's own fill.sh prints them over the translation 791403a925ecdb92… (all of the seat's roots in one cut). By AI agents, Wed Nov 11 2026. No macro, syntax, notation, axiom, sorry.
-/
import Derived.Test.YtineniimpdjpnaaChecked
import GoSem.Claim
import GoSem.ClaimJoined
import GoSem.ClaimMapViews
import Derived.JoinedTies
import Derived.KernelRfl
namespace Go.Proofs.Ytineniimpdjpnaa
/- THE CELL 'sum', in the pinned program and in every row, IS THE sha256 OF THE DUMP (.gsa) THAT YtineniimpdjpnaaProg.lean LOADS. Nothing in Lean hashes anything: it is a label: what it is worth is what the hold of that sum in a sandbox is worth. -/
noncomputable def Try.pinned : Pinned := { name := "ytineniimpdjpnaa", sum := "791403a925ecdb92906323fc7c1743fcf533868c0ac769ede7f3004fe8c72566", checked := Try.checked }
namespace Rows
def none {H : Type} : Left H := { results := [], args := [] }

/-- 'laws.FnExactRunHold': WHATEVER THE INPUT: true; the input reads as it did. -/
def fnExactRunHoldSpec : ChangeSpec := { name := "fnExactRunHold", fn := fun _ => fun
  | [d1, d2, d3, d4] => { results := [.lit (.bool true)], args := [d1, d2, d3, d4] }
  | _ => none }
def fnExactRunHoldRow : OpenClaim := { program := "ytineniimpdjpnaa", sum := "791403a925ecdb92906323fc7c1743fcf533868c0ac769ede7f3004fe8c72566", func := "loop.example/g00047/laws.FnExactRunHold", spec := "fnExactRunHold", apart := false }
def FnExactRunHoldSaid : Prop := fnExactRunHoldRow.holds Try.pinned (OpenSpec.ofChange fnExactRunHoldSpec)

/-- ITS FALSE NEIGHBOUR: 'it returns false'. Refute it at one input. -/
def fnExactRunHoldWrong : ChangeSpec := { name := "fnExactRunHold", fn := fun _ => fun
  | [d1, d2, d3, d4] => { results := [.lit (.bool false)], args := [d1, d2, d3, d4] }
  | _ => none }
def FnExactRunHoldWrongFalsely : Prop := fnExactRunHoldRow.holds Try.pinned (OpenSpec.ofChange fnExactRunHoldWrong)

/-- 'laws.FnGains': WHATEVER THE INPUT: true; the input reads as it did. -/
def fnGainsSpec : ChangeSpec := { name := "fnGains", fn := fun _ => fun
  | [d1, d2] => { results := [.lit (.bool true)], args := [d1, d2] }
  | _ => none }
def fnGainsRow : OpenClaim := { program := "ytineniimpdjpnaa", sum := "791403a925ecdb92906323fc7c1743fcf533868c0ac769ede7f3004fe8c72566", func := "loop.example/g00047/laws.FnGains", spec := "fnGains", apart := false }
def FnGainsSaid : Prop := fnGainsRow.holds Try.pinned (OpenSpec.ofChange fnGainsSpec)

/-- ITS FALSE NEIGHBOUR: 'it returns false'. Refute it at one input. -/
def fnGainsWrong : ChangeSpec := { name := "fnGains", fn := fun _ => fun
  | [d1, d2] => { results := [.lit (.bool false)], args := [d1, d2] }
  | _ => none }
def FnGainsWrongFalsely : Prop := fnGainsRow.holds Try.pinned (OpenSpec.ofChange fnGainsWrong)

/-- 'laws.FnHold': WHATEVER THE INPUT: true; the input reads as it did. -/
def fnHoldSpec : ChangeSpec := { name := "fnHold", fn := fun _ => fun
  | [d] => { results := [.lit (.bool true)], args := [d] }
  | _ => none }
def fnHoldRow : OpenClaim := { program := "ytineniimpdjpnaa", sum := "791403a925ecdb92906323fc7c1743fcf533868c0ac769ede7f3004fe8c72566", func := "loop.example/g00047/laws.FnHold", spec := "fnHold", apart := false }
def FnHoldSaid : Prop := fnHoldRow.holds Try.pinned (OpenSpec.ofChange fnHoldSpec)

/-- ITS FALSE NEIGHBOUR: 'it returns false'. Refute it at one input. -/
def fnHoldWrong : ChangeSpec := { name := "fnHold", fn := fun _ => fun
  | [d] => { results := [.lit (.bool false)], args := [d] }
  | _ => none }
def FnHoldWrongFalsely : Prop := fnHoldRow.holds Try.pinned (OpenSpec.ofChange fnHoldWrong)

/- THE SECOND FORM. 'bulk': how many values and letters a reading holds, each counted each time it is reached (what is shared counts as often as it is met; a slice's spare places count too). A statement '..UptoSaid' is the law's where the arguments, and the package variables that the reading takes, are together of bulk at most 1048576: NARROWER than '..Said'. Prove '..Said' where nothing that the law and all that it calls make is longer than what came in: it says more and counts as full. Else prove '..UptoSaid'. A law counts once. -/
mutual
def uptoBulk {H : Type} : DataW H → Nat
  | .lit (.string bytes) => bytes.length + 1
  | .lit _ => 1
  | .nil => 1
  | .ptr d => uptoBulk d + 1
  | .slice elems spare => uptoBulkAll elems + uptoBulkAll spare + 1
  | .agg parts => uptoBulkAll parts + 1
  | .iface _ d => uptoBulk d + 1
  | .map entries => uptoBulkEntries entries + 1
  | .held _ => 1
def uptoBulkAll {H : Type} : List (DataW H) → Nat
  | [] => 0
  | d :: r => uptoBulk d + uptoBulkAll r
def uptoBulkEntries {H : Type} : List (Lit × DataW H) → Nat
  | [] => 0
  | x :: r => uptoBulkEntry x + uptoBulkEntries r
def uptoBulkEntry {H : Type} : Lit × DataW H → Nat
  | (.string bytes, d) => bytes.length + uptoBulk d + 1
  | (_, d) => uptoBulk d + 1
 end
def uptoSmall : (H : Type) → List (DataW H) → Bool := fun _ ds => decide (uptoBulkAll ds ≤ 1048576)
def OpenSpec.upto (s : _root_.Go.ChangeSpec) : _root_.Go.OpenSpec := { _root_.Go.OpenSpec.ofChange s with cond := some uptoSmall }

/-- 'laws.FnExactRunHold', WHERE WHAT IT READS IS OF BULK AT MOST 1048576: true; the input reads as it did. -/
def fnExactRunHoldUptoRow : OpenClaim := { program := "ytineniimpdjpnaa", sum := "791403a925ecdb92906323fc7c1743fcf533868c0ac769ede7f3004fe8c72566", func := "loop.example/g00047/laws.FnExactRunHold", spec := "fnExactRunHold", apart := false, narrowed := true }
def FnExactRunHoldUptoSaid : Prop := fnExactRunHoldUptoRow.holds Try.pinned (OpenSpec.upto fnExactRunHoldSpec)

/-- 'laws.FnGains', WHERE WHAT IT READS IS OF BULK AT MOST 1048576: true; the input reads as it did. -/
def fnGainsUptoRow : OpenClaim := { program := "ytineniimpdjpnaa", sum := "791403a925ecdb92906323fc7c1743fcf533868c0ac769ede7f3004fe8c72566", func := "loop.example/g00047/laws.FnGains", spec := "fnGains", apart := false, narrowed := true }
def FnGainsUptoSaid : Prop := fnGainsUptoRow.holds Try.pinned (OpenSpec.upto fnGainsSpec)

/-- 'laws.FnHold', WHERE WHAT IT READS IS OF BULK AT MOST 1048576: true; the input reads as it did. -/
def fnHoldUptoRow : OpenClaim := { program := "ytineniimpdjpnaa", sum := "791403a925ecdb92906323fc7c1743fcf533868c0ac769ede7f3004fe8c72566", func := "loop.example/g00047/laws.FnHold", spec := "fnHold", apart := false, narrowed := true }
def FnHoldUptoSaid : Prop := fnHoldUptoRow.holds Try.pinned (OpenSpec.upto fnHoldSpec)

end Rows
end Go.Proofs.Ytineniimpdjpnaa
