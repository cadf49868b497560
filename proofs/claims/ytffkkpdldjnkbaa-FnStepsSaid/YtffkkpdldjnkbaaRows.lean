/-
  No cell of these rows narrows 'for every input' (looked for: loops, veiled, ifaces, maps, wideKeys, modest, calm, conditions, laid).
  DERIVED. THE GIVEN ROWS OF THIS SEAT. 6 by the template 'for every input the law returns true; each argument reads behind the call as it read before'; 0 by the template 'total and deterministic' (their statements: YtffkkpdldjnkbaaTotals.lean).
  GIVEN WITH THE SEED: the statements are not yours to turn. If you find one false, say at which input.
  Laid BY PROGRAM, IN A SANDBOX (cutbox-rows.mjs): the forced cells as the released guide's own fill.sh prints them over the translation 3a12a1e386278c46… (all of the seat's roots in one cut). By AI agents, Wed Nov 11 2026. No macro, syntax, notation, axiom, sorry.
-/
import Derived.Test.YtffkkpdldjnkbaaChecked
import GoSem.Claim
import GoSem.ClaimJoined
import GoSem.ClaimMapViews
import Derived.JoinedTies
import Derived.KernelRfl
namespace Go.Proofs.Ytffkkpdldjnkbaa
/- THE CELL 'sum', in the pinned program and in every row, IS THE sha256 OF THE DUMP (.gsa) THAT YtffkkpdldjnkbaaProg.lean LOADS. Nothing in Lean hashes anything: it is a label: what it is worth is what the hold of that sum in a sandbox is worth. -/
noncomputable def Try.pinned : Pinned := { name := "ytffkkpdldjnkbaa", sum := "3a12a1e386278c466b861297beaf9ae918a1f51f5be58da8282b912f0b09fced", checked := Try.checked }
namespace Rows
def none {H : Type} : Left H := { results := [], args := [] }

/-- 'laws.FnExactAllPlaces': WHATEVER THE INPUT: true; the input reads as it did. -/
def fnExactAllPlacesSpec : ChangeSpec := { name := "fnExactAllPlaces", fn := fun _ => fun
  | [d] => { results := [.lit (.bool true)], args := [d] }
  | _ => none }
def fnExactAllPlacesRow : OpenClaim := { program := "ytffkkpdldjnkbaa", sum := "3a12a1e386278c466b861297beaf9ae918a1f51f5be58da8282b912f0b09fced", func := "loop.example/g00047/laws.FnExactAllPlaces", spec := "fnExactAllPlaces", apart := false }
def FnExactAllPlacesSaid : Prop := fnExactAllPlacesRow.holds Try.pinned (OpenSpec.ofChange fnExactAllPlacesSpec)

/-- ITS FALSE NEIGHBOUR: 'it returns false'. Refute it at one input. -/
def fnExactAllPlacesWrong : ChangeSpec := { name := "fnExactAllPlaces", fn := fun _ => fun
  | [d] => { results := [.lit (.bool false)], args := [d] }
  | _ => none }
def FnExactAllPlacesWrongFalsely : Prop := fnExactAllPlacesRow.holds Try.pinned (OpenSpec.ofChange fnExactAllPlacesWrong)

/-- 'laws.FnExactFarOf': WHATEVER THE INPUT: true; the input reads as it did. -/
def fnExactFarOfSpec : ChangeSpec := { name := "fnExactFarOf", fn := fun _ => fun
  | [d1, d2, d3] => { results := [.lit (.bool true)], args := [d1, d2, d3] }
  | _ => none }
def fnExactFarOfRow : OpenClaim := { program := "ytffkkpdldjnkbaa", sum := "3a12a1e386278c466b861297beaf9ae918a1f51f5be58da8282b912f0b09fced", func := "loop.example/g00047/laws.FnExactFarOf", spec := "fnExactFarOf", apart := false }
def FnExactFarOfSaid : Prop := fnExactFarOfRow.holds Try.pinned (OpenSpec.ofChange fnExactFarOfSpec)

/-- ITS FALSE NEIGHBOUR: 'it returns false'. Refute it at one input. -/
def fnExactFarOfWrong : ChangeSpec := { name := "fnExactFarOf", fn := fun _ => fun
  | [d1, d2, d3] => { results := [.lit (.bool false)], args := [d1, d2, d3] }
  | _ => none }
def FnExactFarOfWrongFalsely : Prop := fnExactFarOfRow.holds Try.pinned (OpenSpec.ofChange fnExactFarOfWrong)

/-- 'laws.FnExactSeePlaces': WHATEVER THE INPUT: true; the input reads as it did. -/
def fnExactSeePlacesSpec : ChangeSpec := { name := "fnExactSeePlaces", fn := fun _ => fun
  | [d1, d2, d3, d4] => { results := [.lit (.bool true)], args := [d1, d2, d3, d4] }
  | _ => none }
def fnExactSeePlacesRow : OpenClaim := { program := "ytffkkpdldjnkbaa", sum := "3a12a1e386278c466b861297beaf9ae918a1f51f5be58da8282b912f0b09fced", func := "loop.example/g00047/laws.FnExactSeePlaces", spec := "fnExactSeePlaces", apart := false }
def FnExactSeePlacesSaid : Prop := fnExactSeePlacesRow.holds Try.pinned (OpenSpec.ofChange fnExactSeePlacesSpec)

/-- ITS FALSE NEIGHBOUR: 'it returns false'. Refute it at one input. -/
def fnExactSeePlacesWrong : ChangeSpec := { name := "fnExactSeePlaces", fn := fun _ => fun
  | [d1, d2, d3, d4] => { results := [.lit (.bool false)], args := [d1, d2, d3, d4] }
  | _ => none }
def FnExactSeePlacesWrongFalsely : Prop := fnExactSeePlacesRow.holds Try.pinned (OpenSpec.ofChange fnExactSeePlacesWrong)

/-- 'laws.FnExactStepPlaces': WHATEVER THE INPUT: true; the input reads as it did. -/
def fnExactStepPlacesSpec : ChangeSpec := { name := "fnExactStepPlaces", fn := fun _ => fun
  | [d1, d2, d3] => { results := [.lit (.bool true)], args := [d1, d2, d3] }
  | _ => none }
def fnExactStepPlacesRow : OpenClaim := { program := "ytffkkpdldjnkbaa", sum := "3a12a1e386278c466b861297beaf9ae918a1f51f5be58da8282b912f0b09fced", func := "loop.example/g00047/laws.FnExactStepPlaces", spec := "fnExactStepPlaces", apart := false }
def FnExactStepPlacesSaid : Prop := fnExactStepPlacesRow.holds Try.pinned (OpenSpec.ofChange fnExactStepPlacesSpec)

/-- ITS FALSE NEIGHBOUR: 'it returns false'. Refute it at one input. -/
def fnExactStepPlacesWrong : ChangeSpec := { name := "fnExactStepPlaces", fn := fun _ => fun
  | [d1, d2, d3] => { results := [.lit (.bool false)], args := [d1, d2, d3] }
  | _ => none }
def FnExactStepPlacesWrongFalsely : Prop := fnExactStepPlacesRow.holds Try.pinned (OpenSpec.ofChange fnExactStepPlacesWrong)

/-- 'laws.FnSteps': WHATEVER THE INPUT: true; the input reads as it did. -/
def fnStepsSpec : ChangeSpec := { name := "fnSteps", fn := fun _ => fun
  | [d1, d2] => { results := [.lit (.bool true)], args := [d1, d2] }
  | _ => none }
def fnStepsRow : OpenClaim := { program := "ytffkkpdldjnkbaa", sum := "3a12a1e386278c466b861297beaf9ae918a1f51f5be58da8282b912f0b09fced", func := "loop.example/g00047/laws.FnSteps", spec := "fnSteps", apart := false }
def FnStepsSaid : Prop := fnStepsRow.holds Try.pinned (OpenSpec.ofChange fnStepsSpec)

/-- ITS FALSE NEIGHBOUR: 'it returns false'. Refute it at one input. -/
def fnStepsWrong : ChangeSpec := { name := "fnSteps", fn := fun _ => fun
  | [d1, d2] => { results := [.lit (.bool false)], args := [d1, d2] }
  | _ => none }
def FnStepsWrongFalsely : Prop := fnStepsRow.holds Try.pinned (OpenSpec.ofChange fnStepsWrong)

/-- 'laws.FnPlaces': WHATEVER THE INPUT: true; the input reads as it did. -/
def fnPlacesSpec : ChangeSpec := { name := "fnPlaces", fn := fun _ => fun
  | [d] => { results := [.lit (.bool true)], args := [d] }
  | _ => none }
def fnPlacesRow : OpenClaim := { program := "ytffkkpdldjnkbaa", sum := "3a12a1e386278c466b861297beaf9ae918a1f51f5be58da8282b912f0b09fced", func := "loop.example/g00047/laws.FnPlaces", spec := "fnPlaces", apart := false }
def FnPlacesSaid : Prop := fnPlacesRow.holds Try.pinned (OpenSpec.ofChange fnPlacesSpec)

/-- ITS FALSE NEIGHBOUR: 'it returns false'. Refute it at one input. -/
def fnPlacesWrong : ChangeSpec := { name := "fnPlaces", fn := fun _ => fun
  | [d] => { results := [.lit (.bool false)], args := [d] }
  | _ => none }
def FnPlacesWrongFalsely : Prop := fnPlacesRow.holds Try.pinned (OpenSpec.ofChange fnPlacesWrong)

/- THE SECOND FORM. 'bulk': how many values and letters a reading holds, each counted each time it is reached (what is shared counts as often as it is met; a slice's spare places count too). A statement '..UptoSaid' is the law's where the arguments, and the package variables that the reading takes, are together of bulk at most 1048576: NARROWER than '..Said'. Prove '..Said' where nothing that the law and all that it calls make is longer than what came in: it says more and counts as full. Else prove '..UptoSaid'. A law counts once. -/
mutual
def uptoBulk {H : Type} : DataW H → Nat
  | .lit (.string bytes) => bytes.length + 1
  | .lit _ => 1
  | .nil => 1
  | .ptr d => uptoBulk d + 1
  | .slice elems spare => uptoBulkAll elems + uptoBulkAll spare + 1
  | .agg parts => uptoBulkAll parts + 1
  | .iface _ d => uptoBulk d + 1
  | .map entries => uptoBulkEntries entries + 1
  | .held _ => 1
def uptoBulkAll {H : Type} : List (DataW H) → Nat
  | [] => 0
  | d :: r => uptoBulk d + uptoBulkAll r
def uptoBulkEntries {H : Type} : List (Lit × DataW H) → Nat
  | [] => 0
  | x :: r => uptoBulkEntry x + uptoBulkEntries r
def uptoBulkEntry {H : Type} : Lit × DataW H → Nat
  | (.string bytes, d) => bytes.length + uptoBulk d + 1
  | (_, d) => uptoBulk d + 1
 end
def uptoSmall : (H : Type) → List (DataW H) → Bool := fun _ ds => decide (uptoBulkAll ds ≤ 1048576)
def OpenSpec.upto (s : _root_.Go.ChangeSpec) : _root_.Go.OpenSpec := { _root_.Go.OpenSpec.ofChange s with cond := some uptoSmall }

/-- 'laws.FnExactAllPlaces', WHERE WHAT IT READS IS OF BULK AT MOST 1048576: true; the input reads as it did. -/
def fnExactAllPlacesUptoRow : OpenClaim := { program := "ytffkkpdldjnkbaa", sum := "3a12a1e386278c466b861297beaf9ae918a1f51f5be58da8282b912f0b09fced", func := "loop.example/g00047/laws.FnExactAllPlaces", spec := "fnExactAllPlaces", apart := false, narrowed := true }
def FnExactAllPlacesUptoSaid : Prop := fnExactAllPlacesUptoRow.holds Try.pinned (OpenSpec.upto fnExactAllPlacesSpec)

/-- 'laws.FnExactFarOf', WHERE WHAT IT READS IS OF BULK AT MOST 1048576: true; the input reads as it did. -/
def fnExactFarOfUptoRow : OpenClaim := { program := "ytffkkpdldjnkbaa", sum := "3a12a1e386278c466b861297beaf9ae918a1f51f5be58da8282b912f0b09fced", func := "loop.example/g00047/laws.FnExactFarOf", spec := "fnExactFarOf", apart := false, narrowed := true }
def FnExactFarOfUptoSaid : Prop := fnExactFarOfUptoRow.holds Try.pinned (OpenSpec.upto fnExactFarOfSpec)

/-- 'laws.FnExactSeePlaces', WHERE WHAT IT READS IS OF BULK AT MOST 1048576: true; the input reads as it did. -/
def fnExactSeePlacesUptoRow : OpenClaim := { program := "ytffkkpdldjnkbaa", sum := "3a12a1e386278c466b861297beaf9ae918a1f51f5be58da8282b912f0b09fced", func := "loop.example/g00047/laws.FnExactSeePlaces", spec := "fnExactSeePlaces", apart := false, narrowed := true }
def FnExactSeePlacesUptoSaid : Prop := fnExactSeePlacesUptoRow.holds Try.pinned (OpenSpec.upto fnExactSeePlacesSpec)

/-- 'laws.FnExactStepPlaces', WHERE WHAT IT READS IS OF BULK AT MOST 1048576: true; the input reads as it did. -/
def fnExactStepPlacesUptoRow : OpenClaim := { program := "ytffkkpdldjnkbaa", sum := "3a12a1e386278c466b861297beaf9ae918a1f51f5be58da8282b912f0b09fced", func := "loop.example/g00047/laws.FnExactStepPlaces", spec := "fnExactStepPlaces", apart := false, narrowed := true }
def FnExactStepPlacesUptoSaid : Prop := fnExactStepPlacesUptoRow.holds Try.pinned (OpenSpec.upto fnExactStepPlacesSpec)

/-- 'laws.FnSteps', WHERE WHAT IT READS IS OF BULK AT MOST 1048576: true; the input reads as it did. -/
def fnStepsUptoRow : OpenClaim := { program := "ytffkkpdldjnkbaa", sum := "3a12a1e386278c466b861297beaf9ae918a1f51f5be58da8282b912f0b09fced", func := "loop.example/g00047/laws.FnSteps", spec := "fnSteps", apart := false, narrowed := true }
def FnStepsUptoSaid : Prop := fnStepsUptoRow.holds Try.pinned (OpenSpec.upto fnStepsSpec)

/-- 'laws.FnPlaces', WHERE WHAT IT READS IS OF BULK AT MOST 1048576: true; the input reads as it did. -/
def fnPlacesUptoRow : OpenClaim := { program := "ytffkkpdldjnkbaa", sum := "3a12a1e386278c466b861297beaf9ae918a1f51f5be58da8282b912f0b09fced", func := "loop.example/g00047/laws.FnPlaces", spec := "fnPlaces", apart := false, narrowed := true }
def FnPlacesUptoSaid : Prop := fnPlacesUptoRow.holds Try.pinned (OpenSpec.upto fnPlacesSpec)

end Rows
end Go.Proofs.Ytffkkpdldjnkbaa
