-- Written by a program of this session out of the loaded functions' print; helper lemmas as print.sh lays them.
import Derived.Test.YtonafpbnjgdlgaaProg
import Derived.Below
import Derived.Deep.Draws
import Derived.Deep.AppendLies
import Derived.Maps.AppendAt
import Derived.OwnWalk
import Derived.Laws.BytesArg
import Derived.Laws.MakeOwn
import Derived.Laws.OwnMore
import Derived.Deep.OwnRows
import Derived.Tactics
import Derived.Lib.ConvBytes
import Derived.Laws.Slices
import Derived.WalkKit
import Derived.KernelRfl
import Derived.RowKit3
import Derived.Deep.LoopGhost
import Derived.Deep.QuietTactic
import Derived.BigQuiet
import Derived.WideLaws
import Derived.Deep.DeepCutAuto
import Derived.Deep.CutBlock
import Derived.Deep.RegionHeld3
import Derived.Laws.Rows
import Derived.Lib.AppendStr
import Derived.ArgAppend
import Derived.Laws.IdiomCopy
import Derived.OrdersHeld
import Derived.Laws.BitsLemmas
import Derived.RowKit
import Derived.Test.YtonafpbnjgdlgaaWWords
import Derived.Test.YtonafpbnjgdlgaaWLast
import Derived.Test.YtonafpbnjgdlgaaWTab
import Derived.Test.YtonafpbnjgdlgaaWFour
import Derived.Test.YtonafpbnjgdlgaaWQPut
import Derived.Test.YtonafpbnjgdlgaaWApart
import Derived.Test.YtonafpbnjgdlgaaWArr
import Derived.Test.YtonafpbnjgdlgaaWZeros
import Derived.Test.YtonafpbnjgdlgaaWFoot
import Derived.Test.YtonafpbnjgdlgaaWKept
import Derived.Test.YtonafpbnjgdlgaaWShare
import Derived.Test.YtonafpbnjgdlgaaWN
import Derived.Test.YtonafpbnjgdlgaaWFootNe
import Derived.Test.YtonafpbnjgdlgaaWAt
import Derived.Test.YtonafpbnjgdlgaaWEqStruct
import Derived.Test.YtonafpbnjgdlgaaWRepsOne
import Derived.Test.YtonafpbnjgdlgaaWInv
import Derived.Test.YtonafpbnjgdlgaaWInvWords
import Derived.Test.YtonafpbnjgdlgaaWGuard
import Derived.Test.YtonafpbnjgdlgaaWNEv
import Derived.Test.YtonafpbnjgdlgaaWMore
namespace Go.Proofs.Ytonafpbnjgdlgaa.PFnPlant
open Go.RowKit Go.Proofs.YtonafpbnjgdlgaaW.PrintWords Go.Proofs.YtonafpbnjgdlgaaW.PrintLast Go.Proofs.YtonafpbnjgdlgaaW.PrintMore
attribute [local go_sem] max2_int min2_int max_two min_two max_three min_three max_four min_four  -- for this text's walks alone
set_option linter.unusedVariables false
set_option linter.unusedSimpArgs false



def errW : Option Int → Value
  | none => .nilIface
  | some c => .iface 0 (.int .i64 c)
theorem errW_none : errW none = .nilIface := rfl
theorem errW_some (c : Int) : errW (some c) = .iface 0 (.int .i64 c) := rfl

theorem info3 : (Try.prog.info? 3).map (fun i => (i.zero, i.size, i.bytes)) = some (some (.int .i64 0), 1, 8) := by kernel_rfl
-- the values' own types

end Go.Proofs.Ytonafpbnjgdlgaa.PFnPlant
