-- Written by a program of this session out of the loaded functions' print; helper lemmas as print.sh lays them.
import Derived.Test.YtineniimpdjpnaaProg
import Derived.Below
import Derived.Deep.Draws
import Derived.Deep.AppendLies
import Derived.Maps.AppendAt
import Derived.OwnWalk
import Derived.Laws.BytesArg
import Derived.Laws.MakeOwn
import Derived.Laws.OwnMore
import Derived.Deep.OwnRows
import Derived.Tactics
import Derived.Lib.ConvBytes
import Derived.Laws.Slices
import Derived.WalkKit
import Derived.KernelRfl
import Derived.RowKit3
import Derived.Deep.LoopGhost
import Derived.Deep.QuietTactic
import Derived.BigQuiet
import Derived.WideLaws
import Derived.Deep.DeepCutAuto
import Derived.Deep.CutBlock
import Derived.Deep.RegionHeld3
import Derived.Laws.Rows
import Derived.Lib.AppendStr
import Derived.ArgAppend
import Derived.Laws.IdiomCopy
import Derived.OrdersHeld
import Derived.Laws.BitsLemmas
import Derived.RowKit
import Derived.Test.YtineniimpdjpnaaWWords
import Derived.Test.YtineniimpdjpnaaWLast
import Derived.Test.YtineniimpdjpnaaWTab
import Derived.Test.YtineniimpdjpnaaWFour
import Derived.Test.YtineniimpdjpnaaWQPut
import Derived.Test.YtineniimpdjpnaaWApart
import Derived.Test.YtineniimpdjpnaaWArr
import Derived.Test.YtineniimpdjpnaaWZeros
import Derived.Test.YtineniimpdjpnaaWFoot
import Derived.Test.YtineniimpdjpnaaWKept
import Derived.Test.YtineniimpdjpnaaWShare
import Derived.Test.YtineniimpdjpnaaWN
import Derived.Test.YtineniimpdjpnaaWFootNe
import Derived.Test.YtineniimpdjpnaaWAt
import Derived.Test.YtineniimpdjpnaaWEqStruct
import Derived.Test.YtineniimpdjpnaaWRepsOne
import Derived.Test.YtineniimpdjpnaaWInv
import Derived.Test.YtineniimpdjpnaaWInvWords
import Derived.Test.YtineniimpdjpnaaWGuard
import Derived.Test.YtineniimpdjpnaaWNEv
import Derived.Test.YtineniimpdjpnaaWMore
namespace Go.Proofs.Ytineniimpdjpnaa.PFnExactRunHold
open Go.RowKit Go.Proofs.YtineniimpdjpnaaW.PrintWords Go.Proofs.YtineniimpdjpnaaW.PrintLast Go.Proofs.YtineniimpdjpnaaW.PrintMore
attribute [local go_sem] max2_int min2_int max_two min_two max_three min_three max_four min_four  -- for this text's walks alone
set_option linter.unusedVariables false
set_option linter.unusedSimpArgs false



def errW : Option Int → Value
 | none => .nilIface
 | some c => .iface 0 (.int .i64 c)
theorem errW_none : errW none = .nilIface := rfl
theorem errW_some (c : Int) : errW (some c) = .iface 0 (.int .i64 c) := rfl

theorem info3 : (Try.prog.info? 3).map (fun i => (i.zero, i.size, i.bytes)) = some (some (.int .i64 0), 1, 8) := by kernel_rfl
-- the values' own types

end Go.Proofs.Ytineniimpdjpnaa.PFnExactRunHold
