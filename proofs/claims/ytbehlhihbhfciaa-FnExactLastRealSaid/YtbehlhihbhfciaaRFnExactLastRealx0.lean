-- Written by a program of this session out of the loaded functions' print; helper lemmas as print.sh lays them.
import Derived.Test.YtbehlhihbhfciaaProg
import Derived.Below
import Derived.Deep.Draws
import Derived.Deep.AppendLies
import Derived.Maps.AppendAt
import Derived.OwnWalk
import Derived.Laws.BytesArg
import Derived.Laws.MakeOwn
import Derived.Laws.OwnMore
import Derived.Deep.OwnRows
import Derived.Tactics
import Derived.Lib.ConvBytes
import Derived.Laws.Slices
import Derived.WalkKit
import Derived.KernelRfl
import Derived.RowKit3
import Derived.Deep.LoopGhost
import Derived.Deep.QuietTactic
import Derived.BigQuiet
import Derived.WideLaws
import Derived.Deep.DeepCutAuto
import Derived.Deep.CutBlock
import Derived.Deep.RegionHeld3
import Derived.Laws.Rows
import Derived.Lib.AppendStr
import Derived.ArgAppend
import Derived.Laws.IdiomCopy
import Derived.OrdersHeld
import Derived.Laws.BitsLemmas
import Derived.RowKit
import Derived.Test.YtbehlhihbhfciaaF
import Derived.Test.YtbehlhihbhfciaaWWords
import Derived.Test.YtbehlhihbhfciaaWLast
import Derived.Test.YtbehlhihbhfciaaWTab
import Derived.Test.YtbehlhihbhfciaaWFour
import Derived.Test.YtbehlhihbhfciaaWQPut
import Derived.Test.YtbehlhihbhfciaaWApart
import Derived.Test.YtbehlhihbhfciaaWArr
import Derived.Test.YtbehlhihbhfciaaWZeros
import Derived.Test.YtbehlhihbhfciaaWFoot
import Derived.Test.YtbehlhihbhfciaaWKept
import Derived.Test.YtbehlhihbhfciaaWShare
import Derived.Test.YtbehlhihbhfciaaWN
import Derived.Test.YtbehlhihbhfciaaWFootNe
import Derived.Test.YtbehlhihbhfciaaWAt
import Derived.Test.YtbehlhihbhfciaaWEqStruct
import Derived.Test.YtbehlhihbhfciaaWRepsOne
import Derived.Test.YtbehlhihbhfciaaWInv
import Derived.Test.YtbehlhihbhfciaaWInvWords
import Derived.Test.YtbehlhihbhfciaaWGuard
import Derived.Test.YtbehlhihbhfciaaWNEv
import Derived.Test.YtbehlhihbhfciaaWMore
namespace Go.Proofs.Ytbehlhihbhfciaa.PFnExactLastReal
open Go.RowKit Go.Proofs.YtbehlhihbhfciaaW.PrintWords Go.Proofs.YtbehlhihbhfciaaW.PrintLast Go.Proofs.YtbehlhihbhfciaaW.PrintMore
attribute [local go_sem] max2_int min2_int max_two min_two max_three min_three max_four min_four go_fneg go_fadd go_fsub go_fmul go_fquo go_fmax go_fmin go_fconv go_bits go_frombits  -- for this text's walks alone
set_option linter.unusedVariables false
set_option linter.unusedSimpArgs false



def errW : Option Int → Value
  | none => .nilIface
  | some c => .iface 0 (.int .i64 c)
theorem errW_none : errW none = .nilIface := rfl
theorem errW_some (c : Int) : errW (some c) = .iface 0 (.int .i64 c) := rfl

-- the values' own types

end Go.Proofs.Ytbehlhihbhfciaa.PFnExactLastReal
