-- Written by a program of this session out of the loaded functions' print; helper lemmas as print.sh lays them.
import Derived.Test.YtbhnnobpjmnngaaProg
import Derived.Below
import Derived.Deep.Draws
import Derived.Deep.AppendLies
import Derived.Maps.AppendAt
import Derived.OwnWalk
import Derived.Laws.BytesArg
import Derived.Laws.MakeOwn
import Derived.Laws.OwnMore
import Derived.Deep.OwnRows
import Derived.Tactics
import Derived.Lib.ConvBytes
import Derived.Laws.Slices
import Derived.WalkKit
import Derived.KernelRfl
import Derived.RowKit3
import Derived.Deep.LoopGhost
import Derived.Deep.QuietTactic
import Derived.BigQuiet
import Derived.WideLaws
import Derived.Deep.DeepCutAuto
import Derived.Deep.CutBlock
import Derived.Deep.RegionHeld3
import Derived.Laws.Rows
import Derived.Lib.AppendStr
import Derived.ArgAppend
import Derived.Laws.IdiomCopy
import Derived.OrdersHeld
import Derived.Laws.BitsLemmas
import Derived.RowKit
import Derived.Test.YtbhnnobpjmnngaaF
import Derived.Test.YtbhnnobpjmnngaaWWords
import Derived.Test.YtbhnnobpjmnngaaWLast
import Derived.Test.YtbhnnobpjmnngaaWTab
import Derived.Test.YtbhnnobpjmnngaaWFour
import Derived.Test.YtbhnnobpjmnngaaWQPut
import Derived.Test.YtbhnnobpjmnngaaWApart
import Derived.Test.YtbhnnobpjmnngaaWArr
import Derived.Test.YtbhnnobpjmnngaaWZeros
import Derived.Test.YtbhnnobpjmnngaaWFoot
import Derived.Test.YtbhnnobpjmnngaaWKept
import Derived.Test.YtbhnnobpjmnngaaWShare
import Derived.Test.YtbhnnobpjmnngaaWN
import Derived.Test.YtbhnnobpjmnngaaWFootNe
import Derived.Test.YtbhnnobpjmnngaaWAt
import Derived.Test.YtbhnnobpjmnngaaWEqStruct
import Derived.Test.YtbhnnobpjmnngaaWRepsOne
import Derived.Test.YtbhnnobpjmnngaaWInv
import Derived.Test.YtbhnnobpjmnngaaWInvWords
import Derived.Test.YtbhnnobpjmnngaaWGuard
import Derived.Test.YtbhnnobpjmnngaaWNEv
import Derived.Test.YtbhnnobpjmnngaaWMore
namespace Go.Proofs.Ytbhnnobpjmnngaa.PFnJoins
open Go.RowKit Go.Proofs.YtbhnnobpjmnngaaW.PrintWords Go.Proofs.YtbhnnobpjmnngaaW.PrintLast Go.Proofs.YtbhnnobpjmnngaaW.PrintMore
attribute [local go_sem] max2_int min2_int max_two min_two max_three min_three max_four min_four go_fstore go_fneg go_fadd go_fsub go_fmul go_fquo go_fmax go_fmin go_fconv go_bits go_frombits  -- for this text's walks alone
set_option linter.unusedVariables false
set_option linter.unusedSimpArgs false



def errW : Option Int → Value
 | none => .nilIface
 | some c => .iface 0 (.int .i64 c)
theorem errW_none : errW none = .nilIface := rfl
theorem errW_some (c : Int) : errW (some c) = .iface 0 (.int .i64 c) := rfl

theorem info33 : (Try.prog.info? 33).map (fun i => (i.zero, i.size, i.bytes)) = some (some (.float .f64 0), 1, 8) := by kernel_rfl
-- the values' own types

end Go.Proofs.Ytbhnnobpjmnngaa.PFnJoins
