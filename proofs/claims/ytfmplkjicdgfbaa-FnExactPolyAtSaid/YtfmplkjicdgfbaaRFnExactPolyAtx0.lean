-- Written by a program of this session out of the loaded functions' print; helper lemmas as print.sh lays them.
import Derived.Test.YtfmplkjicdgfbaaProg
import Derived.Below
import Derived.Deep.Draws
import Derived.Deep.AppendLies
import Derived.Maps.AppendAt
import Derived.OwnWalk
import Derived.Laws.BytesArg
import Derived.Laws.MakeOwn
import Derived.Laws.OwnMore
import Derived.Deep.OwnRows
import Derived.Tactics
import Derived.Lib.ConvBytes
import Derived.Laws.Slices
import Derived.WalkKit
import Derived.KernelRfl
import Derived.RowKit3
import Derived.Deep.LoopGhost
import Derived.Deep.QuietTactic
import Derived.BigQuiet
import Derived.WideLaws
import Derived.Deep.DeepCutAuto
import Derived.Deep.CutBlock
import Derived.Deep.RegionHeld3
import Derived.Laws.Rows
import Derived.Lib.AppendStr
import Derived.ArgAppend
import Derived.Laws.IdiomCopy
import Derived.OrdersHeld
import Derived.Laws.BitsLemmas
import Derived.RowKit
import Derived.Test.YtfmplkjicdgfbaaF
import Derived.Test.YtfmplkjicdgfbaaWWords
import Derived.Test.YtfmplkjicdgfbaaWLast
import Derived.Test.YtfmplkjicdgfbaaWTab
import Derived.Test.YtfmplkjicdgfbaaWFour
import Derived.Test.YtfmplkjicdgfbaaWQPut
import Derived.Test.YtfmplkjicdgfbaaWApart
import Derived.Test.YtfmplkjicdgfbaaWArr
import Derived.Test.YtfmplkjicdgfbaaWZeros
import Derived.Test.YtfmplkjicdgfbaaWFoot
import Derived.Test.YtfmplkjicdgfbaaWKept
import Derived.Test.YtfmplkjicdgfbaaWShare
import Derived.Test.YtfmplkjicdgfbaaWN
import Derived.Test.YtfmplkjicdgfbaaWFootNe
import Derived.Test.YtfmplkjicdgfbaaWAt
import Derived.Test.YtfmplkjicdgfbaaWEqStruct
import Derived.Test.YtfmplkjicdgfbaaWRepsOne
import Derived.Test.YtfmplkjicdgfbaaWInv
import Derived.Test.YtfmplkjicdgfbaaWInvWords
import Derived.Test.YtfmplkjicdgfbaaWGuard
import Derived.Test.YtfmplkjicdgfbaaWNEv
import Derived.Test.YtfmplkjicdgfbaaWMore
namespace Go.Proofs.Ytfmplkjicdgfbaa.PFnExactPolyAt
open Go.RowKit Go.Proofs.YtfmplkjicdgfbaaW.PrintWords Go.Proofs.YtfmplkjicdgfbaaW.PrintLast Go.Proofs.YtfmplkjicdgfbaaW.PrintMore
attribute [local go_sem] max2_int min2_int max_two min_two max_three min_three max_four min_four go_fstore go_fneg go_fadd go_fsub go_fmul go_fquo go_fmax go_fmin go_fconv go_bits go_frombits  -- for this text's walks alone
set_option linter.unusedVariables false
set_option linter.unusedSimpArgs false



def errW : Option Int → Value
  | none => .nilIface
  | some c => .iface 0 (.int .i64 c)
theorem errW_none : errW none = .nilIface := rfl
theorem errW_some (c : Int) : errW (some c) = .iface 0 (.int .i64 c) := rfl

theorem info22 : (Try.prog.info? 22).map (fun i => (i.zero, i.size, i.bytes)) = some (some (.float .f64 0), 1, 8) := by kernel_rfl
-- the values' own types

end Go.Proofs.Ytfmplkjicdgfbaa.PFnExactPolyAt
