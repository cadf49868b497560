-- PRINTED BY print.sh 35421559b90ae4d0a3588c463048766b98c2df88dd9212a6774a882060cdf62d: not written by this session
import Derived.Test.YtlfejohlehkbgaaWInv
import Derived.Test.YtlfejohlehkbgaaWFootNe
namespace Go.Proofs.YtlfejohlehkbgaaW.PrintWords
open Go.RowKit
end Go.Proofs.YtlfejohlehkbgaaW.PrintWords
namespace Go.Proofs.YtlfejohlehkbgaaW.PrintLast
section
variable {ops : Array Oper} {a : Act} {o og : Oper} {g : Nat} {t : Tmp} {u : Bool}
end
end Go.Proofs.YtlfejohlehkbgaaW.PrintLast
