/- Words of the machine side, those alone that this claim reaches. No condition beyond those that each theorem names. -/
import Derived.Test.YtlmdghcpcohamaaVFnExactMakeScheduleWInv
import Derived.Test.YtlmdghcpcohamaaVFnExactMakeScheduleWFootNe
namespace Go.Proofs.YtlmdghcpcohamaaW.PrintWords
open Go.RowKit
end Go.Proofs.YtlmdghcpcohamaaW.PrintWords
namespace Go.Proofs.YtlmdghcpcohamaaW.PrintLast
section
variable {ops : Array Oper} {a : Act} {o og : Oper} {g : Nat} {t : Tmp} {u : Bool}
end
end Go.Proofs.YtlmdghcpcohamaaW.PrintLast
