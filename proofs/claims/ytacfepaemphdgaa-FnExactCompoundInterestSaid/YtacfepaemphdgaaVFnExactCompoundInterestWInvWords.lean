/- Words of the machine side, those alone that this claim reaches. No condition beyond those that each theorem names. -/
import Derived.Test.YtacfepaemphdgaaVFnExactCompoundInterestWInv
import Derived.Test.YtacfepaemphdgaaVFnExactCompoundInterestWFootNe
namespace Go.Proofs.YtacfepaemphdgaaW.PrintWords
open Go.RowKit
end Go.Proofs.YtacfepaemphdgaaW.PrintWords
namespace Go.Proofs.YtacfepaemphdgaaW.PrintLast
section
variable {ops : Array Oper} {a : Act} {o og : Oper} {g : Nat} {t : Tmp} {u : Bool}
end
end Go.Proofs.YtacfepaemphdgaaW.PrintLast
