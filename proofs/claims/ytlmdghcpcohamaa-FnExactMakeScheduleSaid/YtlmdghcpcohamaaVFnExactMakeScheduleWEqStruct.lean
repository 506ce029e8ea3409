/- Words of the machine side, those alone that this claim reaches. No condition beyond those that each theorem names. -/
import Derived.Test.YtlmdghcpcohamaaVFnExactMakeScheduleWWords
import Derived.Laws.StructEq
/-! ### 53. '==' of structs as_ one Bool -/
namespace Go.Proofs.YtlmdghcpcohamaaW.PrintWords
open Go.RowKit
section
variable {P : Program} {d : Nat} {xs ys : Array Value} {f : Field} {fs : List Field} {a b : Value} {r s : Bool} {w : World}
end
end Go.Proofs.YtlmdghcpcohamaaW.PrintWords
