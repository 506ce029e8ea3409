/- Words of the machine side, those alone that this claim reaches. No condition beyond those that each theorem names. -/
import Derived.Test.YtlmdghcpcohamaaVFnExactMakeScheduleWTab
/-! ### 56. Four, five, six operations that may come up next, in any order -/
namespace Go.Proofs.YtlmdghcpcohamaaW.PrintLast
section
variable {P : Program} {ops : Array Oper} {Q : Exit → Act → World → Prop} {md : Region.Mode} {S : World → Prop} {ds : List Nat} {T : Bool × List (List Nat × List Nat)}
end
end Go.Proofs.YtlmdghcpcohamaaW.PrintLast
