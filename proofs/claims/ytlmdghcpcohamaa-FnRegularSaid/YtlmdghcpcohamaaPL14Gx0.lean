-- PRINTED by print.py (a twelfth state) out of the translation. Not trusted: Lean checks it.
import Derived.Test.YtlmdghcpcohamaaProg
import Derived.Below
import Derived.Deep.Draws
import Derived.Deep.AppendLies
import Derived.Maps.AppendAt
import Derived.OwnWalk
import Derived.Laws.BytesArg
import Derived.Laws.MakeOwn
import Derived.Laws.OwnMore
import Derived.Deep.OwnRows
import Derived.Tactics
import Derived.Lib.ConvBytes
import Derived.Laws.Slices
import Derived.WalkKit
import Derived.KernelRfl
import Derived.RowKit3
import Derived.Deep.LoopGhost
import Derived.Deep.QuietTactic
import Derived.BigQuiet
import Derived.WideLaws
import Derived.Deep.DeepCutAuto
import Derived.Deep.CutBlock
import Derived.Deep.RegionHeld3
import Derived.Laws.Rows
import Derived.Lib.AppendStr
import Derived.ArgAppend
import Derived.Laws.IdiomCopy
import Derived.OrdersHeld
import Derived.Laws.BitsLemmas
import Derived.RowKit
import Derived.Test.YtlmdghcpcohamaaWWords
import Derived.Test.YtlmdghcpcohamaaWLast
import Derived.Test.YtlmdghcpcohamaaWTab
import Derived.Test.YtlmdghcpcohamaaWFour
import Derived.Test.YtlmdghcpcohamaaWQPut
import Derived.Test.YtlmdghcpcohamaaWApart
import Derived.Test.YtlmdghcpcohamaaWArr
import Derived.Test.YtlmdghcpcohamaaWZeros
import Derived.Test.YtlmdghcpcohamaaWFoot
import Derived.Test.YtlmdghcpcohamaaWKept
import Derived.Test.YtlmdghcpcohamaaWShare
import Derived.Test.YtlmdghcpcohamaaWN
import Derived.Test.YtlmdghcpcohamaaWFootNe
import Derived.Test.YtlmdghcpcohamaaWAt
import Derived.Test.YtlmdghcpcohamaaWEqStruct
import Derived.Test.YtlmdghcpcohamaaWRepsOne
import Derived.Test.YtlmdghcpcohamaaWInv
import Derived.Test.YtlmdghcpcohamaaWInvWords
import Derived.Test.YtlmdghcpcohamaaWGuard
import Derived.Test.YtlmdghcpcohamaaWNEv
import Derived.Test.YtlmdghcpcohamaaWMore
namespace Go.Proofs.Ytlmdghcpcohamaa.PL14G
open Go.RowKit Go.Proofs.YtlmdghcpcohamaaW.PrintWords Go.Proofs.YtlmdghcpcohamaaW.PrintLast Go.Proofs.YtlmdghcpcohamaaW.PrintMore
attribute [local go_sem] max2_int min2_int max_two min_two max_three min_three max_four min_four   -- for this text's walks alone
set_option linter.unusedVariables false
set_option linter.unusedSimpArgs false



def errW : Option Int → Value
  | none => .nilIface
  | some c => .iface 0 (.int .i64 c)
theorem errW_none : errW none = .nilIface := rfl
theorem errW_some (c : Int) : errW (some c) = .iface 0 (.int .i64 c) := rfl

theorem info3 : (Try.prog.info? 3).map (fun i => (i.zero, i.size, i.bytes)) = some (some (.int .i64 0), 1, 8) := by kernel_rfl
-- the values' own types

end Go.Proofs.Ytlmdghcpcohamaa.PL14G
