-- PRINTED by print.py (a twelfth state) out of the translation. Not trusted: Lean checks it.
import Derived.Test.YtiaakolalhdelaaProg
import Derived.Below
import Derived.Deep.Draws
import Derived.Deep.AppendLies
import Derived.Maps.AppendAt
import Derived.OwnWalk
import Derived.Laws.BytesArg
import Derived.Laws.MakeOwn
import Derived.Laws.OwnMore
import Derived.Deep.OwnRows
import Derived.Tactics
import Derived.Lib.ConvBytes
import Derived.Laws.Slices
import Derived.WalkKit
import Derived.KernelRfl
import Derived.RowKit3
import Derived.Deep.LoopGhost
import Derived.Deep.QuietTactic
import Derived.BigQuiet
import Derived.WideLaws
import Derived.Deep.DeepCutAuto
import Derived.Deep.CutBlock
import Derived.Deep.RegionHeld3
import Derived.Laws.Rows
import Derived.Lib.AppendStr
import Derived.ArgAppend
import Derived.Laws.IdiomCopy
import Derived.OrdersHeld
import Derived.Laws.BitsLemmas
import Derived.RowKit
import Derived.Test.YtiaakolalhdelaaWWords
import Derived.Test.YtiaakolalhdelaaWLast
import Derived.Test.YtiaakolalhdelaaWTab
import Derived.Test.YtiaakolalhdelaaWFour
import Derived.Test.YtiaakolalhdelaaWQPut
import Derived.Test.YtiaakolalhdelaaWApart
import Derived.Test.YtiaakolalhdelaaWArr
import Derived.Test.YtiaakolalhdelaaWZeros
import Derived.Test.YtiaakolalhdelaaWFoot
import Derived.Test.YtiaakolalhdelaaWKept
import Derived.Test.YtiaakolalhdelaaWShare
import Derived.Test.YtiaakolalhdelaaWN
import Derived.Test.YtiaakolalhdelaaWFootNe
import Derived.Test.YtiaakolalhdelaaWAt
import Derived.Test.YtiaakolalhdelaaWEqStruct
import Derived.Test.YtiaakolalhdelaaWRepsOne
import Derived.Test.YtiaakolalhdelaaWInv
import Derived.Test.YtiaakolalhdelaaWInvWords
import Derived.Test.YtiaakolalhdelaaWGuard
import Derived.Test.YtiaakolalhdelaaWNEv
import Derived.Test.YtiaakolalhdelaaWMore
namespace Go.Proofs.Ytiaakolalhdelaa.PL17M
open Go.RowKit Go.Proofs.YtiaakolalhdelaaW.PrintWords Go.Proofs.YtiaakolalhdelaaW.PrintLast Go.Proofs.YtiaakolalhdelaaW.PrintMore
attribute [local go_sem] max2_int min2_int max_two min_two max_three min_three max_four min_four   -- for this text's walks alone
set_option linter.unusedVariables false
set_option linter.unusedSimpArgs false



def errW : Option Int → Value
  | none => .nilIface
  | some c => .iface 0 (.int .i64 c)
theorem errW_none : errW none = .nilIface := rfl
theorem errW_some (c : Int) : errW (some c) = .iface 0 (.int .i64 c) := rfl

theorem info3 : (Try.prog.info? 3).map (fun i => (i.zero, i.size, i.bytes)) = some (some (.int .i64 0), 1, 8) := by kernel_rfl
-- the values' own types

end Go.Proofs.Ytiaakolalhdelaa.PL17M
