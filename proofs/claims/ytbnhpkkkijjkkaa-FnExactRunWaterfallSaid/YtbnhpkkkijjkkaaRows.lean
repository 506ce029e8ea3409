/-
  No cell of these rows narrows 'for every input' (looked for: loops, veiled, ifaces, maps, wideKeys, modest, calm, conditions, laid).
  DERIVED. THE GIVEN ROWS OF THIS SEAT. 12 by the template 'for every input the law returns true; each argument reads behind the call as it read before'; 0 by the template 'total and deterministic' (their statements: YtbnhpkkkijjkkaaTotals.lean).
  GIVEN WITH THE SEED: the statements are not yours to turn. If you find one false, say at which input.
  Laid BY PROGRAM, IN A SANDBOX (cutbox-rows.mjs): the forced cells as the released guide's own fill.sh prints them over the translation 14abad93da2cfef1… (all of the seat's roots in one cut). By AI agents, Wed Nov 11 2026. No macro, syntax, notation, axiom, sorry.
-/
import Derived.Test.YtbnhpkkkijjkkaaChecked
import GoSem.Claim
import GoSem.ClaimJoined
import GoSem.ClaimMapViews
import Derived.JoinedTies
import Derived.KernelRfl
namespace Go.Proofs.Ytbnhpkkkijjkkaa
/- THE CELL 'sum', in the pinned program and in every row, IS THE sha256 OF THE DUMP (.gsa) THAT YtbnhpkkkijjkkaaProg.lean LOADS. Nothing in Lean hashes anything: it is a label: what it is worth is what the hold of that sum in a sandbox is worth. -/
noncomputable def Try.pinned : Pinned := { name := "ytbnhpkkkijjkkaa", sum := "14abad93da2cfef1d23eb36c99c45da058ff44ece8efc095017fc3d5dc9d8f6a", checked := Try.checked }
namespace Rows
def none {H : Type} : Left H := { results := [], args := [] }

/-- 'laws.FnExactPayableAmount': WHATEVER THE INPUT: true; the input reads as it did. -/
def fnExactPayableAmountSpec : ChangeSpec := { name := "fnExactPayableAmount", fn := fun _ => fun
  | [d1, d2, d3] => { results := [.lit (.bool true)], args := [d1, d2, d3] }
  | _ => none }
def fnExactPayableAmountRow : OpenClaim := { program := "ytbnhpkkkijjkkaa", sum := "14abad93da2cfef1d23eb36c99c45da058ff44ece8efc095017fc3d5dc9d8f6a", func := "loop.example/g00902/laws.FnExactPayableAmount", spec := "fnExactPayableAmount", apart := false }
def FnExactPayableAmountSaid : Prop := fnExactPayableAmountRow.holds Try.pinned (OpenSpec.ofChange fnExactPayableAmountSpec)

/-- ITS FALSE NEIGHBOUR: 'it returns false'. Refute it at one input. -/
def fnExactPayableAmountWrong : ChangeSpec := { name := "fnExactPayableAmount", fn := fun _ => fun
  | [d1, d2, d3] => { results := [.lit (.bool false)], args := [d1, d2, d3] }
  | _ => none }
def FnExactPayableAmountWrongFalsely : Prop := fnExactPayableAmountRow.holds Try.pinned (OpenSpec.ofChange fnExactPayableAmountWrong)

/-- 'laws.FnExactAfterCollateral': WHATEVER THE INPUT: true; the input reads as it did. -/
def fnExactAfterCollateralSpec : ChangeSpec := { name := "fnExactAfterCollateral", fn := fun _ => fun
  | [d1, d2, d3] => { results := [.lit (.bool true)], args := [d1, d2, d3] }
  | _ => none }
def fnExactAfterCollateralRow : OpenClaim := { program := "ytbnhpkkkijjkkaa", sum := "14abad93da2cfef1d23eb36c99c45da058ff44ece8efc095017fc3d5dc9d8f6a", func := "loop.example/g00902/laws.FnExactAfterCollateral", spec := "fnExactAfterCollateral", apart := false }
def FnExactAfterCollateralSaid : Prop := fnExactAfterCollateralRow.holds Try.pinned (OpenSpec.ofChange fnExactAfterCollateralSpec)

/-- ITS FALSE NEIGHBOUR: 'it returns false'. Refute it at one input. -/
def fnExactAfterCollateralWrong : ChangeSpec := { name := "fnExactAfterCollateral", fn := fun _ => fun
  | [d1, d2, d3] => { results := [.lit (.bool false)], args := [d1, d2, d3] }
  | _ => none }
def FnExactAfterCollateralWrongFalsely : Prop := fnExactAfterCollateralRow.holds Try.pinned (OpenSpec.ofChange fnExactAfterCollateralWrong)

/-- 'laws.FnExactIsValidTranches': WHATEVER THE INPUT: true; the input reads as it did. -/
def fnExactIsValidTranchesSpec : ChangeSpec := { name := "fnExactIsValidTranches", fn := fun _ => fun
  | [d] => { results := [.lit (.bool true)], args := [d] }
  | _ => none }
def fnExactIsValidTranchesRow : OpenClaim := { program := "ytbnhpkkkijjkkaa", sum := "14abad93da2cfef1d23eb36c99c45da058ff44ece8efc095017fc3d5dc9d8f6a", func := "loop.example/g00902/laws.FnExactIsValidTranches", spec := "fnExactIsValidTranches", apart := false }
def FnExactIsValidTranchesSaid : Prop := fnExactIsValidTranchesRow.holds Try.pinned (OpenSpec.ofChange fnExactIsValidTranchesSpec)

/-- ITS FALSE NEIGHBOUR: 'it returns false'. Refute it at one input. -/
def fnExactIsValidTranchesWrong : ChangeSpec := { name := "fnExactIsValidTranches", fn := fun _ => fun
  | [d] => { results := [.lit (.bool false)], args := [d] }
  | _ => none }
def FnExactIsValidTranchesWrongFalsely : Prop := fnExactIsValidTranchesRow.holds Try.pinned (OpenSpec.ofChange fnExactIsValidTranchesWrong)

/-- 'laws.FnExactCoverageOf': WHATEVER THE INPUT: true; the input reads as it did. -/
def fnExactCoverageOfSpec : ChangeSpec := { name := "fnExactCoverageOf", fn := fun _ => fun
  | [d1, d2, d3] => { results := [.lit (.bool true)], args := [d1, d2, d3] }
  | _ => none }
def fnExactCoverageOfRow : OpenClaim := { program := "ytbnhpkkkijjkkaa", sum := "14abad93da2cfef1d23eb36c99c45da058ff44ece8efc095017fc3d5dc9d8f6a", func := "loop.example/g00902/laws.FnExactCoverageOf", spec := "fnExactCoverageOf", apart := false }
def FnExactCoverageOfSaid : Prop := fnExactCoverageOfRow.holds Try.pinned (OpenSpec.ofChange fnExactCoverageOfSpec)

/-- ITS FALSE NEIGHBOUR: 'it returns false'. Refute it at one input. -/
def fnExactCoverageOfWrong : ChangeSpec := { name := "fnExactCoverageOf", fn := fun _ => fun
  | [d1, d2, d3] => { results := [.lit (.bool false)], args := [d1, d2, d3] }
  | _ => none }
def FnExactCoverageOfWrongFalsely : Prop := fnExactCoverageOfRow.holds Try.pinned (OpenSpec.ofChange fnExactCoverageOfWrong)

/-- 'laws.FnExactTurboRank': WHATEVER THE INPUT: true; the input reads as it did. -/
def fnExactTurboRankSpec : ChangeSpec := { name := "fnExactTurboRank", fn := fun _ => fun
  | [d1, d2, d3] => { results := [.lit (.bool true)], args := [d1, d2, d3] }
  | _ => none }
def fnExactTurboRankRow : OpenClaim := { program := "ytbnhpkkkijjkkaa", sum := "14abad93da2cfef1d23eb36c99c45da058ff44ece8efc095017fc3d5dc9d8f6a", func := "loop.example/g00902/laws.FnExactTurboRank", spec := "fnExactTurboRank", unfollowed := true, recurses := true, apart := false }
def FnExactTurboRankSaid : Prop := fnExactTurboRankRow.holds Try.pinned (OpenSpec.ofChange fnExactTurboRankSpec)

/-- ITS FALSE NEIGHBOUR: 'it returns false'. Refute it at one input. -/
def fnExactTurboRankWrong : ChangeSpec := { name := "fnExactTurboRank", fn := fun _ => fun
  | [d1, d2, d3] => { results := [.lit (.bool false)], args := [d1, d2, d3] }
  | _ => none }
def FnExactTurboRankWrongFalsely : Prop := fnExactTurboRankRow.holds Try.pinned (OpenSpec.ofChange fnExactTurboRankWrong)

/-- 'laws.FnCoverage': WHATEVER THE INPUT: true; the input reads as it did. -/
def fnCoverageSpec : ChangeSpec := { name := "fnCoverage", fn := fun _ => fun
  | [d] => { results := [.lit (.bool true)], args := [d] }
  | _ => none }
def fnCoverageRow : OpenClaim := { program := "ytbnhpkkkijjkkaa", sum := "14abad93da2cfef1d23eb36c99c45da058ff44ece8efc095017fc3d5dc9d8f6a", func := "loop.example/g00902/laws.FnCoverage", spec := "fnCoverage", unfollowed := true, recurses := true, apart := false }
def FnCoverageSaid : Prop := fnCoverageRow.holds Try.pinned (OpenSpec.ofChange fnCoverageSpec)

/-- ITS FALSE NEIGHBOUR: 'it returns false'. Refute it at one input. -/
def fnCoverageWrong : ChangeSpec := { name := "fnCoverage", fn := fun _ => fun
  | [d] => { results := [.lit (.bool false)], args := [d] }
  | _ => none }
def FnCoverageWrongFalsely : Prop := fnCoverageRow.holds Try.pinned (OpenSpec.ofChange fnCoverageWrong)

/-- 'laws.FnExactDistributeCash': WHATEVER THE INPUT: true; the input reads as it did. -/
def fnExactDistributeCashSpec : ChangeSpec := { name := "fnExactDistributeCash", fn := fun _ => fun
  | [d1, d2] => { results := [.lit (.bool true)], args := [d1, d2] }
  | _ => none }
def fnExactDistributeCashRow : OpenClaim := { program := "ytbnhpkkkijjkkaa", sum := "14abad93da2cfef1d23eb36c99c45da058ff44ece8efc095017fc3d5dc9d8f6a", func := "loop.example/g00902/laws.FnExactDistributeCash", spec := "fnExactDistributeCash", unfollowed := true, recurses := true, apart := false }
def FnExactDistributeCashSaid : Prop := fnExactDistributeCashRow.holds Try.pinned (OpenSpec.ofChange fnExactDistributeCashSpec)

/-- ITS FALSE NEIGHBOUR: 'it returns false'. Refute it at one input. -/
def fnExactDistributeCashWrong : ChangeSpec := { name := "fnExactDistributeCash", fn := fun _ => fun
  | [d1, d2] => { results := [.lit (.bool false)], args := [d1, d2] }
  | _ => none }
def FnExactDistributeCashWrongFalsely : Prop := fnExactDistributeCashRow.holds Try.pinned (OpenSpec.ofChange fnExactDistributeCashWrong)

/-- 'laws.FnExactAllocateLoss': WHATEVER THE INPUT: true; the input reads as it did. -/
def fnExactAllocateLossSpec : ChangeSpec := { name := "fnExactAllocateLoss", fn := fun _ => fun
  | [d1, d2] => { results := [.lit (.bool true)], args := [d1, d2] }
  | _ => none }
def fnExactAllocateLossRow : OpenClaim := { program := "ytbnhpkkkijjkkaa", sum := "14abad93da2cfef1d23eb36c99c45da058ff44ece8efc095017fc3d5dc9d8f6a", func := "loop.example/g00902/laws.FnExactAllocateLoss", spec := "fnExactAllocateLoss", unfollowed := true, recurses := true, apart := false }
def FnExactAllocateLossSaid : Prop := fnExactAllocateLossRow.holds Try.pinned (OpenSpec.ofChange fnExactAllocateLossSpec)

/-- ITS FALSE NEIGHBOUR: 'it returns false'. Refute it at one input. -/
def fnExactAllocateLossWrong : ChangeSpec := { name := "fnExactAllocateLoss", fn := fun _ => fun
  | [d1, d2] => { results := [.lit (.bool false)], args := [d1, d2] }
  | _ => none }
def FnExactAllocateLossWrongFalsely : Prop := fnExactAllocateLossRow.holds Try.pinned (OpenSpec.ofChange fnExactAllocateLossWrong)

/-- 'laws.FnWaterfall': WHATEVER THE INPUT: true; the input reads as it did. -/
def fnWaterfallSpec : ChangeSpec := { name := "fnWaterfall", fn := fun _ => fun
  | [d] => { results := [.lit (.bool true)], args := [d] }
  | _ => none }
def fnWaterfallRow : OpenClaim := { program := "ytbnhpkkkijjkkaa", sum := "14abad93da2cfef1d23eb36c99c45da058ff44ece8efc095017fc3d5dc9d8f6a", func := "loop.example/g00902/laws.FnWaterfall", spec := "fnWaterfall", unfollowed := true, recurses := true, apart := false }
def FnWaterfallSaid : Prop := fnWaterfallRow.holds Try.pinned (OpenSpec.ofChange fnWaterfallSpec)

/-- ITS FALSE NEIGHBOUR: 'it returns false'. Refute it at one input. -/
def fnWaterfallWrong : ChangeSpec := { name := "fnWaterfall", fn := fun _ => fun
  | [d] => { results := [.lit (.bool false)], args := [d] }
  | _ => none }
def FnWaterfallWrongFalsely : Prop := fnWaterfallRow.holds Try.pinned (OpenSpec.ofChange fnWaterfallWrong)

/-- 'laws.FnExactRecoveryRates': WHATEVER THE INPUT: true; the input reads as it did. -/
def fnExactRecoveryRatesSpec : ChangeSpec := { name := "fnExactRecoveryRates", fn := fun _ => fun
  | [d1, d2] => { results := [.lit (.bool true)], args := [d1, d2] }
  | _ => none }
def fnExactRecoveryRatesRow : OpenClaim := { program := "ytbnhpkkkijjkkaa", sum := "14abad93da2cfef1d23eb36c99c45da058ff44ece8efc095017fc3d5dc9d8f6a", func := "loop.example/g00902/laws.FnExactRecoveryRates", spec := "fnExactRecoveryRates", unfollowed := true, recurses := true, apart := false }
def FnExactRecoveryRatesSaid : Prop := fnExactRecoveryRatesRow.holds Try.pinned (OpenSpec.ofChange fnExactRecoveryRatesSpec)

/-- ITS FALSE NEIGHBOUR: 'it returns false'. Refute it at one input. -/
def fnExactRecoveryRatesWrong : ChangeSpec := { name := "fnExactRecoveryRates", fn := fun _ => fun
  | [d1, d2] => { results := [.lit (.bool false)], args := [d1, d2] }
  | _ => none }
def FnExactRecoveryRatesWrongFalsely : Prop := fnExactRecoveryRatesRow.holds Try.pinned (OpenSpec.ofChange fnExactRecoveryRatesWrong)

/-- 'laws.FnPeriods': WHATEVER THE INPUT: true; the input reads as it did. -/
def fnPeriodsSpec : ChangeSpec := { name := "fnPeriods", fn := fun _ => fun
  | [d] => { results := [.lit (.bool true)], args := [d] }
  | _ => none }
def fnPeriodsRow : OpenClaim := { program := "ytbnhpkkkijjkkaa", sum := "14abad93da2cfef1d23eb36c99c45da058ff44ece8efc095017fc3d5dc9d8f6a", func := "loop.example/g00902/laws.FnPeriods", spec := "fnPeriods", unfollowed := true, recurses := true, apart := false }
def FnPeriodsSaid : Prop := fnPeriodsRow.holds Try.pinned (OpenSpec.ofChange fnPeriodsSpec)

/-- ITS FALSE NEIGHBOUR: 'it returns false'. Refute it at one input. -/
def fnPeriodsWrong : ChangeSpec := { name := "fnPeriods", fn := fun _ => fun
  | [d] => { results := [.lit (.bool false)], args := [d] }
  | _ => none }
def FnPeriodsWrongFalsely : Prop := fnPeriodsRow.holds Try.pinned (OpenSpec.ofChange fnPeriodsWrong)

/-- 'laws.FnExactRunWaterfall': WHATEVER THE INPUT: true; the input reads as it did. -/
def fnExactRunWaterfallSpec : ChangeSpec := { name := "fnExactRunWaterfall", fn := fun _ => fun
  | [d1, d2] => { results := [.lit (.bool true)], args := [d1, d2] }
  | _ => none }
def fnExactRunWaterfallRow : OpenClaim := { program := "ytbnhpkkkijjkkaa", sum := "14abad93da2cfef1d23eb36c99c45da058ff44ece8efc095017fc3d5dc9d8f6a", func := "loop.example/g00902/laws.FnExactRunWaterfall", spec := "fnExactRunWaterfall", unfollowed := true, recurses := true, apart := false }
def FnExactRunWaterfallSaid : Prop := fnExactRunWaterfallRow.holds Try.pinned (OpenSpec.ofChange fnExactRunWaterfallSpec)

/-- ITS FALSE NEIGHBOUR: 'it returns false'. Refute it at one input. -/
def fnExactRunWaterfallWrong : ChangeSpec := { name := "fnExactRunWaterfall", fn := fun _ => fun
  | [d1, d2] => { results := [.lit (.bool false)], args := [d1, d2] }
  | _ => none }
def FnExactRunWaterfallWrongFalsely : Prop := fnExactRunWaterfallRow.holds Try.pinned (OpenSpec.ofChange fnExactRunWaterfallWrong)

/- THE SECOND FORM. 'bulk': how many values and letters a reading holds, each counted each time it is reached (what is shared counts as often as it is met; a slice's spare places count too). A statement '..UptoSaid' is the law's where the arguments, and the package variables that the reading takes, are together of bulk at most 1048576: NARROWER than '..Said'. Prove '..Said' where nothing that the law and all that it calls make is longer than what came in: it says more and counts as full. Else prove '..UptoSaid'. A law counts once. -/
mutual
def uptoBulk {H : Type} : DataW H → Nat
  | .lit (.string bytes) => bytes.length + 1
  | .lit _ => 1
  | .nil => 1
  | .ptr d => uptoBulk d + 1
  | .slice elems spare => uptoBulkAll elems + uptoBulkAll spare + 1
  | .agg parts => uptoBulkAll parts + 1
  | .iface _ d => uptoBulk d + 1
  | .map entries => uptoBulkEntries entries + 1
  | .held _ => 1
def uptoBulkAll {H : Type} : List (DataW H) → Nat
  | [] => 0
  | d :: r => uptoBulk d + uptoBulkAll r
def uptoBulkEntries {H : Type} : List (Lit × DataW H) → Nat
  | [] => 0
  | x :: r => uptoBulkEntry x + uptoBulkEntries r
def uptoBulkEntry {H : Type} : Lit × DataW H → Nat
  | (.string bytes, d) => bytes.length + uptoBulk d + 1
  | (_, d) => uptoBulk d + 1
 end
def uptoSmall : (H : Type) → List (DataW H) → Bool := fun _ ds => decide (uptoBulkAll ds ≤ 1048576)
def OpenSpec.upto (s : _root_.Go.ChangeSpec) : _root_.Go.OpenSpec := { _root_.Go.OpenSpec.ofChange s with cond := some uptoSmall }

/-- 'laws.FnExactPayableAmount', WHERE WHAT IT READS IS OF BULK AT MOST 1048576: true; the input reads as it did. -/
def fnExactPayableAmountUptoRow : OpenClaim := { program := "ytbnhpkkkijjkkaa", sum := "14abad93da2cfef1d23eb36c99c45da058ff44ece8efc095017fc3d5dc9d8f6a", func := "loop.example/g00902/laws.FnExactPayableAmount", spec := "fnExactPayableAmount", apart := false, narrowed := true }
def FnExactPayableAmountUptoSaid : Prop := fnExactPayableAmountUptoRow.holds Try.pinned (OpenSpec.upto fnExactPayableAmountSpec)

/-- 'laws.FnExactAfterCollateral', WHERE WHAT IT READS IS OF BULK AT MOST 1048576: true; the input reads as it did. -/
def fnExactAfterCollateralUptoRow : OpenClaim := { program := "ytbnhpkkkijjkkaa", sum := "14abad93da2cfef1d23eb36c99c45da058ff44ece8efc095017fc3d5dc9d8f6a", func := "loop.example/g00902/laws.FnExactAfterCollateral", spec := "fnExactAfterCollateral", apart := false, narrowed := true }
def FnExactAfterCollateralUptoSaid : Prop := fnExactAfterCollateralUptoRow.holds Try.pinned (OpenSpec.upto fnExactAfterCollateralSpec)

/-- 'laws.FnExactIsValidTranches', WHERE WHAT IT READS IS OF BULK AT MOST 1048576: true; the input reads as it did. -/
def fnExactIsValidTranchesUptoRow : OpenClaim := { program := "ytbnhpkkkijjkkaa", sum := "14abad93da2cfef1d23eb36c99c45da058ff44ece8efc095017fc3d5dc9d8f6a", func := "loop.example/g00902/laws.FnExactIsValidTranches", spec := "fnExactIsValidTranches", apart := false, narrowed := true }
def FnExactIsValidTranchesUptoSaid : Prop := fnExactIsValidTranchesUptoRow.holds Try.pinned (OpenSpec.upto fnExactIsValidTranchesSpec)

/-- 'laws.FnExactCoverageOf', WHERE WHAT IT READS IS OF BULK AT MOST 1048576: true; the input reads as it did. -/
def fnExactCoverageOfUptoRow : OpenClaim := { program := "ytbnhpkkkijjkkaa", sum := "14abad93da2cfef1d23eb36c99c45da058ff44ece8efc095017fc3d5dc9d8f6a", func := "loop.example/g00902/laws.FnExactCoverageOf", spec := "fnExactCoverageOf", apart := false, narrowed := true }
def FnExactCoverageOfUptoSaid : Prop := fnExactCoverageOfUptoRow.holds Try.pinned (OpenSpec.upto fnExactCoverageOfSpec)

/-- 'laws.FnExactTurboRank', WHERE WHAT IT READS IS OF BULK AT MOST 1048576: true; the input reads as it did. -/
def fnExactTurboRankUptoRow : OpenClaim := { program := "ytbnhpkkkijjkkaa", sum := "14abad93da2cfef1d23eb36c99c45da058ff44ece8efc095017fc3d5dc9d8f6a", func := "loop.example/g00902/laws.FnExactTurboRank", spec := "fnExactTurboRank", unfollowed := true, recurses := true, apart := false, narrowed := true }
def FnExactTurboRankUptoSaid : Prop := fnExactTurboRankUptoRow.holds Try.pinned (OpenSpec.upto fnExactTurboRankSpec)

/-- 'laws.FnCoverage', WHERE WHAT IT READS IS OF BULK AT MOST 1048576: true; the input reads as it did. -/
def fnCoverageUptoRow : OpenClaim := { program := "ytbnhpkkkijjkkaa", sum := "14abad93da2cfef1d23eb36c99c45da058ff44ece8efc095017fc3d5dc9d8f6a", func := "loop.example/g00902/laws.FnCoverage", spec := "fnCoverage", unfollowed := true, recurses := true, apart := false, narrowed := true }
def FnCoverageUptoSaid : Prop := fnCoverageUptoRow.holds Try.pinned (OpenSpec.upto fnCoverageSpec)

/-- 'laws.FnExactDistributeCash', WHERE WHAT IT READS IS OF BULK AT MOST 1048576: true; the input reads as it did. -/
def fnExactDistributeCashUptoRow : OpenClaim := { program := "ytbnhpkkkijjkkaa", sum := "14abad93da2cfef1d23eb36c99c45da058ff44ece8efc095017fc3d5dc9d8f6a", func := "loop.example/g00902/laws.FnExactDistributeCash", spec := "fnExactDistributeCash", unfollowed := true, recurses := true, apart := false, narrowed := true }
def FnExactDistributeCashUptoSaid : Prop := fnExactDistributeCashUptoRow.holds Try.pinned (OpenSpec.upto fnExactDistributeCashSpec)

/-- 'laws.FnExactAllocateLoss', WHERE WHAT IT READS IS OF BULK AT MOST 1048576: true; the input reads as it did. -/
def fnExactAllocateLossUptoRow : OpenClaim := { program := "ytbnhpkkkijjkkaa", sum := "14abad93da2cfef1d23eb36c99c45da058ff44ece8efc095017fc3d5dc9d8f6a", func := "loop.example/g00902/laws.FnExactAllocateLoss", spec := "fnExactAllocateLoss", unfollowed := true, recurses := true, apart := false, narrowed := true }
def FnExactAllocateLossUptoSaid : Prop := fnExactAllocateLossUptoRow.holds Try.pinned (OpenSpec.upto fnExactAllocateLossSpec)

/-- 'laws.FnWaterfall', WHERE WHAT IT READS IS OF BULK AT MOST 1048576: true; the input reads as it did. -/
def fnWaterfallUptoRow : OpenClaim := { program := "ytbnhpkkkijjkkaa", sum := "14abad93da2cfef1d23eb36c99c45da058ff44ece8efc095017fc3d5dc9d8f6a", func := "loop.example/g00902/laws.FnWaterfall", spec := "fnWaterfall", unfollowed := true, recurses := true, apart := false, narrowed := true }
def FnWaterfallUptoSaid : Prop := fnWaterfallUptoRow.holds Try.pinned (OpenSpec.upto fnWaterfallSpec)

/-- 'laws.FnExactRecoveryRates', WHERE WHAT IT READS IS OF BULK AT MOST 1048576: true; the input reads as it did. -/
def fnExactRecoveryRatesUptoRow : OpenClaim := { program := "ytbnhpkkkijjkkaa", sum := "14abad93da2cfef1d23eb36c99c45da058ff44ece8efc095017fc3d5dc9d8f6a", func := "loop.example/g00902/laws.FnExactRecoveryRates", spec := "fnExactRecoveryRates", unfollowed := true, recurses := true, apart := false, narrowed := true }
def FnExactRecoveryRatesUptoSaid : Prop := fnExactRecoveryRatesUptoRow.holds Try.pinned (OpenSpec.upto fnExactRecoveryRatesSpec)

/-- 'laws.FnPeriods', WHERE WHAT IT READS IS OF BULK AT MOST 1048576: true; the input reads as it did. -/
def fnPeriodsUptoRow : OpenClaim := { program := "ytbnhpkkkijjkkaa", sum := "14abad93da2cfef1d23eb36c99c45da058ff44ece8efc095017fc3d5dc9d8f6a", func := "loop.example/g00902/laws.FnPeriods", spec := "fnPeriods", unfollowed := true, recurses := true, apart := false, narrowed := true }
def FnPeriodsUptoSaid : Prop := fnPeriodsUptoRow.holds Try.pinned (OpenSpec.upto fnPeriodsSpec)

/-- 'laws.FnExactRunWaterfall', WHERE WHAT IT READS IS OF BULK AT MOST 1048576: true; the input reads as it did. -/
def fnExactRunWaterfallUptoRow : OpenClaim := { program := "ytbnhpkkkijjkkaa", sum := "14abad93da2cfef1d23eb36c99c45da058ff44ece8efc095017fc3d5dc9d8f6a", func := "loop.example/g00902/laws.FnExactRunWaterfall", spec := "fnExactRunWaterfall", unfollowed := true, recurses := true, apart := false, narrowed := true }
def FnExactRunWaterfallUptoSaid : Prop := fnExactRunWaterfallUptoRow.holds Try.pinned (OpenSpec.upto fnExactRunWaterfallSpec)

end Rows
end Go.Proofs.Ytbnhpkkkijjkkaa
