/-
  No cell of these rows narrows 'for every input' (looked for: loops, veiled, ifaces, maps, wideKeys, modest, calm, conditions, laid).
  DERIVED. THE GIVEN ROWS OF THIS SEAT. 10 by the template 'for every input the law returns true; each argument reads behind the call as it read before'; 0 by the template 'total and deterministic' (their statements: YtaobdjdmmhglaaaTotals.lean).
  GIVEN WITH THE SEED: the statements are not yours to turn. If you find one false, say at which input.
  Laid BY PROGRAM, IN A SANDBOX (cutbox-rows.mjs): the forced cells as the released guide's own fill.sh prints them over the translation 3865ab1758b0653f… (all of the seat's roots in one cut). By AI agents, Wed Nov 11 2026. No macro, syntax, notation, axiom, sorry.
-/
import Derived.Test.YtaobdjdmmhglaaaChecked
import GoSem.Claim
import GoSem.ClaimJoined
import GoSem.ClaimMapViews
import Derived.JoinedTies
import Derived.KernelRfl
namespace Go.Proofs.Ytaobdjdmmhglaaa
/- THE CELL 'sum', in the pinned program and in every row, IS THE sha256 OF THE DUMP (.gsa) THAT YtaobdjdmmhglaaaProg.lean LOADS. Nothing in Lean hashes anything: it is a label: what it is worth is what the hold of that sum in a sandbox is worth. -/
noncomputable def Try.pinned : Pinned := { name := "ytaobdjdmmhglaaa", sum := "3865ab1758b0653fa0b592a041b4f1bc9db8429c8cbc4b337576f665f9243612", checked := Try.checked }
namespace Rows
def none {H : Type} : Left H := { results := [], args := [] }

/-- 'laws.FnExactIsValidClaims': WHATEVER THE INPUT: true; the input reads as it did. -/
def fnExactIsValidClaimsSpec : ChangeSpec := { name := "fnExactIsValidClaims", fn := fun _ => fun
  | [d1, d2] => { results := [.lit (.bool true)], args := [d1, d2] }
  | _ => none }
def fnExactIsValidClaimsRow : OpenClaim := { program := "ytaobdjdmmhglaaa", sum := "3865ab1758b0653fa0b592a041b4f1bc9db8429c8cbc4b337576f665f9243612", func := "loop.example/g00902/laws.FnExactIsValidClaims", spec := "fnExactIsValidClaims", apart := false }
def FnExactIsValidClaimsSaid : Prop := fnExactIsValidClaimsRow.holds Try.pinned (OpenSpec.ofChange fnExactIsValidClaimsSpec)

/-- ITS FALSE NEIGHBOUR: 'it returns false'. Refute it at one input. -/
def fnExactIsValidClaimsWrong : ChangeSpec := { name := "fnExactIsValidClaims", fn := fun _ => fun
  | [d1, d2] => { results := [.lit (.bool false)], args := [d1, d2] }
  | _ => none }
def FnExactIsValidClaimsWrongFalsely : Prop := fnExactIsValidClaimsRow.holds Try.pinned (OpenSpec.ofChange fnExactIsValidClaimsWrong)

/-- 'laws.FnExactGrossAmount': WHATEVER THE INPUT: true; the input reads as it did. -/
def fnExactGrossAmountSpec : ChangeSpec := { name := "fnExactGrossAmount", fn := fun _ => fun
  | [d1, d2] => { results := [.lit (.bool true)], args := [d1, d2] }
  | _ => none }
def fnExactGrossAmountRow : OpenClaim := { program := "ytaobdjdmmhglaaa", sum := "3865ab1758b0653fa0b592a041b4f1bc9db8429c8cbc4b337576f665f9243612", func := "loop.example/g00902/laws.FnExactGrossAmount", spec := "fnExactGrossAmount", apart := false }
def FnExactGrossAmountSaid : Prop := fnExactGrossAmountRow.holds Try.pinned (OpenSpec.ofChange fnExactGrossAmountSpec)

/-- ITS FALSE NEIGHBOUR: 'it returns false'. Refute it at one input. -/
def fnExactGrossAmountWrong : ChangeSpec := { name := "fnExactGrossAmount", fn := fun _ => fun
  | [d1, d2] => { results := [.lit (.bool false)], args := [d1, d2] }
  | _ => none }
def FnExactGrossAmountWrongFalsely : Prop := fnExactGrossAmountRow.holds Try.pinned (OpenSpec.ofChange fnExactGrossAmountWrong)

/-- 'laws.FnExactNetPositions': WHATEVER THE INPUT: true; the input reads as it did. -/
def fnExactNetPositionsSpec : ChangeSpec := { name := "fnExactNetPositions", fn := fun _ => fun
  | [d1, d2] => { results := [.lit (.bool true)], args := [d1, d2] }
  | _ => none }
def fnExactNetPositionsRow : OpenClaim := { program := "ytaobdjdmmhglaaa", sum := "3865ab1758b0653fa0b592a041b4f1bc9db8429c8cbc4b337576f665f9243612", func := "loop.example/g00902/laws.FnExactNetPositions", spec := "fnExactNetPositions", apart := false }
def FnExactNetPositionsSaid : Prop := fnExactNetPositionsRow.holds Try.pinned (OpenSpec.ofChange fnExactNetPositionsSpec)

/-- ITS FALSE NEIGHBOUR: 'it returns false'. Refute it at one input. -/
def fnExactNetPositionsWrong : ChangeSpec := { name := "fnExactNetPositions", fn := fun _ => fun
  | [d1, d2] => { results := [.lit (.bool false)], args := [d1, d2] }
  | _ => none }
def FnExactNetPositionsWrongFalsely : Prop := fnExactNetPositionsRow.holds Try.pinned (OpenSpec.ofChange fnExactNetPositionsWrong)

/-- 'laws.FnExactBilateralNet': WHATEVER THE INPUT: true; the input reads as it did. -/
def fnExactBilateralNetSpec : ChangeSpec := { name := "fnExactBilateralNet", fn := fun _ => fun
  | [d1, d2] => { results := [.lit (.bool true)], args := [d1, d2] }
  | _ => none }
def fnExactBilateralNetRow : OpenClaim := { program := "ytaobdjdmmhglaaa", sum := "3865ab1758b0653fa0b592a041b4f1bc9db8429c8cbc4b337576f665f9243612", func := "loop.example/g00902/laws.FnExactBilateralNet", spec := "fnExactBilateralNet", apart := false }
def FnExactBilateralNetSaid : Prop := fnExactBilateralNetRow.holds Try.pinned (OpenSpec.ofChange fnExactBilateralNetSpec)

/-- ITS FALSE NEIGHBOUR: 'it returns false'. Refute it at one input. -/
def fnExactBilateralNetWrong : ChangeSpec := { name := "fnExactBilateralNet", fn := fun _ => fun
  | [d1, d2] => { results := [.lit (.bool false)], args := [d1, d2] }
  | _ => none }
def FnExactBilateralNetWrongFalsely : Prop := fnExactBilateralNetRow.holds Try.pinned (OpenSpec.ofChange fnExactBilateralNetWrong)

/-- 'laws.FnExactMultilateralNet': WHATEVER THE INPUT: true; the input reads as it did. -/
def fnExactMultilateralNetSpec : ChangeSpec := { name := "fnExactMultilateralNet", fn := fun _ => fun
  | [d1, d2] => { results := [.lit (.bool true)], args := [d1, d2] }
  | _ => none }
def fnExactMultilateralNetRow : OpenClaim := { program := "ytaobdjdmmhglaaa", sum := "3865ab1758b0653fa0b592a041b4f1bc9db8429c8cbc4b337576f665f9243612", func := "loop.example/g00902/laws.FnExactMultilateralNet", spec := "fnExactMultilateralNet", apart := false }
def FnExactMultilateralNetSaid : Prop := fnExactMultilateralNetRow.holds Try.pinned (OpenSpec.ofChange fnExactMultilateralNetSpec)

/-- ITS FALSE NEIGHBOUR: 'it returns false'. Refute it at one input. -/
def fnExactMultilateralNetWrong : ChangeSpec := { name := "fnExactMultilateralNet", fn := fun _ => fun
  | [d1, d2] => { results := [.lit (.bool false)], args := [d1, d2] }
  | _ => none }
def FnExactMultilateralNetWrongFalsely : Prop := fnExactMultilateralNetRow.holds Try.pinned (OpenSpec.ofChange fnExactMultilateralNetWrong)

/-- 'laws.FnExactSettleInOrder': WHATEVER THE INPUT: true; the input reads as it did. -/
def fnExactSettleInOrderSpec : ChangeSpec := { name := "fnExactSettleInOrder", fn := fun _ => fun
  | [d1, d2, d3] => { results := [.lit (.bool true)], args := [d1, d2, d3] }
  | _ => none }
def fnExactSettleInOrderRow : OpenClaim := { program := "ytaobdjdmmhglaaa", sum := "3865ab1758b0653fa0b592a041b4f1bc9db8429c8cbc4b337576f665f9243612", func := "loop.example/g00902/laws.FnExactSettleInOrder", spec := "fnExactSettleInOrder", unfollowed := true, recurses := true, apart := false }
def FnExactSettleInOrderSaid : Prop := fnExactSettleInOrderRow.holds Try.pinned (OpenSpec.ofChange fnExactSettleInOrderSpec)

/-- ITS FALSE NEIGHBOUR: 'it returns false'. Refute it at one input. -/
def fnExactSettleInOrderWrong : ChangeSpec := { name := "fnExactSettleInOrder", fn := fun _ => fun
  | [d1, d2, d3] => { results := [.lit (.bool false)], args := [d1, d2, d3] }
  | _ => none }
def FnExactSettleInOrderWrongFalsely : Prop := fnExactSettleInOrderRow.holds Try.pinned (OpenSpec.ofChange fnExactSettleInOrderWrong)

/-- 'laws.FnExactSettleTogether': WHATEVER THE INPUT: true; the input reads as it did. -/
def fnExactSettleTogetherSpec : ChangeSpec := { name := "fnExactSettleTogether", fn := fun _ => fun
  | [d1, d2, d3] => { results := [.lit (.bool true)], args := [d1, d2, d3] }
  | _ => none }
def fnExactSettleTogetherRow : OpenClaim := { program := "ytaobdjdmmhglaaa", sum := "3865ab1758b0653fa0b592a041b4f1bc9db8429c8cbc4b337576f665f9243612", func := "loop.example/g00902/laws.FnExactSettleTogether", spec := "fnExactSettleTogether", unfollowed := true, recurses := true, apart := false }
def FnExactSettleTogetherSaid : Prop := fnExactSettleTogetherRow.holds Try.pinned (OpenSpec.ofChange fnExactSettleTogetherSpec)

/-- ITS FALSE NEIGHBOUR: 'it returns false'. Refute it at one input. -/
def fnExactSettleTogetherWrong : ChangeSpec := { name := "fnExactSettleTogether", fn := fun _ => fun
  | [d1, d2, d3] => { results := [.lit (.bool false)], args := [d1, d2, d3] }
  | _ => none }
def FnExactSettleTogetherWrongFalsely : Prop := fnExactSettleTogetherRow.holds Try.pinned (OpenSpec.ofChange fnExactSettleTogetherWrong)

/-- 'laws.FnNetting': WHATEVER THE INPUT: true; the input reads as it did. -/
def fnNettingSpec : ChangeSpec := { name := "fnNetting", fn := fun _ => fun
  | [d] => { results := [.lit (.bool true)], args := [d] }
  | _ => none }
def fnNettingRow : OpenClaim := { program := "ytaobdjdmmhglaaa", sum := "3865ab1758b0653fa0b592a041b4f1bc9db8429c8cbc4b337576f665f9243612", func := "loop.example/g00902/laws.FnNetting", spec := "fnNetting", recurses := true, apart := false }
def FnNettingSaid : Prop := fnNettingRow.holds Try.pinned (OpenSpec.ofChange fnNettingSpec)

/-- ITS FALSE NEIGHBOUR: 'it returns false'. Refute it at one input. -/
def fnNettingWrong : ChangeSpec := { name := "fnNetting", fn := fun _ => fun
  | [d] => { results := [.lit (.bool false)], args := [d] }
  | _ => none }
def FnNettingWrongFalsely : Prop := fnNettingRow.holds Try.pinned (OpenSpec.ofChange fnNettingWrong)

/-- 'laws.FnExactCancelCycles': WHATEVER THE INPUT: true; the input reads as it did. -/
def fnExactCancelCyclesSpec : ChangeSpec := { name := "fnExactCancelCycles", fn := fun _ => fun
  | [d1, d2] => { results := [.lit (.bool true)], args := [d1, d2] }
  | _ => none }
def fnExactCancelCyclesRow : OpenClaim := { program := "ytaobdjdmmhglaaa", sum := "3865ab1758b0653fa0b592a041b4f1bc9db8429c8cbc4b337576f665f9243612", func := "loop.example/g00902/laws.FnExactCancelCycles", spec := "fnExactCancelCycles", recurses := true, apart := false }
def FnExactCancelCyclesSaid : Prop := fnExactCancelCyclesRow.holds Try.pinned (OpenSpec.ofChange fnExactCancelCyclesSpec)

/-- ITS FALSE NEIGHBOUR: 'it returns false'. Refute it at one input. -/
def fnExactCancelCyclesWrong : ChangeSpec := { name := "fnExactCancelCycles", fn := fun _ => fun
  | [d1, d2] => { results := [.lit (.bool false)], args := [d1, d2] }
  | _ => none }
def FnExactCancelCyclesWrongFalsely : Prop := fnExactCancelCyclesRow.holds Try.pinned (OpenSpec.ofChange fnExactCancelCyclesWrong)

/-- 'laws.FnSettlement': WHATEVER THE INPUT: true; the input reads as it did. -/
def fnSettlementSpec : ChangeSpec := { name := "fnSettlement", fn := fun _ => fun
  | [d] => { results := [.lit (.bool true)], args := [d] }
  | _ => none }
def fnSettlementRow : OpenClaim := { program := "ytaobdjdmmhglaaa", sum := "3865ab1758b0653fa0b592a041b4f1bc9db8429c8cbc4b337576f665f9243612", func := "loop.example/g00902/laws.FnSettlement", spec := "fnSettlement", unfollowed := true, recurses := true, apart := false }
def FnSettlementSaid : Prop := fnSettlementRow.holds Try.pinned (OpenSpec.ofChange fnSettlementSpec)

/-- ITS FALSE NEIGHBOUR: 'it returns false'. Refute it at one input. -/
def fnSettlementWrong : ChangeSpec := { name := "fnSettlement", fn := fun _ => fun
  | [d] => { results := [.lit (.bool false)], args := [d] }
  | _ => none }
def FnSettlementWrongFalsely : Prop := fnSettlementRow.holds Try.pinned (OpenSpec.ofChange fnSettlementWrong)

/- THE SECOND FORM. 'bulk': how many values and letters a reading holds, each counted each time it is reached (what is shared counts as often as it is met; a slice's spare places count too). A statement '..UptoSaid' is the law's where the arguments, and the package variables that the reading takes, are together of bulk at most 1048576: NARROWER than '..Said'. Prove '..Said' where nothing that the law and all that it calls make is longer than what came in: it says more and counts as full. Else prove '..UptoSaid'. A law counts once. -/
mutual
def uptoBulk {H : Type} : DataW H → Nat
  | .lit (.string bytes) => bytes.length + 1
  | .lit _ => 1
  | .nil => 1
  | .ptr d => uptoBulk d + 1
  | .slice elems spare => uptoBulkAll elems + uptoBulkAll spare + 1
  | .agg parts => uptoBulkAll parts + 1
  | .iface _ d => uptoBulk d + 1
  | .map entries => uptoBulkEntries entries + 1
  | .held _ => 1
def uptoBulkAll {H : Type} : List (DataW H) → Nat
  | [] => 0
  | d :: r => uptoBulk d + uptoBulkAll r
def uptoBulkEntries {H : Type} : List (Lit × DataW H) → Nat
  | [] => 0
  | x :: r => uptoBulkEntry x + uptoBulkEntries r
def uptoBulkEntry {H : Type} : Lit × DataW H → Nat
  | (.string bytes, d) => bytes.length + uptoBulk d + 1
  | (_, d) => uptoBulk d + 1
 end
def uptoSmall : (H : Type) → List (DataW H) → Bool := fun _ ds => decide (uptoBulkAll ds ≤ 1048576)
def OpenSpec.upto (s : _root_.Go.ChangeSpec) : _root_.Go.OpenSpec := { _root_.Go.OpenSpec.ofChange s with cond := some uptoSmall }

/-- 'laws.FnExactIsValidClaims', WHERE WHAT IT READS IS OF BULK AT MOST 1048576: true; the input reads as it did. -/
def fnExactIsValidClaimsUptoRow : OpenClaim := { program := "ytaobdjdmmhglaaa", sum := "3865ab1758b0653fa0b592a041b4f1bc9db8429c8cbc4b337576f665f9243612", func := "loop.example/g00902/laws.FnExactIsValidClaims", spec := "fnExactIsValidClaims", apart := false, narrowed := true }
def FnExactIsValidClaimsUptoSaid : Prop := fnExactIsValidClaimsUptoRow.holds Try.pinned (OpenSpec.upto fnExactIsValidClaimsSpec)

/-- 'laws.FnExactGrossAmount', WHERE WHAT IT READS IS OF BULK AT MOST 1048576: true; the input reads as it did. -/
def fnExactGrossAmountUptoRow : OpenClaim := { program := "ytaobdjdmmhglaaa", sum := "3865ab1758b0653fa0b592a041b4f1bc9db8429c8cbc4b337576f665f9243612", func := "loop.example/g00902/laws.FnExactGrossAmount", spec := "fnExactGrossAmount", apart := false, narrowed := true }
def FnExactGrossAmountUptoSaid : Prop := fnExactGrossAmountUptoRow.holds Try.pinned (OpenSpec.upto fnExactGrossAmountSpec)

/-- 'laws.FnExactNetPositions', WHERE WHAT IT READS IS OF BULK AT MOST 1048576: true; the input reads as it did. -/
def fnExactNetPositionsUptoRow : OpenClaim := { program := "ytaobdjdmmhglaaa", sum := "3865ab1758b0653fa0b592a041b4f1bc9db8429c8cbc4b337576f665f9243612", func := "loop.example/g00902/laws.FnExactNetPositions", spec := "fnExactNetPositions", apart := false, narrowed := true }
def FnExactNetPositionsUptoSaid : Prop := fnExactNetPositionsUptoRow.holds Try.pinned (OpenSpec.upto fnExactNetPositionsSpec)

/-- 'laws.FnExactBilateralNet', WHERE WHAT IT READS IS OF BULK AT MOST 1048576: true; the input reads as it did. -/
def fnExactBilateralNetUptoRow : OpenClaim := { program := "ytaobdjdmmhglaaa", sum := "3865ab1758b0653fa0b592a041b4f1bc9db8429c8cbc4b337576f665f9243612", func := "loop.example/g00902/laws.FnExactBilateralNet", spec := "fnExactBilateralNet", apart := false, narrowed := true }
def FnExactBilateralNetUptoSaid : Prop := fnExactBilateralNetUptoRow.holds Try.pinned (OpenSpec.upto fnExactBilateralNetSpec)

/-- 'laws.FnExactMultilateralNet', WHERE WHAT IT READS IS OF BULK AT MOST 1048576: true; the input reads as it did. -/
def fnExactMultilateralNetUptoRow : OpenClaim := { program := "ytaobdjdmmhglaaa", sum := "3865ab1758b0653fa0b592a041b4f1bc9db8429c8cbc4b337576f665f9243612", func := "loop.example/g00902/laws.FnExactMultilateralNet", spec := "fnExactMultilateralNet", apart := false, narrowed := true }
def FnExactMultilateralNetUptoSaid : Prop := fnExactMultilateralNetUptoRow.holds Try.pinned (OpenSpec.upto fnExactMultilateralNetSpec)

/-- 'laws.FnExactSettleInOrder', WHERE WHAT IT READS IS OF BULK AT MOST 1048576: true; the input reads as it did. -/
def fnExactSettleInOrderUptoRow : OpenClaim := { program := "ytaobdjdmmhglaaa", sum := "3865ab1758b0653fa0b592a041b4f1bc9db8429c8cbc4b337576f665f9243612", func := "loop.example/g00902/laws.FnExactSettleInOrder", spec := "fnExactSettleInOrder", unfollowed := true, recurses := true, apart := false, narrowed := true }
def FnExactSettleInOrderUptoSaid : Prop := fnExactSettleInOrderUptoRow.holds Try.pinned (OpenSpec.upto fnExactSettleInOrderSpec)

/-- 'laws.FnExactSettleTogether', WHERE WHAT IT READS IS OF BULK AT MOST 1048576: true; the input reads as it did. -/
def fnExactSettleTogetherUptoRow : OpenClaim := { program := "ytaobdjdmmhglaaa", sum := "3865ab1758b0653fa0b592a041b4f1bc9db8429c8cbc4b337576f665f9243612", func := "loop.example/g00902/laws.FnExactSettleTogether", spec := "fnExactSettleTogether", unfollowed := true, recurses := true, apart := false, narrowed := true }
def FnExactSettleTogetherUptoSaid : Prop := fnExactSettleTogetherUptoRow.holds Try.pinned (OpenSpec.upto fnExactSettleTogetherSpec)

/-- 'laws.FnNetting', WHERE WHAT IT READS IS OF BULK AT MOST 1048576: true; the input reads as it did. -/
def fnNettingUptoRow : OpenClaim := { program := "ytaobdjdmmhglaaa", sum := "3865ab1758b0653fa0b592a041b4f1bc9db8429c8cbc4b337576f665f9243612", func := "loop.example/g00902/laws.FnNetting", spec := "fnNetting", recurses := true, apart := false, narrowed := true }
def FnNettingUptoSaid : Prop := fnNettingUptoRow.holds Try.pinned (OpenSpec.upto fnNettingSpec)

/-- 'laws.FnExactCancelCycles', WHERE WHAT IT READS IS OF BULK AT MOST 1048576: true; the input reads as it did. -/
def fnExactCancelCyclesUptoRow : OpenClaim := { program := "ytaobdjdmmhglaaa", sum := "3865ab1758b0653fa0b592a041b4f1bc9db8429c8cbc4b337576f665f9243612", func := "loop.example/g00902/laws.FnExactCancelCycles", spec := "fnExactCancelCycles", recurses := true, apart := false, narrowed := true }
def FnExactCancelCyclesUptoSaid : Prop := fnExactCancelCyclesUptoRow.holds Try.pinned (OpenSpec.upto fnExactCancelCyclesSpec)

/-- 'laws.FnSettlement', WHERE WHAT IT READS IS OF BULK AT MOST 1048576: true; the input reads as it did. -/
def fnSettlementUptoRow : OpenClaim := { program := "ytaobdjdmmhglaaa", sum := "3865ab1758b0653fa0b592a041b4f1bc9db8429c8cbc4b337576f665f9243612", func := "loop.example/g00902/laws.FnSettlement", spec := "fnSettlement", unfollowed := true, recurses := true, apart := false, narrowed := true }
def FnSettlementUptoSaid : Prop := fnSettlementUptoRow.holds Try.pinned (OpenSpec.upto fnSettlementSpec)

end Rows
end Go.Proofs.Ytaobdjdmmhglaaa
