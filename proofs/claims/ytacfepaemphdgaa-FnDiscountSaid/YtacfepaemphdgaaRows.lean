/-
  No cell of these rows narrows 'for every input' (looked for: loops, veiled, ifaces, maps, wideKeys, modest, calm, conditions, laid).
  DERIVED. THE GIVEN ROWS OF THIS SEAT. 11 by the template 'for every input the law returns true; each argument reads behind the call as it read before'; 0 by the template 'total and deterministic' (their statements: YtacfepaemphdgaaTotals.lean).
  GIVEN WITH THE SEED: the statements are not yours to turn. If you find one false, say at which input.
  Laid BY PROGRAM, IN A SANDBOX (cutbox-rows.mjs): the forced cells as the released guide's own fill.sh prints them over the translation 820433f9c3f65862… (all of the seat's roots in one cut). By AI agents, Wed Nov 11 2026. No macro, syntax, notation, axiom, sorry.
-/
import Derived.Test.YtacfepaemphdgaaChecked
import GoSem.Claim
import GoSem.ClaimJoined
import GoSem.ClaimMapViews
import Derived.JoinedTies
import Derived.KernelRfl
namespace Go.Proofs.Ytacfepaemphdgaa
/- THE CELL 'sum', in the pinned program and in every row, IS THE sha256 OF THE DUMP (.gsa) THAT YtacfepaemphdgaaProg.lean LOADS. Nothing in Lean hashes anything: it is a label: what it is worth is what the hold of that sum in a sandbox is worth. -/
noncomputable def Try.pinned : Pinned := { name := "ytacfepaemphdgaa", sum := "820433f9c3f658625d462ecaa73e1f5a768fbe9450e4ec870aa185e66e8bf7f1", checked := Try.checked }
namespace Rows
def none {H : Type} : Left H := { results := [], args := [] }

/-- 'laws.FnExactDiscountFactor': WHATEVER THE INPUT: true; the input reads as it did. -/
def fnExactDiscountFactorSpec : ChangeSpec := { name := "fnExactDiscountFactor", fn := fun _ => fun
  | [d1, d2, d3, d4] => { results := [.lit (.bool true)], args := [d1, d2, d3, d4] }
  | _ => none }
def fnExactDiscountFactorRow : OpenClaim := { program := "ytacfepaemphdgaa", sum := "820433f9c3f658625d462ecaa73e1f5a768fbe9450e4ec870aa185e66e8bf7f1", func := "loop.example/g00902/laws.FnExactDiscountFactor", spec := "fnExactDiscountFactor", apart := false }
def FnExactDiscountFactorSaid : Prop := fnExactDiscountFactorRow.holds Try.pinned (OpenSpec.ofChange fnExactDiscountFactorSpec)

/-- ITS FALSE NEIGHBOUR: 'it returns false'. Refute it at one input. -/
def fnExactDiscountFactorWrong : ChangeSpec := { name := "fnExactDiscountFactor", fn := fun _ => fun
  | [d1, d2, d3, d4] => { results := [.lit (.bool false)], args := [d1, d2, d3, d4] }
  | _ => none }
def FnExactDiscountFactorWrongFalsely : Prop := fnExactDiscountFactorRow.holds Try.pinned (OpenSpec.ofChange fnExactDiscountFactorWrong)

/-- 'laws.FnExactAccrueInterest': WHATEVER THE INPUT: true; the input reads as it did. -/
def fnExactAccrueInterestSpec : ChangeSpec := { name := "fnExactAccrueInterest", fn := fun _ => fun
  | [d1, d2, d3, d4, d5, d6] => { results := [.lit (.bool true)], args := [d1, d2, d3, d4, d5, d6] }
  | _ => none }
def fnExactAccrueInterestRow : OpenClaim := { program := "ytacfepaemphdgaa", sum := "820433f9c3f658625d462ecaa73e1f5a768fbe9450e4ec870aa185e66e8bf7f1", func := "loop.example/g00902/laws.FnExactAccrueInterest", spec := "fnExactAccrueInterest", apart := false }
def FnExactAccrueInterestSaid : Prop := fnExactAccrueInterestRow.holds Try.pinned (OpenSpec.ofChange fnExactAccrueInterestSpec)

/-- ITS FALSE NEIGHBOUR: 'it returns false'. Refute it at one input. -/
def fnExactAccrueInterestWrong : ChangeSpec := { name := "fnExactAccrueInterest", fn := fun _ => fun
  | [d1, d2, d3, d4, d5, d6] => { results := [.lit (.bool false)], args := [d1, d2, d3, d4, d5, d6] }
  | _ => none }
def FnExactAccrueInterestWrongFalsely : Prop := fnExactAccrueInterestRow.holds Try.pinned (OpenSpec.ofChange fnExactAccrueInterestWrong)

/-- 'laws.FnExactLateCharge': WHATEVER THE INPUT: true; the input reads as it did. -/
def fnExactLateChargeSpec : ChangeSpec := { name := "fnExactLateCharge", fn := fun _ => fun
  | [d1, d2, d3, d4, d5, d6, d7] => { results := [.lit (.bool true)], args := [d1, d2, d3, d4, d5, d6, d7] }
  | _ => none }
def fnExactLateChargeRow : OpenClaim := { program := "ytacfepaemphdgaa", sum := "820433f9c3f658625d462ecaa73e1f5a768fbe9450e4ec870aa185e66e8bf7f1", func := "loop.example/g00902/laws.FnExactLateCharge", spec := "fnExactLateCharge", apart := false }
def FnExactLateChargeSaid : Prop := fnExactLateChargeRow.holds Try.pinned (OpenSpec.ofChange fnExactLateChargeSpec)

/-- ITS FALSE NEIGHBOUR: 'it returns false'. Refute it at one input. -/
def fnExactLateChargeWrong : ChangeSpec := { name := "fnExactLateCharge", fn := fun _ => fun
  | [d1, d2, d3, d4, d5, d6, d7] => { results := [.lit (.bool false)], args := [d1, d2, d3, d4, d5, d6, d7] }
  | _ => none }
def FnExactLateChargeWrongFalsely : Prop := fnExactLateChargeRow.holds Try.pinned (OpenSpec.ofChange fnExactLateChargeWrong)

/-- 'laws.FnExactCompoundInterest': WHATEVER THE INPUT: true; the input reads as it did. -/
def fnExactCompoundInterestSpec : ChangeSpec := { name := "fnExactCompoundInterest", fn := fun _ => fun
  | [d1, d2, d3, d4, d5] => { results := [.lit (.bool true)], args := [d1, d2, d3, d4, d5] }
  | _ => none }
def fnExactCompoundInterestRow : OpenClaim := { program := "ytacfepaemphdgaa", sum := "820433f9c3f658625d462ecaa73e1f5a768fbe9450e4ec870aa185e66e8bf7f1", func := "loop.example/g00902/laws.FnExactCompoundInterest", spec := "fnExactCompoundInterest", apart := false }
def FnExactCompoundInterestSaid : Prop := fnExactCompoundInterestRow.holds Try.pinned (OpenSpec.ofChange fnExactCompoundInterestSpec)

/-- ITS FALSE NEIGHBOUR: 'it returns false'. Refute it at one input. -/
def fnExactCompoundInterestWrong : ChangeSpec := { name := "fnExactCompoundInterest", fn := fun _ => fun
  | [d1, d2, d3, d4, d5] => { results := [.lit (.bool false)], args := [d1, d2, d3, d4, d5] }
  | _ => none }
def FnExactCompoundInterestWrongFalsely : Prop := fnExactCompoundInterestRow.holds Try.pinned (OpenSpec.ofChange fnExactCompoundInterestWrong)

/-- 'laws.FnExactPresentValue': WHATEVER THE INPUT: true; the input reads as it did. -/
def fnExactPresentValueSpec : ChangeSpec := { name := "fnExactPresentValue", fn := fun _ => fun
  | [d1, d2, d3, d4, d5, d6] => { results := [.lit (.bool true)], args := [d1, d2, d3, d4, d5, d6] }
  | _ => none }
def fnExactPresentValueRow : OpenClaim := { program := "ytacfepaemphdgaa", sum := "820433f9c3f658625d462ecaa73e1f5a768fbe9450e4ec870aa185e66e8bf7f1", func := "loop.example/g00902/laws.FnExactPresentValue", spec := "fnExactPresentValue", unfollowed := true, recurses := true, apart := false }
def FnExactPresentValueSaid : Prop := fnExactPresentValueRow.holds Try.pinned (OpenSpec.ofChange fnExactPresentValueSpec)

/-- ITS FALSE NEIGHBOUR: 'it returns false'. Refute it at one input. -/
def fnExactPresentValueWrong : ChangeSpec := { name := "fnExactPresentValue", fn := fun _ => fun
  | [d1, d2, d3, d4, d5, d6] => { results := [.lit (.bool false)], args := [d1, d2, d3, d4, d5, d6] }
  | _ => none }
def FnExactPresentValueWrongFalsely : Prop := fnExactPresentValueRow.holds Try.pinned (OpenSpec.ofChange fnExactPresentValueWrong)

/-- 'laws.FnExactStepInterest': WHATEVER THE INPUT: true; the input reads as it did. -/
def fnExactStepInterestSpec : ChangeSpec := { name := "fnExactStepInterest", fn := fun _ => fun
  | [d1, d2, d3, d4, d5, d6] => { results := [.lit (.bool true)], args := [d1, d2, d3, d4, d5, d6] }
  | _ => none }
def fnExactStepInterestRow : OpenClaim := { program := "ytacfepaemphdgaa", sum := "820433f9c3f658625d462ecaa73e1f5a768fbe9450e4ec870aa185e66e8bf7f1", func := "loop.example/g00902/laws.FnExactStepInterest", spec := "fnExactStepInterest", apart := false }
def FnExactStepInterestSaid : Prop := fnExactStepInterestRow.holds Try.pinned (OpenSpec.ofChange fnExactStepInterestSpec)

/-- ITS FALSE NEIGHBOUR: 'it returns false'. Refute it at one input. -/
def fnExactStepInterestWrong : ChangeSpec := { name := "fnExactStepInterest", fn := fun _ => fun
  | [d1, d2, d3, d4, d5, d6] => { results := [.lit (.bool false)], args := [d1, d2, d3, d4, d5, d6] }
  | _ => none }
def FnExactStepInterestWrongFalsely : Prop := fnExactStepInterestRow.holds Try.pinned (OpenSpec.ofChange fnExactStepInterestWrong)

/-- 'laws.FnExactAnnuityPayment': WHATEVER THE INPUT: true; the input reads as it did. -/
def fnExactAnnuityPaymentSpec : ChangeSpec := { name := "fnExactAnnuityPayment", fn := fun _ => fun
  | [d1, d2, d3, d4, d5] => { results := [.lit (.bool true)], args := [d1, d2, d3, d4, d5] }
  | _ => none }
def fnExactAnnuityPaymentRow : OpenClaim := { program := "ytacfepaemphdgaa", sum := "820433f9c3f658625d462ecaa73e1f5a768fbe9450e4ec870aa185e66e8bf7f1", func := "loop.example/g00902/laws.FnExactAnnuityPayment", spec := "fnExactAnnuityPayment", unfollowed := true, recurses := true, apart := false }
def FnExactAnnuityPaymentSaid : Prop := fnExactAnnuityPaymentRow.holds Try.pinned (OpenSpec.ofChange fnExactAnnuityPaymentSpec)

/-- ITS FALSE NEIGHBOUR: 'it returns false'. Refute it at one input. -/
def fnExactAnnuityPaymentWrong : ChangeSpec := { name := "fnExactAnnuityPayment", fn := fun _ => fun
  | [d1, d2, d3, d4, d5] => { results := [.lit (.bool false)], args := [d1, d2, d3, d4, d5] }
  | _ => none }
def FnExactAnnuityPaymentWrongFalsely : Prop := fnExactAnnuityPaymentRow.holds Try.pinned (OpenSpec.ofChange fnExactAnnuityPaymentWrong)

/-- 'laws.FnInterest': WHATEVER THE INPUT: true; the input reads as it did. -/
def fnInterestSpec : ChangeSpec := { name := "fnInterest", fn := fun _ => fun
  | [d] => { results := [.lit (.bool true)], args := [d] }
  | _ => none }
def fnInterestRow : OpenClaim := { program := "ytacfepaemphdgaa", sum := "820433f9c3f658625d462ecaa73e1f5a768fbe9450e4ec870aa185e66e8bf7f1", func := "loop.example/g00902/laws.FnInterest", spec := "fnInterest", apart := false }
def FnInterestSaid : Prop := fnInterestRow.holds Try.pinned (OpenSpec.ofChange fnInterestSpec)

/-- ITS FALSE NEIGHBOUR: 'it returns false'. Refute it at one input. -/
def fnInterestWrong : ChangeSpec := { name := "fnInterest", fn := fun _ => fun
  | [d] => { results := [.lit (.bool false)], args := [d] }
  | _ => none }
def FnInterestWrongFalsely : Prop := fnInterestRow.holds Try.pinned (OpenSpec.ofChange fnInterestWrong)

/-- 'laws.FnExactAccrualTable': WHATEVER THE INPUT: true; the input reads as it did. -/
def fnExactAccrualTableSpec : ChangeSpec := { name := "fnExactAccrualTable", fn := fun _ => fun
  | [d1, d2, d3, d4, d5, d6] => { results := [.lit (.bool true)], args := [d1, d2, d3, d4, d5, d6] }
  | _ => none }
def fnExactAccrualTableRow : OpenClaim := { program := "ytacfepaemphdgaa", sum := "820433f9c3f658625d462ecaa73e1f5a768fbe9450e4ec870aa185e66e8bf7f1", func := "loop.example/g00902/laws.FnExactAccrualTable", spec := "fnExactAccrualTable", apart := false }
def FnExactAccrualTableSaid : Prop := fnExactAccrualTableRow.holds Try.pinned (OpenSpec.ofChange fnExactAccrualTableSpec)

/-- ITS FALSE NEIGHBOUR: 'it returns false'. Refute it at one input. -/
def fnExactAccrualTableWrong : ChangeSpec := { name := "fnExactAccrualTable", fn := fun _ => fun
  | [d1, d2, d3, d4, d5, d6] => { results := [.lit (.bool false)], args := [d1, d2, d3, d4, d5, d6] }
  | _ => none }
def FnExactAccrualTableWrongFalsely : Prop := fnExactAccrualTableRow.holds Try.pinned (OpenSpec.ofChange fnExactAccrualTableWrong)

/-- 'laws.FnDiscount': WHATEVER THE INPUT: true; the input reads as it did. -/
def fnDiscountSpec : ChangeSpec := { name := "fnDiscount", fn := fun _ => fun
  | [d] => { results := [.lit (.bool true)], args := [d] }
  | _ => none }
def fnDiscountRow : OpenClaim := { program := "ytacfepaemphdgaa", sum := "820433f9c3f658625d462ecaa73e1f5a768fbe9450e4ec870aa185e66e8bf7f1", func := "loop.example/g00902/laws.FnDiscount", spec := "fnDiscount", unfollowed := true, recurses := true, apart := false }
def FnDiscountSaid : Prop := fnDiscountRow.holds Try.pinned (OpenSpec.ofChange fnDiscountSpec)

/-- ITS FALSE NEIGHBOUR: 'it returns false'. Refute it at one input. -/
def fnDiscountWrong : ChangeSpec := { name := "fnDiscount", fn := fun _ => fun
  | [d] => { results := [.lit (.bool false)], args := [d] }
  | _ => none }
def FnDiscountWrongFalsely : Prop := fnDiscountRow.holds Try.pinned (OpenSpec.ofChange fnDiscountWrong)

/-- 'laws.FnAnnuity': WHATEVER THE INPUT: true; the input reads as it did. -/
def fnAnnuitySpec : ChangeSpec := { name := "fnAnnuity", fn := fun _ => fun
  | [d] => { results := [.lit (.bool true)], args := [d] }
  | _ => none }
def fnAnnuityRow : OpenClaim := { program := "ytacfepaemphdgaa", sum := "820433f9c3f658625d462ecaa73e1f5a768fbe9450e4ec870aa185e66e8bf7f1", func := "loop.example/g00902/laws.FnAnnuity", spec := "fnAnnuity", unfollowed := true, recurses := true, apart := false }
def FnAnnuitySaid : Prop := fnAnnuityRow.holds Try.pinned (OpenSpec.ofChange fnAnnuitySpec)

/-- ITS FALSE NEIGHBOUR: 'it returns false'. Refute it at one input. -/
def fnAnnuityWrong : ChangeSpec := { name := "fnAnnuity", fn := fun _ => fun
  | [d] => { results := [.lit (.bool false)], args := [d] }
  | _ => none }
def FnAnnuityWrongFalsely : Prop := fnAnnuityRow.holds Try.pinned (OpenSpec.ofChange fnAnnuityWrong)

/- THE SECOND FORM. 'bulk': how many values and letters a reading holds, each counted each time it is reached (what is shared counts as often as it is met; a slice's spare places count too). A statement '..UptoSaid' is the law's where the arguments, and the package variables that the reading takes, are together of bulk at most 1048576: NARROWER than '..Said'. Prove '..Said' where nothing that the law and all that it calls make is longer than what came in: it says more and counts as full. Else prove '..UptoSaid'. A law counts once. -/
mutual
def uptoBulk {H : Type} : DataW H → Nat
  | .lit (.string bytes) => bytes.length + 1
  | .lit _ => 1
  | .nil => 1
  | .ptr d => uptoBulk d + 1
  | .slice elems spare => uptoBulkAll elems + uptoBulkAll spare + 1
  | .agg parts => uptoBulkAll parts + 1
  | .iface _ d => uptoBulk d + 1
  | .map entries => uptoBulkEntries entries + 1
  | .held _ => 1
def uptoBulkAll {H : Type} : List (DataW H) → Nat
  | [] => 0
  | d :: r => uptoBulk d + uptoBulkAll r
def uptoBulkEntries {H : Type} : List (Lit × DataW H) → Nat
  | [] => 0
  | x :: r => uptoBulkEntry x + uptoBulkEntries r
def uptoBulkEntry {H : Type} : Lit × DataW H → Nat
  | (.string bytes, d) => bytes.length + uptoBulk d + 1
  | (_, d) => uptoBulk d + 1
 end
def uptoSmall : (H : Type) → List (DataW H) → Bool := fun _ ds => decide (uptoBulkAll ds ≤ 1048576)
def OpenSpec.upto (s : _root_.Go.ChangeSpec) : _root_.Go.OpenSpec := { _root_.Go.OpenSpec.ofChange s with cond := some uptoSmall }

/-- 'laws.FnExactDiscountFactor', WHERE WHAT IT READS IS OF BULK AT MOST 1048576: true; the input reads as it did. -/
def fnExactDiscountFactorUptoRow : OpenClaim := { program := "ytacfepaemphdgaa", sum := "820433f9c3f658625d462ecaa73e1f5a768fbe9450e4ec870aa185e66e8bf7f1", func := "loop.example/g00902/laws.FnExactDiscountFactor", spec := "fnExactDiscountFactor", apart := false, narrowed := true }
def FnExactDiscountFactorUptoSaid : Prop := fnExactDiscountFactorUptoRow.holds Try.pinned (OpenSpec.upto fnExactDiscountFactorSpec)

/-- 'laws.FnExactAccrueInterest', WHERE WHAT IT READS IS OF BULK AT MOST 1048576: true; the input reads as it did. -/
def fnExactAccrueInterestUptoRow : OpenClaim := { program := "ytacfepaemphdgaa", sum := "820433f9c3f658625d462ecaa73e1f5a768fbe9450e4ec870aa185e66e8bf7f1", func := "loop.example/g00902/laws.FnExactAccrueInterest", spec := "fnExactAccrueInterest", apart := false, narrowed := true }
def FnExactAccrueInterestUptoSaid : Prop := fnExactAccrueInterestUptoRow.holds Try.pinned (OpenSpec.upto fnExactAccrueInterestSpec)

/-- 'laws.FnExactLateCharge', WHERE WHAT IT READS IS OF BULK AT MOST 1048576: true; the input reads as it did. -/
def fnExactLateChargeUptoRow : OpenClaim := { program := "ytacfepaemphdgaa", sum := "820433f9c3f658625d462ecaa73e1f5a768fbe9450e4ec870aa185e66e8bf7f1", func := "loop.example/g00902/laws.FnExactLateCharge", spec := "fnExactLateCharge", apart := false, narrowed := true }
def FnExactLateChargeUptoSaid : Prop := fnExactLateChargeUptoRow.holds Try.pinned (OpenSpec.upto fnExactLateChargeSpec)

/-- 'laws.FnExactCompoundInterest', WHERE WHAT IT READS IS OF BULK AT MOST 1048576: true; the input reads as it did. -/
def fnExactCompoundInterestUptoRow : OpenClaim := { program := "ytacfepaemphdgaa", sum := "820433f9c3f658625d462ecaa73e1f5a768fbe9450e4ec870aa185e66e8bf7f1", func := "loop.example/g00902/laws.FnExactCompoundInterest", spec := "fnExactCompoundInterest", apart := false, narrowed := true }
def FnExactCompoundInterestUptoSaid : Prop := fnExactCompoundInterestUptoRow.holds Try.pinned (OpenSpec.upto fnExactCompoundInterestSpec)

/-- 'laws.FnExactPresentValue', WHERE WHAT IT READS IS OF BULK AT MOST 1048576: true; the input reads as it did. -/
def fnExactPresentValueUptoRow : OpenClaim := { program := "ytacfepaemphdgaa", sum := "820433f9c3f658625d462ecaa73e1f5a768fbe9450e4ec870aa185e66e8bf7f1", func := "loop.example/g00902/laws.FnExactPresentValue", spec := "fnExactPresentValue", unfollowed := true, recurses := true, apart := false, narrowed := true }
def FnExactPresentValueUptoSaid : Prop := fnExactPresentValueUptoRow.holds Try.pinned (OpenSpec.upto fnExactPresentValueSpec)

/-- 'laws.FnExactStepInterest', WHERE WHAT IT READS IS OF BULK AT MOST 1048576: true; the input reads as it did. -/
def fnExactStepInterestUptoRow : OpenClaim := { program := "ytacfepaemphdgaa", sum := "820433f9c3f658625d462ecaa73e1f5a768fbe9450e4ec870aa185e66e8bf7f1", func := "loop.example/g00902/laws.FnExactStepInterest", spec := "fnExactStepInterest", apart := false, narrowed := true }
def FnExactStepInterestUptoSaid : Prop := fnExactStepInterestUptoRow.holds Try.pinned (OpenSpec.upto fnExactStepInterestSpec)

/-- 'laws.FnExactAnnuityPayment', WHERE WHAT IT READS IS OF BULK AT MOST 1048576: true; the input reads as it did. -/
def fnExactAnnuityPaymentUptoRow : OpenClaim := { program := "ytacfepaemphdgaa", sum := "820433f9c3f658625d462ecaa73e1f5a768fbe9450e4ec870aa185e66e8bf7f1", func := "loop.example/g00902/laws.FnExactAnnuityPayment", spec := "fnExactAnnuityPayment", unfollowed := true, recurses := true, apart := false, narrowed := true }
def FnExactAnnuityPaymentUptoSaid : Prop := fnExactAnnuityPaymentUptoRow.holds Try.pinned (OpenSpec.upto fnExactAnnuityPaymentSpec)

/-- 'laws.FnInterest', WHERE WHAT IT READS IS OF BULK AT MOST 1048576: true; the input reads as it did. -/
def fnInterestUptoRow : OpenClaim := { program := "ytacfepaemphdgaa", sum := "820433f9c3f658625d462ecaa73e1f5a768fbe9450e4ec870aa185e66e8bf7f1", func := "loop.example/g00902/laws.FnInterest", spec := "fnInterest", apart := false, narrowed := true }
def FnInterestUptoSaid : Prop := fnInterestUptoRow.holds Try.pinned (OpenSpec.upto fnInterestSpec)

/-- 'laws.FnExactAccrualTable', WHERE WHAT IT READS IS OF BULK AT MOST 1048576: true; the input reads as it did. -/
def fnExactAccrualTableUptoRow : OpenClaim := { program := "ytacfepaemphdgaa", sum := "820433f9c3f658625d462ecaa73e1f5a768fbe9450e4ec870aa185e66e8bf7f1", func := "loop.example/g00902/laws.FnExactAccrualTable", spec := "fnExactAccrualTable", apart := false, narrowed := true }
def FnExactAccrualTableUptoSaid : Prop := fnExactAccrualTableUptoRow.holds Try.pinned (OpenSpec.upto fnExactAccrualTableSpec)

/-- 'laws.FnDiscount', WHERE WHAT IT READS IS OF BULK AT MOST 1048576: true; the input reads as it did. -/
def fnDiscountUptoRow : OpenClaim := { program := "ytacfepaemphdgaa", sum := "820433f9c3f658625d462ecaa73e1f5a768fbe9450e4ec870aa185e66e8bf7f1", func := "loop.example/g00902/laws.FnDiscount", spec := "fnDiscount", unfollowed := true, recurses := true, apart := false, narrowed := true }
def FnDiscountUptoSaid : Prop := fnDiscountUptoRow.holds Try.pinned (OpenSpec.upto fnDiscountSpec)

/-- 'laws.FnAnnuity', WHERE WHAT IT READS IS OF BULK AT MOST 1048576: true; the input reads as it did. -/
def fnAnnuityUptoRow : OpenClaim := { program := "ytacfepaemphdgaa", sum := "820433f9c3f658625d462ecaa73e1f5a768fbe9450e4ec870aa185e66e8bf7f1", func := "loop.example/g00902/laws.FnAnnuity", spec := "fnAnnuity", unfollowed := true, recurses := true, apart := false, narrowed := true }
def FnAnnuityUptoSaid : Prop := fnAnnuityUptoRow.holds Try.pinned (OpenSpec.upto fnAnnuitySpec)

end Rows
end Go.Proofs.Ytacfepaemphdgaa
