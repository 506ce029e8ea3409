/-
  No cell of these rows narrows 'for every input' (looked for: loops, veiled, ifaces, maps, wideKeys, modest, calm, conditions, laid).
  DERIVED. THE GIVEN ROWS OF THIS SEAT. 11 by the template 'for every input the law returns true; each argument reads behind the call as it read before'; 0 by the template 'total and deterministic' (their statements: YtlmdghcpcohamaaTotals.lean).
  GIVEN WITH THE SEED: the statements are not yours to turn. If you find one false, say at which input.
  Laid BY PROGRAM, IN A SANDBOX (cutbox-rows.mjs): the forced cells as the released guide's own fill.sh prints them over the translation 21ae3a6c34b8eaa1… (all of the seat's roots in one cut). By AI agents, Wed Nov 11 2026. No macro, syntax, notation, axiom, sorry.
-/
import Derived.Test.YtlmdghcpcohamaaChecked
import GoSem.Claim
import GoSem.ClaimJoined
import GoSem.ClaimMapViews
import Derived.JoinedTies
import Derived.KernelRfl
namespace Go.Proofs.Ytlmdghcpcohamaa
/- THE CELL 'sum', in the pinned program and in every row, IS THE sha256 OF THE DUMP (.gsa) THAT YtlmdghcpcohamaaProg.lean LOADS. Nothing in Lean hashes anything: it is a label: what it is worth is what the hold of that sum in a sandbox is worth. -/
noncomputable def Try.pinned : Pinned := { name := "ytlmdghcpcohamaa", sum := "21ae3a6c34b8eaa1b0218b5c647799baf7ac1a39b5689ad1e092e5295d46b010", checked := Try.checked }
namespace Rows
def none {H : Type} : Left H := { results := [], args := [] }

/-- 'laws.FnExactIsValidSchedule': WHATEVER THE INPUT: true; the input reads as it did. -/
def fnExactIsValidScheduleSpec : ChangeSpec := { name := "fnExactIsValidSchedule", fn := fun _ => fun
  | [d] => { results := [.lit (.bool true)], args := [d] }
  | _ => none }
def fnExactIsValidScheduleRow : OpenClaim := { program := "ytlmdghcpcohamaa", sum := "21ae3a6c34b8eaa1b0218b5c647799baf7ac1a39b5689ad1e092e5295d46b010", func := "loop.example/g00902/laws.FnExactIsValidSchedule", spec := "fnExactIsValidSchedule", apart := false }
def FnExactIsValidScheduleSaid : Prop := fnExactIsValidScheduleRow.holds Try.pinned (OpenSpec.ofChange fnExactIsValidScheduleSpec)

/-- ITS FALSE NEIGHBOUR: 'it returns false'. Refute it at one input. -/
def fnExactIsValidScheduleWrong : ChangeSpec := { name := "fnExactIsValidSchedule", fn := fun _ => fun
  | [d] => { results := [.lit (.bool false)], args := [d] }
  | _ => none }
def FnExactIsValidScheduleWrongFalsely : Prop := fnExactIsValidScheduleRow.holds Try.pinned (OpenSpec.ofChange fnExactIsValidScheduleWrong)

/-- 'laws.FnExactPeriodOf': WHATEVER THE INPUT: true; the input reads as it did. -/
def fnExactPeriodOfSpec : ChangeSpec := { name := "fnExactPeriodOf", fn := fun _ => fun
  | [d1, d2] => { results := [.lit (.bool true)], args := [d1, d2] }
  | _ => none }
def fnExactPeriodOfRow : OpenClaim := { program := "ytlmdghcpcohamaa", sum := "21ae3a6c34b8eaa1b0218b5c647799baf7ac1a39b5689ad1e092e5295d46b010", func := "loop.example/g00902/laws.FnExactPeriodOf", spec := "fnExactPeriodOf", unfollowed := true, recurses := true, apart := false }
def FnExactPeriodOfSaid : Prop := fnExactPeriodOfRow.holds Try.pinned (OpenSpec.ofChange fnExactPeriodOfSpec)

/-- ITS FALSE NEIGHBOUR: 'it returns false'. Refute it at one input. -/
def fnExactPeriodOfWrong : ChangeSpec := { name := "fnExactPeriodOf", fn := fun _ => fun
  | [d1, d2] => { results := [.lit (.bool false)], args := [d1, d2] }
  | _ => none }
def FnExactPeriodOfWrongFalsely : Prop := fnExactPeriodOfRow.holds Try.pinned (OpenSpec.ofChange fnExactPeriodOfWrong)

/-- 'laws.FnExactPaymentsDue': WHATEVER THE INPUT: true; the input reads as it did. -/
def fnExactPaymentsDueSpec : ChangeSpec := { name := "fnExactPaymentsDue", fn := fun _ => fun
  | [d1, d2, d3, d4] => { results := [.lit (.bool true)], args := [d1, d2, d3, d4] }
  | _ => none }
def fnExactPaymentsDueRow : OpenClaim := { program := "ytlmdghcpcohamaa", sum := "21ae3a6c34b8eaa1b0218b5c647799baf7ac1a39b5689ad1e092e5295d46b010", func := "loop.example/g00902/laws.FnExactPaymentsDue", spec := "fnExactPaymentsDue", apart := false }
def FnExactPaymentsDueSaid : Prop := fnExactPaymentsDueRow.holds Try.pinned (OpenSpec.ofChange fnExactPaymentsDueSpec)

/-- ITS FALSE NEIGHBOUR: 'it returns false'. Refute it at one input. -/
def fnExactPaymentsDueWrong : ChangeSpec := { name := "fnExactPaymentsDue", fn := fun _ => fun
  | [d1, d2, d3, d4] => { results := [.lit (.bool false)], args := [d1, d2, d3, d4] }
  | _ => none }
def FnExactPaymentsDueWrongFalsely : Prop := fnExactPaymentsDueRow.holds Try.pinned (OpenSpec.ofChange fnExactPaymentsDueWrong)

/-- 'laws.FnExactMergeShort': WHATEVER THE INPUT: true; the input reads as it did. -/
def fnExactMergeShortSpec : ChangeSpec := { name := "fnExactMergeShort", fn := fun _ => fun
  | [d1, d2] => { results := [.lit (.bool true)], args := [d1, d2] }
  | _ => none }
def fnExactMergeShortRow : OpenClaim := { program := "ytlmdghcpcohamaa", sum := "21ae3a6c34b8eaa1b0218b5c647799baf7ac1a39b5689ad1e092e5295d46b010", func := "loop.example/g00902/laws.FnExactMergeShort", spec := "fnExactMergeShort", unfollowed := true, recurses := true, apart := false }
def FnExactMergeShortSaid : Prop := fnExactMergeShortRow.holds Try.pinned (OpenSpec.ofChange fnExactMergeShortSpec)

/-- ITS FALSE NEIGHBOUR: 'it returns false'. Refute it at one input. -/
def fnExactMergeShortWrong : ChangeSpec := { name := "fnExactMergeShort", fn := fun _ => fun
  | [d1, d2] => { results := [.lit (.bool false)], args := [d1, d2] }
  | _ => none }
def FnExactMergeShortWrongFalsely : Prop := fnExactMergeShortRow.holds Try.pinned (OpenSpec.ofChange fnExactMergeShortWrong)

/-- 'laws.FnExactShiftSchedule': WHATEVER THE INPUT: true; the input reads as it did. -/
def fnExactShiftScheduleSpec : ChangeSpec := { name := "fnExactShiftSchedule", fn := fun _ => fun
  | [d1, d2] => { results := [.lit (.bool true)], args := [d1, d2] }
  | _ => none }
def fnExactShiftScheduleRow : OpenClaim := { program := "ytlmdghcpcohamaa", sum := "21ae3a6c34b8eaa1b0218b5c647799baf7ac1a39b5689ad1e092e5295d46b010", func := "loop.example/g00902/laws.FnExactShiftSchedule", spec := "fnExactShiftSchedule", apart := false }
def FnExactShiftScheduleSaid : Prop := fnExactShiftScheduleRow.holds Try.pinned (OpenSpec.ofChange fnExactShiftScheduleSpec)

/-- ITS FALSE NEIGHBOUR: 'it returns false'. Refute it at one input. -/
def fnExactShiftScheduleWrong : ChangeSpec := { name := "fnExactShiftSchedule", fn := fun _ => fun
  | [d1, d2] => { results := [.lit (.bool false)], args := [d1, d2] }
  | _ => none }
def FnExactShiftScheduleWrongFalsely : Prop := fnExactShiftScheduleRow.holds Try.pinned (OpenSpec.ofChange fnExactShiftScheduleWrong)

/-- 'laws.FnExactEqualInstallments': WHATEVER THE INPUT: true; the input reads as it did. -/
def fnExactEqualInstallmentsSpec : ChangeSpec := { name := "fnExactEqualInstallments", fn := fun _ => fun
  | [d1, d2] => { results := [.lit (.bool true)], args := [d1, d2] }
  | _ => none }
def fnExactEqualInstallmentsRow : OpenClaim := { program := "ytlmdghcpcohamaa", sum := "21ae3a6c34b8eaa1b0218b5c647799baf7ac1a39b5689ad1e092e5295d46b010", func := "loop.example/g00902/laws.FnExactEqualInstallments", spec := "fnExactEqualInstallments", unfollowed := true, recurses := true, apart := false }
def FnExactEqualInstallmentsSaid : Prop := fnExactEqualInstallmentsRow.holds Try.pinned (OpenSpec.ofChange fnExactEqualInstallmentsSpec)

/-- ITS FALSE NEIGHBOUR: 'it returns false'. Refute it at one input. -/
def fnExactEqualInstallmentsWrong : ChangeSpec := { name := "fnExactEqualInstallments", fn := fun _ => fun
  | [d1, d2] => { results := [.lit (.bool false)], args := [d1, d2] }
  | _ => none }
def FnExactEqualInstallmentsWrongFalsely : Prop := fnExactEqualInstallmentsRow.holds Try.pinned (OpenSpec.ofChange fnExactEqualInstallmentsWrong)

/-- 'laws.FnExactMakeSchedule': WHATEVER THE INPUT: true; the input reads as it did. -/
def fnExactMakeScheduleSpec : ChangeSpec := { name := "fnExactMakeSchedule", fn := fun _ => fun
  | [d1, d2, d3, d4] => { results := [.lit (.bool true)], args := [d1, d2, d3, d4] }
  | _ => none }
def fnExactMakeScheduleRow : OpenClaim := { program := "ytlmdghcpcohamaa", sum := "21ae3a6c34b8eaa1b0218b5c647799baf7ac1a39b5689ad1e092e5295d46b010", func := "loop.example/g00902/laws.FnExactMakeSchedule", spec := "fnExactMakeSchedule", apart := false }
def FnExactMakeScheduleSaid : Prop := fnExactMakeScheduleRow.holds Try.pinned (OpenSpec.ofChange fnExactMakeScheduleSpec)

/-- ITS FALSE NEIGHBOUR: 'it returns false'. Refute it at one input. -/
def fnExactMakeScheduleWrong : ChangeSpec := { name := "fnExactMakeSchedule", fn := fun _ => fun
  | [d1, d2, d3, d4] => { results := [.lit (.bool false)], args := [d1, d2, d3, d4] }
  | _ => none }
def FnExactMakeScheduleWrongFalsely : Prop := fnExactMakeScheduleRow.holds Try.pinned (OpenSpec.ofChange fnExactMakeScheduleWrong)

/-- 'laws.FnExactRegularDays': WHATEVER THE INPUT: true; the input reads as it did. -/
def fnExactRegularDaysSpec : ChangeSpec := { name := "fnExactRegularDays", fn := fun _ => fun
  | [d1, d2, d3, d4] => { results := [.lit (.bool true)], args := [d1, d2, d3, d4] }
  | _ => none }
def fnExactRegularDaysRow : OpenClaim := { program := "ytlmdghcpcohamaa", sum := "21ae3a6c34b8eaa1b0218b5c647799baf7ac1a39b5689ad1e092e5295d46b010", func := "loop.example/g00902/laws.FnExactRegularDays", spec := "fnExactRegularDays", recurses := true, apart := false }
def FnExactRegularDaysSaid : Prop := fnExactRegularDaysRow.holds Try.pinned (OpenSpec.ofChange fnExactRegularDaysSpec)

/-- ITS FALSE NEIGHBOUR: 'it returns false'. Refute it at one input. -/
def fnExactRegularDaysWrong : ChangeSpec := { name := "fnExactRegularDays", fn := fun _ => fun
  | [d1, d2, d3, d4] => { results := [.lit (.bool false)], args := [d1, d2, d3, d4] }
  | _ => none }
def FnExactRegularDaysWrongFalsely : Prop := fnExactRegularDaysRow.holds Try.pinned (OpenSpec.ofChange fnExactRegularDaysWrong)

/-- 'laws.FnSchedules': WHATEVER THE INPUT: true; the input reads as it did. -/
def fnSchedulesSpec : ChangeSpec := { name := "fnSchedules", fn := fun _ => fun
  | [d] => { results := [.lit (.bool true)], args := [d] }
  | _ => none }
def fnSchedulesRow : OpenClaim := { program := "ytlmdghcpcohamaa", sum := "21ae3a6c34b8eaa1b0218b5c647799baf7ac1a39b5689ad1e092e5295d46b010", func := "loop.example/g00902/laws.FnSchedules", spec := "fnSchedules", unfollowed := true, recurses := true, apart := false }
def FnSchedulesSaid : Prop := fnSchedulesRow.holds Try.pinned (OpenSpec.ofChange fnSchedulesSpec)

/-- ITS FALSE NEIGHBOUR: 'it returns false'. Refute it at one input. -/
def fnSchedulesWrong : ChangeSpec := { name := "fnSchedules", fn := fun _ => fun
  | [d] => { results := [.lit (.bool false)], args := [d] }
  | _ => none }
def FnSchedulesWrongFalsely : Prop := fnSchedulesRow.holds Try.pinned (OpenSpec.ofChange fnSchedulesWrong)

/-- 'laws.FnRegular': WHATEVER THE INPUT: true; the input reads as it did. -/
def fnRegularSpec : ChangeSpec := { name := "fnRegular", fn := fun _ => fun
  | [d] => { results := [.lit (.bool true)], args := [d] }
  | _ => none }
def fnRegularRow : OpenClaim := { program := "ytlmdghcpcohamaa", sum := "21ae3a6c34b8eaa1b0218b5c647799baf7ac1a39b5689ad1e092e5295d46b010", func := "loop.example/g00902/laws.FnRegular", spec := "fnRegular", recurses := true, apart := false }
def FnRegularSaid : Prop := fnRegularRow.holds Try.pinned (OpenSpec.ofChange fnRegularSpec)

/-- ITS FALSE NEIGHBOUR: 'it returns false'. Refute it at one input. -/
def fnRegularWrong : ChangeSpec := { name := "fnRegular", fn := fun _ => fun
  | [d] => { results := [.lit (.bool false)], args := [d] }
  | _ => none }
def FnRegularWrongFalsely : Prop := fnRegularRow.holds Try.pinned (OpenSpec.ofChange fnRegularWrong)

/-- 'laws.FnInstallments': WHATEVER THE INPUT: true; the input reads as it did. -/
def fnInstallmentsSpec : ChangeSpec := { name := "fnInstallments", fn := fun _ => fun
  | [d] => { results := [.lit (.bool true)], args := [d] }
  | _ => none }
def fnInstallmentsRow : OpenClaim := { program := "ytlmdghcpcohamaa", sum := "21ae3a6c34b8eaa1b0218b5c647799baf7ac1a39b5689ad1e092e5295d46b010", func := "loop.example/g00902/laws.FnInstallments", spec := "fnInstallments", unfollowed := true, recurses := true, apart := false }
def FnInstallmentsSaid : Prop := fnInstallmentsRow.holds Try.pinned (OpenSpec.ofChange fnInstallmentsSpec)

/-- ITS FALSE NEIGHBOUR: 'it returns false'. Refute it at one input. -/
def fnInstallmentsWrong : ChangeSpec := { name := "fnInstallments", fn := fun _ => fun
  | [d] => { results := [.lit (.bool false)], args := [d] }
  | _ => none }
def FnInstallmentsWrongFalsely : Prop := fnInstallmentsRow.holds Try.pinned (OpenSpec.ofChange fnInstallmentsWrong)

/- THE SECOND FORM. 'bulk': how many values and letters a reading holds, each counted each time it is reached (what is shared counts as often as it is met; a slice's spare places count too). A statement '..UptoSaid' is the law's where the arguments, and the package variables that the reading takes, are together of bulk at most 1048576: NARROWER than '..Said'. Prove '..Said' where nothing that the law and all that it calls make is longer than what came in: it says more and counts as full. Else prove '..UptoSaid'. A law counts once. -/
mutual
def uptoBulk {H : Type} : DataW H → Nat
  | .lit (.string bytes) => bytes.length + 1
  | .lit _ => 1
  | .nil => 1
  | .ptr d => uptoBulk d + 1
  | .slice elems spare => uptoBulkAll elems + uptoBulkAll spare + 1
  | .agg parts => uptoBulkAll parts + 1
  | .iface _ d => uptoBulk d + 1
  | .map entries => uptoBulkEntries entries + 1
  | .held _ => 1
def uptoBulkAll {H : Type} : List (DataW H) → Nat
  | [] => 0
  | d :: r => uptoBulk d + uptoBulkAll r
def uptoBulkEntries {H : Type} : List (Lit × DataW H) → Nat
  | [] => 0
  | x :: r => uptoBulkEntry x + uptoBulkEntries r
def uptoBulkEntry {H : Type} : Lit × DataW H → Nat
  | (.string bytes, d) => bytes.length + uptoBulk d + 1
  | (_, d) => uptoBulk d + 1
 end
def uptoSmall : (H : Type) → List (DataW H) → Bool := fun _ ds => decide (uptoBulkAll ds ≤ 1048576)
def OpenSpec.upto (s : _root_.Go.ChangeSpec) : _root_.Go.OpenSpec := { _root_.Go.OpenSpec.ofChange s with cond := some uptoSmall }

/-- 'laws.FnExactIsValidSchedule', WHERE WHAT IT READS IS OF BULK AT MOST 1048576: true; the input reads as it did. -/
def fnExactIsValidScheduleUptoRow : OpenClaim := { program := "ytlmdghcpcohamaa", sum := "21ae3a6c34b8eaa1b0218b5c647799baf7ac1a39b5689ad1e092e5295d46b010", func := "loop.example/g00902/laws.FnExactIsValidSchedule", spec := "fnExactIsValidSchedule", apart := false, narrowed := true }
def FnExactIsValidScheduleUptoSaid : Prop := fnExactIsValidScheduleUptoRow.holds Try.pinned (OpenSpec.upto fnExactIsValidScheduleSpec)

/-- 'laws.FnExactPeriodOf', WHERE WHAT IT READS IS OF BULK AT MOST 1048576: true; the input reads as it did. -/
def fnExactPeriodOfUptoRow : OpenClaim := { program := "ytlmdghcpcohamaa", sum := "21ae3a6c34b8eaa1b0218b5c647799baf7ac1a39b5689ad1e092e5295d46b010", func := "loop.example/g00902/laws.FnExactPeriodOf", spec := "fnExactPeriodOf", unfollowed := true, recurses := true, apart := false, narrowed := true }
def FnExactPeriodOfUptoSaid : Prop := fnExactPeriodOfUptoRow.holds Try.pinned (OpenSpec.upto fnExactPeriodOfSpec)

/-- 'laws.FnExactPaymentsDue', WHERE WHAT IT READS IS OF BULK AT MOST 1048576: true; the input reads as it did. -/
def fnExactPaymentsDueUptoRow : OpenClaim := { program := "ytlmdghcpcohamaa", sum := "21ae3a6c34b8eaa1b0218b5c647799baf7ac1a39b5689ad1e092e5295d46b010", func := "loop.example/g00902/laws.FnExactPaymentsDue", spec := "fnExactPaymentsDue", apart := false, narrowed := true }
def FnExactPaymentsDueUptoSaid : Prop := fnExactPaymentsDueUptoRow.holds Try.pinned (OpenSpec.upto fnExactPaymentsDueSpec)

/-- 'laws.FnExactMergeShort', WHERE WHAT IT READS IS OF BULK AT MOST 1048576: true; the input reads as it did. -/
def fnExactMergeShortUptoRow : OpenClaim := { program := "ytlmdghcpcohamaa", sum := "21ae3a6c34b8eaa1b0218b5c647799baf7ac1a39b5689ad1e092e5295d46b010", func := "loop.example/g00902/laws.FnExactMergeShort", spec := "fnExactMergeShort", unfollowed := true, recurses := true, apart := false, narrowed := true }
def FnExactMergeShortUptoSaid : Prop := fnExactMergeShortUptoRow.holds Try.pinned (OpenSpec.upto fnExactMergeShortSpec)

/-- 'laws.FnExactShiftSchedule', WHERE WHAT IT READS IS OF BULK AT MOST 1048576: true; the input reads as it did. -/
def fnExactShiftScheduleUptoRow : OpenClaim := { program := "ytlmdghcpcohamaa", sum := "21ae3a6c34b8eaa1b0218b5c647799baf7ac1a39b5689ad1e092e5295d46b010", func := "loop.example/g00902/laws.FnExactShiftSchedule", spec := "fnExactShiftSchedule", apart := false, narrowed := true }
def FnExactShiftScheduleUptoSaid : Prop := fnExactShiftScheduleUptoRow.holds Try.pinned (OpenSpec.upto fnExactShiftScheduleSpec)

/-- 'laws.FnExactEqualInstallments', WHERE WHAT IT READS IS OF BULK AT MOST 1048576: true; the input reads as it did. -/
def fnExactEqualInstallmentsUptoRow : OpenClaim := { program := "ytlmdghcpcohamaa", sum := "21ae3a6c34b8eaa1b0218b5c647799baf7ac1a39b5689ad1e092e5295d46b010", func := "loop.example/g00902/laws.FnExactEqualInstallments", spec := "fnExactEqualInstallments", unfollowed := true, recurses := true, apart := false, narrowed := true }
def FnExactEqualInstallmentsUptoSaid : Prop := fnExactEqualInstallmentsUptoRow.holds Try.pinned (OpenSpec.upto fnExactEqualInstallmentsSpec)

/-- 'laws.FnExactMakeSchedule', WHERE WHAT IT READS IS OF BULK AT MOST 1048576: true; the input reads as it did. -/
def fnExactMakeScheduleUptoRow : OpenClaim := { program := "ytlmdghcpcohamaa", sum := "21ae3a6c34b8eaa1b0218b5c647799baf7ac1a39b5689ad1e092e5295d46b010", func := "loop.example/g00902/laws.FnExactMakeSchedule", spec := "fnExactMakeSchedule", apart := false, narrowed := true }
def FnExactMakeScheduleUptoSaid : Prop := fnExactMakeScheduleUptoRow.holds Try.pinned (OpenSpec.upto fnExactMakeScheduleSpec)

/-- 'laws.FnExactRegularDays', WHERE WHAT IT READS IS OF BULK AT MOST 1048576: true; the input reads as it did. -/
def fnExactRegularDaysUptoRow : OpenClaim := { program := "ytlmdghcpcohamaa", sum := "21ae3a6c34b8eaa1b0218b5c647799baf7ac1a39b5689ad1e092e5295d46b010", func := "loop.example/g00902/laws.FnExactRegularDays", spec := "fnExactRegularDays", recurses := true, apart := false, narrowed := true }
def FnExactRegularDaysUptoSaid : Prop := fnExactRegularDaysUptoRow.holds Try.pinned (OpenSpec.upto fnExactRegularDaysSpec)

/-- 'laws.FnSchedules', WHERE WHAT IT READS IS OF BULK AT MOST 1048576: true; the input reads as it did. -/
def fnSchedulesUptoRow : OpenClaim := { program := "ytlmdghcpcohamaa", sum := "21ae3a6c34b8eaa1b0218b5c647799baf7ac1a39b5689ad1e092e5295d46b010", func := "loop.example/g00902/laws.FnSchedules", spec := "fnSchedules", unfollowed := true, recurses := true, apart := false, narrowed := true }
def FnSchedulesUptoSaid : Prop := fnSchedulesUptoRow.holds Try.pinned (OpenSpec.upto fnSchedulesSpec)

/-- 'laws.FnRegular', WHERE WHAT IT READS IS OF BULK AT MOST 1048576: true; the input reads as it did. -/
def fnRegularUptoRow : OpenClaim := { program := "ytlmdghcpcohamaa", sum := "21ae3a6c34b8eaa1b0218b5c647799baf7ac1a39b5689ad1e092e5295d46b010", func := "loop.example/g00902/laws.FnRegular", spec := "fnRegular", recurses := true, apart := false, narrowed := true }
def FnRegularUptoSaid : Prop := fnRegularUptoRow.holds Try.pinned (OpenSpec.upto fnRegularSpec)

/-- 'laws.FnInstallments', WHERE WHAT IT READS IS OF BULK AT MOST 1048576: true; the input reads as it did. -/
def fnInstallmentsUptoRow : OpenClaim := { program := "ytlmdghcpcohamaa", sum := "21ae3a6c34b8eaa1b0218b5c647799baf7ac1a39b5689ad1e092e5295d46b010", func := "loop.example/g00902/laws.FnInstallments", spec := "fnInstallments", unfollowed := true, recurses := true, apart := false, narrowed := true }
def FnInstallmentsUptoSaid : Prop := fnInstallmentsUptoRow.holds Try.pinned (OpenSpec.upto fnInstallmentsSpec)

end Rows
end Go.Proofs.Ytlmdghcpcohamaa
