/-
  No cell of these rows narrows 'for every input' (looked for: loops, veiled, ifaces, maps, wideKeys, modest, calm, conditions, laid).
  DERIVED. THE GIVEN ROWS OF THIS SEAT. 11 by the template 'for every input the law returns true; each argument reads behind the call as it read before'; 0 by the template 'total and deterministic' (their statements: YtiaakolalhdelaaTotals.lean).
  GIVEN WITH THE SEED: the statements are not yours to turn. If you find one false, say at which input.
  Laid BY PROGRAM, IN A SANDBOX (cutbox-rows.mjs): the forced cells as the released guide's own fill.sh prints them over the translation 36bc73e68843eb41… (all of the seat's roots in one cut). By AI agents, Wed Nov 11 2026. No macro, syntax, notation, axiom, sorry.
-/
import Derived.Test.YtiaakolalhdelaaChecked
import GoSem.Claim
import GoSem.ClaimJoined
import GoSem.ClaimMapViews
import Derived.JoinedTies
import Derived.KernelRfl
namespace Go.Proofs.Ytiaakolalhdelaa
/- THE CELL 'sum', in the pinned program and in every row, IS THE sha256 OF THE DUMP (.gsa) THAT YtiaakolalhdelaaProg.lean LOADS. Nothing in Lean hashes anything: it is a label: what it is worth is what the hold of that sum in a sandbox is worth. -/
noncomputable def Try.pinned : Pinned := { name := "ytiaakolalhdelaa", sum := "36bc73e68843eb4112220ee1e7e692c97e05a8169dbe41753e10310155278ee9", checked := Try.checked }
namespace Rows
def none {H : Type} : Left H := { results := [], args := [] }

/-- 'laws.FnExactRequiredAmount': WHATEVER THE INPUT: true; the input reads as it did. -/
def fnExactRequiredAmountSpec : ChangeSpec := { name := "fnExactRequiredAmount", fn := fun _ => fun
  | [d1, d2] => { results := [.lit (.bool true)], args := [d1, d2] }
  | _ => none }
def fnExactRequiredAmountRow : OpenClaim := { program := "ytiaakolalhdelaa", sum := "36bc73e68843eb4112220ee1e7e692c97e05a8169dbe41753e10310155278ee9", func := "loop.example/g00902/laws.FnExactRequiredAmount", spec := "fnExactRequiredAmount", apart := false }
def FnExactRequiredAmountSaid : Prop := fnExactRequiredAmountRow.holds Try.pinned (OpenSpec.ofChange fnExactRequiredAmountSpec)

/-- ITS FALSE NEIGHBOUR: 'it returns false'. Refute it at one input. -/
def fnExactRequiredAmountWrong : ChangeSpec := { name := "fnExactRequiredAmount", fn := fun _ => fun
  | [d1, d2] => { results := [.lit (.bool false)], args := [d1, d2] }
  | _ => none }
def FnExactRequiredAmountWrongFalsely : Prop := fnExactRequiredAmountRow.holds Try.pinned (OpenSpec.ofChange fnExactRequiredAmountWrong)

/-- 'laws.FnExactIsValidAssets': WHATEVER THE INPUT: true; the input reads as it did. -/
def fnExactIsValidAssetsSpec : ChangeSpec := { name := "fnExactIsValidAssets", fn := fun _ => fun
  | [d] => { results := [.lit (.bool true)], args := [d] }
  | _ => none }
def fnExactIsValidAssetsRow : OpenClaim := { program := "ytiaakolalhdelaa", sum := "36bc73e68843eb4112220ee1e7e692c97e05a8169dbe41753e10310155278ee9", func := "loop.example/g00902/laws.FnExactIsValidAssets", spec := "fnExactIsValidAssets", apart := false }
def FnExactIsValidAssetsSaid : Prop := fnExactIsValidAssetsRow.holds Try.pinned (OpenSpec.ofChange fnExactIsValidAssetsSpec)

/-- ITS FALSE NEIGHBOUR: 'it returns false'. Refute it at one input. -/
def fnExactIsValidAssetsWrong : ChangeSpec := { name := "fnExactIsValidAssets", fn := fun _ => fun
  | [d] => { results := [.lit (.bool false)], args := [d] }
  | _ => none }
def FnExactIsValidAssetsWrongFalsely : Prop := fnExactIsValidAssetsRow.holds Try.pinned (OpenSpec.ofChange fnExactIsValidAssetsWrong)

/-- 'laws.FnExactMarginCall': WHATEVER THE INPUT: true; the input reads as it did. -/
def fnExactMarginCallSpec : ChangeSpec := { name := "fnExactMarginCall", fn := fun _ => fun
  | [d1, d2, d3] => { results := [.lit (.bool true)], args := [d1, d2, d3] }
  | _ => none }
def fnExactMarginCallRow : OpenClaim := { program := "ytiaakolalhdelaa", sum := "36bc73e68843eb4112220ee1e7e692c97e05a8169dbe41753e10310155278ee9", func := "loop.example/g00902/laws.FnExactMarginCall", spec := "fnExactMarginCall", apart := false }
def FnExactMarginCallSaid : Prop := fnExactMarginCallRow.holds Try.pinned (OpenSpec.ofChange fnExactMarginCallSpec)

/-- ITS FALSE NEIGHBOUR: 'it returns false'. Refute it at one input. -/
def fnExactMarginCallWrong : ChangeSpec := { name := "fnExactMarginCall", fn := fun _ => fun
  | [d1, d2, d3] => { results := [.lit (.bool false)], args := [d1, d2, d3] }
  | _ => none }
def FnExactMarginCallWrongFalsely : Prop := fnExactMarginCallRow.holds Try.pinned (OpenSpec.ofChange fnExactMarginCallWrong)

/-- 'laws.FnExactCollateralValue': WHATEVER THE INPUT: true; the input reads as it did. -/
def fnExactCollateralValueSpec : ChangeSpec := { name := "fnExactCollateralValue", fn := fun _ => fun
  | [d] => { results := [.lit (.bool true)], args := [d] }
  | _ => none }
def fnExactCollateralValueRow : OpenClaim := { program := "ytiaakolalhdelaa", sum := "36bc73e68843eb4112220ee1e7e692c97e05a8169dbe41753e10310155278ee9", func := "loop.example/g00902/laws.FnExactCollateralValue", spec := "fnExactCollateralValue", apart := false }
def FnExactCollateralValueSaid : Prop := fnExactCollateralValueRow.holds Try.pinned (OpenSpec.ofChange fnExactCollateralValueSpec)

/-- ITS FALSE NEIGHBOUR: 'it returns false'. Refute it at one input. -/
def fnExactCollateralValueWrong : ChangeSpec := { name := "fnExactCollateralValue", fn := fun _ => fun
  | [d] => { results := [.lit (.bool false)], args := [d] }
  | _ => none }
def FnExactCollateralValueWrongFalsely : Prop := fnExactCollateralValueRow.holds Try.pinned (OpenSpec.ofChange fnExactCollateralValueWrong)

/-- 'laws.FnExactStressValue': WHATEVER THE INPUT: true; the input reads as it did. -/
def fnExactStressValueSpec : ChangeSpec := { name := "fnExactStressValue", fn := fun _ => fun
  | [d1, d2] => { results := [.lit (.bool true)], args := [d1, d2] }
  | _ => none }
def fnExactStressValueRow : OpenClaim := { program := "ytiaakolalhdelaa", sum := "36bc73e68843eb4112220ee1e7e692c97e05a8169dbe41753e10310155278ee9", func := "loop.example/g00902/laws.FnExactStressValue", spec := "fnExactStressValue", unfollowed := true, recurses := true, apart := false }
def FnExactStressValueSaid : Prop := fnExactStressValueRow.holds Try.pinned (OpenSpec.ofChange fnExactStressValueSpec)

/-- ITS FALSE NEIGHBOUR: 'it returns false'. Refute it at one input. -/
def fnExactStressValueWrong : ChangeSpec := { name := "fnExactStressValue", fn := fun _ => fun
  | [d1, d2] => { results := [.lit (.bool false)], args := [d1, d2] }
  | _ => none }
def FnExactStressValueWrongFalsely : Prop := fnExactStressValueRow.holds Try.pinned (OpenSpec.ofChange fnExactStressValueWrong)

/-- 'laws.FnConcentration': WHATEVER THE INPUT: true; the input reads as it did. -/
def fnConcentrationSpec : ChangeSpec := { name := "fnConcentration", fn := fun _ => fun
  | [d] => { results := [.lit (.bool true)], args := [d] }
  | _ => none }
def fnConcentrationRow : OpenClaim := { program := "ytiaakolalhdelaa", sum := "36bc73e68843eb4112220ee1e7e692c97e05a8169dbe41753e10310155278ee9", func := "loop.example/g00902/laws.FnConcentration", spec := "fnConcentration", apart := false }
def FnConcentrationSaid : Prop := fnConcentrationRow.holds Try.pinned (OpenSpec.ofChange fnConcentrationSpec)

/-- ITS FALSE NEIGHBOUR: 'it returns false'. Refute it at one input. -/
def fnConcentrationWrong : ChangeSpec := { name := "fnConcentration", fn := fun _ => fun
  | [d] => { results := [.lit (.bool false)], args := [d] }
  | _ => none }
def FnConcentrationWrongFalsely : Prop := fnConcentrationRow.holds Try.pinned (OpenSpec.ofChange fnConcentrationWrong)

/-- 'laws.FnExactConcentrationExcess': WHATEVER THE INPUT: true; the input reads as it did. -/
def fnExactConcentrationExcessSpec : ChangeSpec := { name := "fnExactConcentrationExcess", fn := fun _ => fun
  | [d1, d2] => { results := [.lit (.bool true)], args := [d1, d2] }
  | _ => none }
def fnExactConcentrationExcessRow : OpenClaim := { program := "ytiaakolalhdelaa", sum := "36bc73e68843eb4112220ee1e7e692c97e05a8169dbe41753e10310155278ee9", func := "loop.example/g00902/laws.FnExactConcentrationExcess", spec := "fnExactConcentrationExcess", apart := false }
def FnExactConcentrationExcessSaid : Prop := fnExactConcentrationExcessRow.holds Try.pinned (OpenSpec.ofChange fnExactConcentrationExcessSpec)

/-- ITS FALSE NEIGHBOUR: 'it returns false'. Refute it at one input. -/
def fnExactConcentrationExcessWrong : ChangeSpec := { name := "fnExactConcentrationExcess", fn := fun _ => fun
  | [d1, d2] => { results := [.lit (.bool false)], args := [d1, d2] }
  | _ => none }
def FnExactConcentrationExcessWrongFalsely : Prop := fnExactConcentrationExcessRow.holds Try.pinned (OpenSpec.ofChange fnExactConcentrationExcessWrong)

/-- 'laws.FnExactMarginHistory': WHATEVER THE INPUT: true; the input reads as it did. -/
def fnExactMarginHistorySpec : ChangeSpec := { name := "fnExactMarginHistory", fn := fun _ => fun
  | [d1, d2] => { results := [.lit (.bool true)], args := [d1, d2] }
  | _ => none }
def fnExactMarginHistoryRow : OpenClaim := { program := "ytiaakolalhdelaa", sum := "36bc73e68843eb4112220ee1e7e692c97e05a8169dbe41753e10310155278ee9", func := "loop.example/g00902/laws.FnExactMarginHistory", spec := "fnExactMarginHistory", unfollowed := true, recurses := true, apart := false }
def FnExactMarginHistorySaid : Prop := fnExactMarginHistoryRow.holds Try.pinned (OpenSpec.ofChange fnExactMarginHistorySpec)

/-- ITS FALSE NEIGHBOUR: 'it returns false'. Refute it at one input. -/
def fnExactMarginHistoryWrong : ChangeSpec := { name := "fnExactMarginHistory", fn := fun _ => fun
  | [d1, d2] => { results := [.lit (.bool false)], args := [d1, d2] }
  | _ => none }
def FnExactMarginHistoryWrongFalsely : Prop := fnExactMarginHistoryRow.holds Try.pinned (OpenSpec.ofChange fnExactMarginHistoryWrong)

/-- 'laws.FnMargin': WHATEVER THE INPUT: true; the input reads as it did. -/
def fnMarginSpec : ChangeSpec := { name := "fnMargin", fn := fun _ => fun
  | [d] => { results := [.lit (.bool true)], args := [d] }
  | _ => none }
def fnMarginRow : OpenClaim := { program := "ytiaakolalhdelaa", sum := "36bc73e68843eb4112220ee1e7e692c97e05a8169dbe41753e10310155278ee9", func := "loop.example/g00902/laws.FnMargin", spec := "fnMargin", unfollowed := true, recurses := true, apart := false }
def FnMarginSaid : Prop := fnMarginRow.holds Try.pinned (OpenSpec.ofChange fnMarginSpec)

/-- ITS FALSE NEIGHBOUR: 'it returns false'. Refute it at one input. -/
def fnMarginWrong : ChangeSpec := { name := "fnMargin", fn := fun _ => fun
  | [d] => { results := [.lit (.bool false)], args := [d] }
  | _ => none }
def FnMarginWrongFalsely : Prop := fnMarginRow.holds Try.pinned (OpenSpec.ofChange fnMarginWrong)

/-- 'laws.FnExactSelectAssets': WHATEVER THE INPUT: true; the input reads as it did. -/
def fnExactSelectAssetsSpec : ChangeSpec := { name := "fnExactSelectAssets", fn := fun _ => fun
  | [d1, d2] => { results := [.lit (.bool true)], args := [d1, d2] }
  | _ => none }
def fnExactSelectAssetsRow : OpenClaim := { program := "ytiaakolalhdelaa", sum := "36bc73e68843eb4112220ee1e7e692c97e05a8169dbe41753e10310155278ee9", func := "loop.example/g00902/laws.FnExactSelectAssets", spec := "fnExactSelectAssets", apart := false }
def FnExactSelectAssetsSaid : Prop := fnExactSelectAssetsRow.holds Try.pinned (OpenSpec.ofChange fnExactSelectAssetsSpec)

/-- ITS FALSE NEIGHBOUR: 'it returns false'. Refute it at one input. -/
def fnExactSelectAssetsWrong : ChangeSpec := { name := "fnExactSelectAssets", fn := fun _ => fun
  | [d1, d2] => { results := [.lit (.bool false)], args := [d1, d2] }
  | _ => none }
def FnExactSelectAssetsWrongFalsely : Prop := fnExactSelectAssetsRow.holds Try.pinned (OpenSpec.ofChange fnExactSelectAssetsWrong)

/-- 'laws.FnAssets': WHATEVER THE INPUT: true; the input reads as it did. -/
def fnAssetsSpec : ChangeSpec := { name := "fnAssets", fn := fun _ => fun
  | [d] => { results := [.lit (.bool true)], args := [d] }
  | _ => none }
def fnAssetsRow : OpenClaim := { program := "ytiaakolalhdelaa", sum := "36bc73e68843eb4112220ee1e7e692c97e05a8169dbe41753e10310155278ee9", func := "loop.example/g00902/laws.FnAssets", spec := "fnAssets", unfollowed := true, recurses := true, apart := false }
def FnAssetsSaid : Prop := fnAssetsRow.holds Try.pinned (OpenSpec.ofChange fnAssetsSpec)

/-- ITS FALSE NEIGHBOUR: 'it returns false'. Refute it at one input. -/
def fnAssetsWrong : ChangeSpec := { name := "fnAssets", fn := fun _ => fun
  | [d] => { results := [.lit (.bool false)], args := [d] }
  | _ => none }
def FnAssetsWrongFalsely : Prop := fnAssetsRow.holds Try.pinned (OpenSpec.ofChange fnAssetsWrong)

/- THE SECOND FORM. 'bulk': how many values and letters a reading holds, each counted each time it is reached (what is shared counts as often as it is met; a slice's spare places count too). A statement '..UptoSaid' is the law's where the arguments, and the package variables that the reading takes, are together of bulk at most 1048576: NARROWER than '..Said'. Prove '..Said' where nothing that the law and all that it calls make is longer than what came in: it says more and counts as full. Else prove '..UptoSaid'. A law counts once. -/
mutual
def uptoBulk {H : Type} : DataW H → Nat
  | .lit (.string bytes) => bytes.length + 1
  | .lit _ => 1
  | .nil => 1
  | .ptr d => uptoBulk d + 1
  | .slice elems spare => uptoBulkAll elems + uptoBulkAll spare + 1
  | .agg parts => uptoBulkAll parts + 1
  | .iface _ d => uptoBulk d + 1
  | .map entries => uptoBulkEntries entries + 1
  | .held _ => 1
def uptoBulkAll {H : Type} : List (DataW H) → Nat
  | [] => 0
  | d :: r => uptoBulk d + uptoBulkAll r
def uptoBulkEntries {H : Type} : List (Lit × DataW H) → Nat
  | [] => 0
  | x :: r => uptoBulkEntry x + uptoBulkEntries r
def uptoBulkEntry {H : Type} : Lit × DataW H → Nat
  | (.string bytes, d) => bytes.length + uptoBulk d + 1
  | (_, d) => uptoBulk d + 1
 end
def uptoSmall : (H : Type) → List (DataW H) → Bool := fun _ ds => decide (uptoBulkAll ds ≤ 1048576)
def OpenSpec.upto (s : _root_.Go.ChangeSpec) : _root_.Go.OpenSpec := { _root_.Go.OpenSpec.ofChange s with cond := some uptoSmall }

/-- 'laws.FnExactRequiredAmount', WHERE WHAT IT READS IS OF BULK AT MOST 1048576: true; the input reads as it did. -/
def fnExactRequiredAmountUptoRow : OpenClaim := { program := "ytiaakolalhdelaa", sum := "36bc73e68843eb4112220ee1e7e692c97e05a8169dbe41753e10310155278ee9", func := "loop.example/g00902/laws.FnExactRequiredAmount", spec := "fnExactRequiredAmount", apart := false, narrowed := true }
def FnExactRequiredAmountUptoSaid : Prop := fnExactRequiredAmountUptoRow.holds Try.pinned (OpenSpec.upto fnExactRequiredAmountSpec)

/-- 'laws.FnExactIsValidAssets', WHERE WHAT IT READS IS OF BULK AT MOST 1048576: true; the input reads as it did. -/
def fnExactIsValidAssetsUptoRow : OpenClaim := { program := "ytiaakolalhdelaa", sum := "36bc73e68843eb4112220ee1e7e692c97e05a8169dbe41753e10310155278ee9", func := "loop.example/g00902/laws.FnExactIsValidAssets", spec := "fnExactIsValidAssets", apart := false, narrowed := true }
def FnExactIsValidAssetsUptoSaid : Prop := fnExactIsValidAssetsUptoRow.holds Try.pinned (OpenSpec.upto fnExactIsValidAssetsSpec)

/-- 'laws.FnExactMarginCall', WHERE WHAT IT READS IS OF BULK AT MOST 1048576: true; the input reads as it did. -/
def fnExactMarginCallUptoRow : OpenClaim := { program := "ytiaakolalhdelaa", sum := "36bc73e68843eb4112220ee1e7e692c97e05a8169dbe41753e10310155278ee9", func := "loop.example/g00902/laws.FnExactMarginCall", spec := "fnExactMarginCall", apart := false, narrowed := true }
def FnExactMarginCallUptoSaid : Prop := fnExactMarginCallUptoRow.holds Try.pinned (OpenSpec.upto fnExactMarginCallSpec)

/-- 'laws.FnExactCollateralValue', WHERE WHAT IT READS IS OF BULK AT MOST 1048576: true; the input reads as it did. -/
def fnExactCollateralValueUptoRow : OpenClaim := { program := "ytiaakolalhdelaa", sum := "36bc73e68843eb4112220ee1e7e692c97e05a8169dbe41753e10310155278ee9", func := "loop.example/g00902/laws.FnExactCollateralValue", spec := "fnExactCollateralValue", apart := false, narrowed := true }
def FnExactCollateralValueUptoSaid : Prop := fnExactCollateralValueUptoRow.holds Try.pinned (OpenSpec.upto fnExactCollateralValueSpec)

/-- 'laws.FnExactStressValue', WHERE WHAT IT READS IS OF BULK AT MOST 1048576: true; the input reads as it did. -/
def fnExactStressValueUptoRow : OpenClaim := { program := "ytiaakolalhdelaa", sum := "36bc73e68843eb4112220ee1e7e692c97e05a8169dbe41753e10310155278ee9", func := "loop.example/g00902/laws.FnExactStressValue", spec := "fnExactStressValue", unfollowed := true, recurses := true, apart := false, narrowed := true }
def FnExactStressValueUptoSaid : Prop := fnExactStressValueUptoRow.holds Try.pinned (OpenSpec.upto fnExactStressValueSpec)

/-- 'laws.FnConcentration', WHERE WHAT IT READS IS OF BULK AT MOST 1048576: true; the input reads as it did. -/
def fnConcentrationUptoRow : OpenClaim := { program := "ytiaakolalhdelaa", sum := "36bc73e68843eb4112220ee1e7e692c97e05a8169dbe41753e10310155278ee9", func := "loop.example/g00902/laws.FnConcentration", spec := "fnConcentration", apart := false, narrowed := true }
def FnConcentrationUptoSaid : Prop := fnConcentrationUptoRow.holds Try.pinned (OpenSpec.upto fnConcentrationSpec)

/-- 'laws.FnExactConcentrationExcess', WHERE WHAT IT READS IS OF BULK AT MOST 1048576: true; the input reads as it did. -/
def fnExactConcentrationExcessUptoRow : OpenClaim := { program := "ytiaakolalhdelaa", sum := "36bc73e68843eb4112220ee1e7e692c97e05a8169dbe41753e10310155278ee9", func := "loop.example/g00902/laws.FnExactConcentrationExcess", spec := "fnExactConcentrationExcess", apart := false, narrowed := true }
def FnExactConcentrationExcessUptoSaid : Prop := fnExactConcentrationExcessUptoRow.holds Try.pinned (OpenSpec.upto fnExactConcentrationExcessSpec)

/-- 'laws.FnExactMarginHistory', WHERE WHAT IT READS IS OF BULK AT MOST 1048576: true; the input reads as it did. -/
def fnExactMarginHistoryUptoRow : OpenClaim := { program := "ytiaakolalhdelaa", sum := "36bc73e68843eb4112220ee1e7e692c97e05a8169dbe41753e10310155278ee9", func := "loop.example/g00902/laws.FnExactMarginHistory", spec := "fnExactMarginHistory", unfollowed := true, recurses := true, apart := false, narrowed := true }
def FnExactMarginHistoryUptoSaid : Prop := fnExactMarginHistoryUptoRow.holds Try.pinned (OpenSpec.upto fnExactMarginHistorySpec)

/-- 'laws.FnMargin', WHERE WHAT IT READS IS OF BULK AT MOST 1048576: true; the input reads as it did. -/
def fnMarginUptoRow : OpenClaim := { program := "ytiaakolalhdelaa", sum := "36bc73e68843eb4112220ee1e7e692c97e05a8169dbe41753e10310155278ee9", func := "loop.example/g00902/laws.FnMargin", spec := "fnMargin", unfollowed := true, recurses := true, apart := false, narrowed := true }
def FnMarginUptoSaid : Prop := fnMarginUptoRow.holds Try.pinned (OpenSpec.upto fnMarginSpec)

/-- 'laws.FnExactSelectAssets', WHERE WHAT IT READS IS OF BULK AT MOST 1048576: true; the input reads as it did. -/
def fnExactSelectAssetsUptoRow : OpenClaim := { program := "ytiaakolalhdelaa", sum := "36bc73e68843eb4112220ee1e7e692c97e05a8169dbe41753e10310155278ee9", func := "loop.example/g00902/laws.FnExactSelectAssets", spec := "fnExactSelectAssets", apart := false, narrowed := true }
def FnExactSelectAssetsUptoSaid : Prop := fnExactSelectAssetsUptoRow.holds Try.pinned (OpenSpec.upto fnExactSelectAssetsSpec)

/-- 'laws.FnAssets', WHERE WHAT IT READS IS OF BULK AT MOST 1048576: true; the input reads as it did. -/
def fnAssetsUptoRow : OpenClaim := { program := "ytiaakolalhdelaa", sum := "36bc73e68843eb4112220ee1e7e692c97e05a8169dbe41753e10310155278ee9", func := "loop.example/g00902/laws.FnAssets", spec := "fnAssets", unfollowed := true, recurses := true, apart := false, narrowed := true }
def FnAssetsUptoSaid : Prop := fnAssetsUptoRow.holds Try.pinned (OpenSpec.upto fnAssetsSpec)

end Rows
end Go.Proofs.Ytiaakolalhdelaa
