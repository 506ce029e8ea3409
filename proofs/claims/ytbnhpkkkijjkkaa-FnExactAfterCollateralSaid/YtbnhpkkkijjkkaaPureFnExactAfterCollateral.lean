/- The law FnExactAfterCollateral over the printed functions: for all arguments of Go's kinds there is a number of rounds at which it answers true. No other condition. -/
import Derived.Test.YtbnhpkkkijjkkaaPFnExactAfterCollateralx0
import Derived.Test.YtbnhpkkkijjkkaaPFnExactAfterCollateralx1
import Derived.Test.YtbnhpkkkijjkkaaEvKit
import Derived.Test.YtbnhpkkkijjkkaaKReads
namespace Go.Proofs.Ytbnhpkkkijjkkaa.Pure
open Go.RowKit Go.Proofs.YtbnhpkkkijjkkaaW.PrintWords Go.Proofs.YtbnhpkkkijjkkaaW.PrintLast Go.Proofs.YtbnhpkkkijjkkaaW.PrintMore Go.Proofs.Ytbnhpkkkijjkkaa.PFnExactAfterCollateral Go.Proofs.Ytbnhpkkkijjkkaa.EvKit
set_option linter.unusedVariables false
set_option linter.unusedSimpArgs false
theorem within_eq (a b c : Int) : impl_within.f a b c = some (decide (b ≤ a ∧ a ≤ c)) := by
  unfold impl_within.f
  by_cases h : a ≥ b
  · rw [if_pos h]; exact congrArg some (decide_eq_decide.mpr ⟨fun g => ⟨h, g⟩, fun g => g.2⟩)
  · rw [if_neg h]; exact congrArg some (decide_eq_false (fun g => h g.1)).symm
theorem l1In_eq (a b c : Int) : spec_l1In.f a b c = some (decide (b ≤ a ∧ a ≤ c)) := by
  unfold spec_l1In.f
  by_cases h : a ≥ b
  · rw [if_pos h]; exact congrArg some (decide_eq_decide.mpr ⟨fun g => ⟨h, g⟩, fun g => g.2⟩)
  · rw [if_neg h]; exact congrArg some (decide_eq_false (fun g => h g.1)).symm

theorem isAmount_eq (a : Int) : impl_isAmount.f a = some (decide (-1000000000 ≤ a ∧ a ≤ 1000000000)) := by
  unfold impl_isAmount.f; rw [within_eq]; rfl

theorem l2Amount_eq (a : Int) : spec_l2Amount.f a = some (decide (-1000000000 ≤ a ∧ a ≤ 1000000000)) := by
  unfold spec_l2Amount.f; rw [l1In_eq]; rfl

theorem FnExactAfterCollateral (a0 a1 a2 : Int) (h0 : -9223372036854775808 ≤ a0 ∧ a0 ≤ 9223372036854775807) (h1 : -9223372036854775808 ≤ a1 ∧ a1 ≤ 9223372036854775807) (h2 : -9223372036854775808 ≤ a2 ∧ a2 ≤ 9223372036854775807) : laws_FnExactAfterCollateral.f a0 a1 a2 = some true := by
  have e : spec_AfterCollateral.f a0 a1 a2 = impl_AfterCollateral.f a0 a1 a2 := by
    simp only [spec_AfterCollateral.f, impl_AfterCollateral.f, impl_amountOr.f, spec_l15Principal.f, l1In_eq, within_eq, isAmount_eq, l2Amount_eq, Option.bind_some, decide_eq_true_eq]
    split
    · split
      · split
        · split <;> rfl
        · rfl
      · rfl
    · rfl
  have g : ∃ r, impl_AfterCollateral.f a0 a1 a2 = some r := by
    simp only [impl_AfterCollateral.f, impl_amountOr.f, within_eq, isAmount_eq, Option.bind_some, decide_eq_true_eq]
    split
    · split
      · split
        · split <;> exact ⟨_, rfl⟩
        · exact ⟨_, rfl⟩
      · exact ⟨_, rfl⟩
    · exact ⟨_, rfl⟩
  obtain ⟨r, hr⟩ := g
  simp only [laws_FnExactAfterCollateral.f, e, hr, Option.bind_some]
  simp
end Go.Proofs.Ytbnhpkkkijjkkaa.Pure
