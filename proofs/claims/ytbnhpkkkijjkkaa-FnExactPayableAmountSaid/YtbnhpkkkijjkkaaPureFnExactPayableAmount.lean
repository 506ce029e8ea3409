/- The law FnExactPayableAmount over the printed functions: for all arguments of Go's kinds there is a number of rounds at which it answers true. No other condition. -/
import Derived.Test.YtbnhpkkkijjkkaaPFnExactPayableAmountx0
import Derived.Test.YtbnhpkkkijjkkaaPFnExactPayableAmountx1
import Derived.Test.YtbnhpkkkijjkkaaEvKit
import Derived.Test.YtbnhpkkkijjkkaaKReads
namespace Go.Proofs.Ytbnhpkkkijjkkaa.Pure
open Go.RowKit Go.Proofs.YtbnhpkkkijjkkaaW.PrintWords Go.Proofs.YtbnhpkkkijjkkaaW.PrintLast Go.Proofs.YtbnhpkkkijjkkaaW.PrintMore Go.Proofs.Ytbnhpkkkijjkkaa.PFnExactPayableAmount Go.Proofs.Ytbnhpkkkijjkkaa.EvKit
set_option linter.unusedVariables false
set_option linter.unusedSimpArgs false
theorem within_eq (a b c : Int) : impl_within.f a b c = some (decide (b ≤ a ∧ a ≤ c)) := by
  unfold impl_within.f
  by_cases h : a ≥ b
  · rw [if_pos h]; exact congrArg some (decide_eq_decide.mpr ⟨fun g => ⟨h, g⟩, fun g => g.2⟩)
  · rw [if_neg h]; exact congrArg some (decide_eq_false (fun g => h g.1)).symm
theorem l1In_eq (a b c : Int) : spec_l1In.f a b c = some (decide (b ≤ a ∧ a ≤ c)) := by
  unfold spec_l1In.f
  by_cases h : a ≥ b
  · rw [if_pos h]; exact congrArg some (decide_eq_decide.mpr ⟨fun g => ⟨h, g⟩, fun g => g.2⟩)
  · rw [if_neg h]; exact congrArg some (decide_eq_false (fun g => h g.1)).symm

theorem isAmount_eq (a : Int) : impl_isAmount.f a = some (decide (-1000000000 ≤ a ∧ a ≤ 1000000000)) := by
  unfold impl_isAmount.f; rw [within_eq]; rfl

theorem l2Amount_eq (a : Int) : spec_l2Amount.f a = some (decide (-1000000000 ≤ a ∧ a ≤ 1000000000)) := by
  unfold spec_l2Amount.f; rw [l1In_eq]; rfl

theorem FnExactPayableAmount (a0 : Int) (a1 a2 : Bool) (h0 : -9223372036854775808 ≤ a0 ∧ a0 ≤ 9223372036854775807) : laws_FnExactPayableAmount.f a0 a1 a2 = some true := by
  by_cases hv : -1000000000 ≤ a0 ∧ a0 ≤ 1000000000
  · have e : spec_PayableAmount.f a0 a1 a2 = impl_PayableAmount.f a0 a1 a2 := by
      simp only [spec_PayableAmount.f, impl_PayableAmount.f, isAmount_eq, l2Amount_eq, Option.bind_some, decide_eq_true_eq, if_pos hv]
      cases a2
      · rfl
      · cases a1
        · by_cases h1 : a0 < 0
          · simp [h1]; omega
          · by_cases h2 : a0 > 0
            · simp [h2, h1]
            · have : a0 = 0 := by omega
              subst this; simp
        · by_cases h1 : a0 < 0 <;> simp [h1]
    have g : ∃ r, impl_PayableAmount.f a0 a1 a2 = some r := by
      simp only [impl_PayableAmount.f, isAmount_eq, Option.bind_some]
      repeat (first | exact ⟨_, rfl⟩ | split)
    obtain ⟨r, hr⟩ := g
    simp only [laws_FnExactPayableAmount.f, e, hr, Option.bind_some]
    simp
  · simp [laws_FnExactPayableAmount.f, spec_PayableAmount.f, impl_PayableAmount.f, isAmount_eq, l2Amount_eq, hv]
end Go.Proofs.Ytbnhpkkkijjkkaa.Pure
