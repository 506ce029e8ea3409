/- The law FnExactRequiredAmount over the printed functions: for all arguments of Go's kinds there is a number of rounds at which it answers true. No other condition. -/
import Derived.Test.YtiaakolalhdelaaPFnExactRequiredAmountx0
import Derived.Test.YtiaakolalhdelaaPFnExactRequiredAmountx1
import Derived.Test.YtiaakolalhdelaaEvKit
import Derived.Test.YtiaakolalhdelaaKReads
namespace Go.Proofs.Ytiaakolalhdelaa.Pure
open Go.RowKit Go.Proofs.YtiaakolalhdelaaW.PrintWords Go.Proofs.YtiaakolalhdelaaW.PrintLast Go.Proofs.YtiaakolalhdelaaW.PrintMore Go.Proofs.Ytiaakolalhdelaa.PFnExactRequiredAmount Go.Proofs.Ytiaakolalhdelaa.EvKit
set_option linter.unusedVariables false
set_option linter.unusedSimpArgs false
theorem within_eq (a b c : Int) : impl_within.f a b c = some (decide (b ≤ a ∧ a ≤ c)) := by
  unfold impl_within.f
  by_cases h : a ≥ b
  · rw [if_pos h]; exact congrArg some (decide_eq_decide.mpr ⟨fun g => ⟨h, g⟩, fun g => g.2⟩)
  · rw [if_neg h]; exact congrArg some (decide_eq_false (fun g => h g.1)).symm
theorem l1In_eq (a b c : Int) : spec_l1In.f a b c = some (decide (b ≤ a ∧ a ≤ c)) := by
  unfold spec_l1In.f
  by_cases h : a ≥ b
  · rw [if_pos h]; exact congrArg some (decide_eq_decide.mpr ⟨fun g => ⟨h, g⟩, fun g => g.2⟩)
  · rw [if_neg h]; exact congrArg some (decide_eq_false (fun g => h g.1)).symm

theorem isAmount_eq (a : Int) : impl_isAmount.f a = some (decide (-1000000000 ≤ a ∧ a ≤ 1000000000)) := by
  unfold impl_isAmount.f; rw [within_eq]; rfl

theorem l2Amount_eq (a : Int) : spec_l2Amount.f a = some (decide (-1000000000 ≤ a ∧ a ≤ 1000000000)) := by
  unfold spec_l2Amount.f; rw [l1In_eq]; rfl

def max0 (x : Int) : Int := if 0 < x then x else 0
theorem max0_bd (x : Int) : 0 ≤ max0 x ∧ (x ≤ 1000000000 → max0 x ≤ 1000000000) ∧ (max0 x ≤ 1000000000 → x ≤ 1000000000) := by unfold max0; split <;> omega

def okT (i t m r : Int) : Prop := (0 ≤ i ∧ i ≤ 1000000000) ∧ (0 ≤ t ∧ t ≤ 1000000000) ∧ (0 ≤ m ∧ m ≤ 1000000000) ∧ (1 ≤ r ∧ r ≤ 1000000000)
instance (i t m r : Int) : Decidable (okT i t m r) := by unfold okT; infer_instance
theorem l17Terms_eq (i t m r : Int) : spec_l17Terms.f i t m r = some (decide (okT i t m r)) := by
  simp only [spec_l17Terms.f, l1In_eq, Option.bind_some, decide_eq_true_eq]
  split
  · rename_i c1
    split
    · rename_i c2
      split
      · rename_i c3; exact congrArg some (decide_eq_decide.mpr ⟨fun g => ⟨c1, c2, c3, g⟩, fun g => g.2.2.2⟩)
      · rename_i c3; exact congrArg some (decide_eq_false (fun g => c3 g.2.2.1)).symm
    · rename_i c2; exact congrArg some (decide_eq_false (fun g => c2 g.2.1)).symm
  · rename_i c1; exact congrArg some (decide_eq_false (fun g => c1 g.1)).symm
theorem isMargin_eq (i t m r : Int) : impl_isMargin.f i t m r = some (decide (okT i t m r)) := by
  simp only [impl_isMargin.f, within_eq, Option.bind_some, decide_eq_true_eq]
  split
  · rename_i c1
    split
    · rename_i c2
      split
      · rename_i c3; exact congrArg some (decide_eq_decide.mpr ⟨fun g => ⟨c1, c2, c3, g⟩, fun g => g.2.2.2⟩)
      · rename_i c3; exact congrArg some (decide_eq_false (fun g => c3 g.2.2.1)).symm
    · rename_i c2; exact congrArg some (decide_eq_false (fun g => c2 g.2.1)).symm
  · rename_i c1; exact congrArg some (decide_eq_false (fun g => c1 g.1)).symm
def reqOk (e i t m r : Int) : Prop := (-1000000000 ≤ e ∧ e ≤ 1000000000) ∧ okT i t m r ∧ e + i - t ≤ 1000000000
instance (e i t m r : Int) : Decidable (reqOk e i t m r) := by unfold reqOk; infer_instance
def reqA (e i t m r : Int) : Int × Bool := if reqOk e i t m r then (max0 (e + i - t), true) else (0, false)
theorem reqA_no {e i t m r : Int} (h : ¬ reqOk e i t m r) : reqA e i t m r = (0, false) := if_neg h
theorem reqA_yes {e i t m r : Int} (h : reqOk e i t m r) : reqA e i t m r = (max0 (e + i - t), true) := if_pos h
theorem specRequired_eq (e i t m r : Int) : spec_RequiredAmount.f e i t m r = some (reqA e i t m r) := by
  simp only [spec_RequiredAmount.f, l2Amount_eq, l17Terms_eq, Option.bind_some, decide_eq_true_eq]
  split
  · rename_i c1
    split
    · rename_i c2
      have hw : wrap64 (wrap64 (e + i) - t) = e + i - t := by
        have := c2.1; have := c2.2.1
        rw [wrapId (x := e + i) (by omega), wrapId (by omega)]
      have hr : spec_l17Required.f e i t m r = some (max0 (e + i - t)) := by
        simp only [spec_l17Required.f, spec_l1Most.f, hw, max0]
        split <;> rfl
      simp only [hr, l2Amount_eq, Option.bind_some, decide_eq_true_eq]
      have hb := max0_bd (e + i - t)
      split
      · rw [reqA_yes ⟨c1, c2, by omega⟩]
      · rename_i c3; rw [reqA_no (fun g => by have := g.2.2; omega)]
    · rename_i c2; rw [reqA_no (fun g => c2 g.2.1)]
  · rename_i c1; rw [reqA_no (fun g => c1 g.1)]
theorem implRequired_ev (e i t m r : Int) : Ev (fun k => impl_RequiredAmount.f k e i t m r) (reqA e i t m r) := by
  simp only [impl_RequiredAmount.f, isAmount_eq, isMargin_eq, Option.bind_some, decide_eq_true_eq]
  refine evIte (fun c1 => ?_) (fun c1 => ?_)
  · refine evSucc ?_
    simp only [impl_RequiredAmount.j0, isAmount_eq, Option.bind_some, decide_eq_true_eq]
    by_cases c2 : okT i t m r
    · refine evNeg (by simp [c2]) ?_
      have hw : wrap64 (wrap64 (e + i) - t) = e + i - t := by
        have := c2.1; have := c2.2.1
        rw [wrapId (x := e + i) (by omega), wrapId (by omega)]
      have hm : mx 0 (e + i - t) = max0 (e + i - t) := rfl
      simp only [hw, hm]
      have hb := max0_bd (e + i - t)
      refine evIte (fun c3 => ?_) (fun c3 => ?_)
      · exact evSome (reqA_yes ⟨c1, c2, by omega⟩).symm
      · exact evSome (reqA_no (fun g => by have := g.2.2; omega)).symm
    · refine evPos (by simp [c2]) ?_
      exact evSome (reqA_no (fun g => c2 g.2.1)).symm
  · refine evSucc ?_
    simp only [impl_RequiredAmount.j0]
    refine evPos (by trivial) ?_
    exact evSome (reqA_no (fun g => c1 g.1)).symm

theorem FnExactRequiredAmount (a0 a1 a2 a3 a4 : Int) (h0 : -9223372036854775808 ≤ a0 ∧ a0 ≤ 9223372036854775807) (ok : KReads.InI a1 ∧ KReads.InI a2 ∧ KReads.InI a3 ∧ KReads.InI a4) : ∃ k, laws_FnExactRequiredAmount.f k a0 a1 a2 a3 a4 = some true := by
  refine Ev.rounds ?_
  simp only [laws_FnExactRequiredAmount.f, laws_toMarginTerms.f, specRequired_eq, Option.bind_some]
  refine evBind (implRequired_ev _ _ _ _ _) ?_
  repeat (first
    | dsimp only
    | exact Ev.now _
    | (refine evBind (by with_reducible assumption) ?_)
    | (refine evBindS (by with_reducible assumption) ?_)
    | (refine evPos (by with_reducible rfl) ?_)
    | (refine evPos True.intro ?_)
    | (refine evNeg not_false ?_)
    | (refine evNeg (by rw [bne_self_eq_false]; exact Bool.false_ne_true) ?_)
    | (refine evNeg Bool.false_ne_true ?_)
    | (refine evPos (by omega) ?_)
    | (refine evNeg (by omega) ?_))
end Go.Proofs.Ytiaakolalhdelaa.Pure
