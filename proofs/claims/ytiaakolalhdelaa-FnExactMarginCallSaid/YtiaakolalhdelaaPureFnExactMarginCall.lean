/- The plain law of FnExactMarginCall: the printed functions that it uses answer as plain Lean functions do. No other condition. -/
import Derived.Test.YtiaakolalhdelaaPL17MHx0
import Derived.Test.YtiaakolalhdelaaPL17MHx1
import Derived.Test.YtiaakolalhdelaaPL17MHx2
import Derived.Test.YtiaakolalhdelaaPL17MHx3
import Derived.Test.YtiaakolalhdelaaPL17MHx4
import Derived.Test.YtiaakolalhdelaaPL17MHx5
import Derived.Test.YtiaakolalhdelaaPL17MHx6
import Derived.Test.YtiaakolalhdelaaPL17MHx7
import Derived.Test.YtiaakolalhdelaaEvKit
import Derived.Test.YtiaakolalhdelaaKReads
namespace Go.Proofs.Ytiaakolalhdelaa.Pure
open Go.RowKit Go.Proofs.YtiaakolalhdelaaW.PrintWords Go.Proofs.YtiaakolalhdelaaW.PrintLast Go.Proofs.YtiaakolalhdelaaW.PrintMore Go.Proofs.Ytiaakolalhdelaa.PL17MH Go.Proofs.Ytiaakolalhdelaa.EvKit
set_option linter.unusedVariables false
set_option linter.unusedSimpArgs false
theorem within_eq (a b c : Int) : impl_within.f a b c = some (decide (b ≤ a ∧ a ≤ c)) := by
  unfold impl_within.f
  by_cases h : a ≥ b
  · rw [if_pos h]; exact congrArg some (decide_eq_decide.mpr ⟨fun g => ⟨h, g⟩, fun g => g.2⟩)
  · rw [if_neg h]; exact congrArg some (decide_eq_false (fun g => h g.1)).symm
theorem l1In_eq (a b c : Int) : spec_l1In.f a b c = some (decide (b ≤ a ∧ a ≤ c)) := by
  unfold spec_l1In.f
  by_cases h : a ≥ b
  · rw [if_pos h]; exact congrArg some (decide_eq_decide.mpr ⟨fun g => ⟨h, g⟩, fun g => g.2⟩)
  · rw [if_neg h]; exact congrArg some (decide_eq_false (fun g => h g.1)).symm

theorem isAmount_eq (a : Int) : impl_isAmount.f a = some (decide (-1000000000 ≤ a ∧ a ≤ 1000000000)) := by
  unfold impl_isAmount.f; rw [within_eq]; rfl

theorem l2Amount_eq (a : Int) : spec_l2Amount.f a = some (decide (-1000000000 ≤ a ∧ a ≤ 1000000000)) := by
  unfold spec_l2Amount.f; rw [l1In_eq]; rfl

def max0 (x : Int) : Int := if 0 < x then x else 0
theorem max0_bd (x : Int) : 0 ≤ max0 x ∧ (x ≤ 1000000000 → max0 x ≤ 1000000000) ∧ (max0 x ≤ 1000000000 → x ≤ 1000000000) := by unfold max0; split <;> omega

def okT (i t m r : Int) : Prop := (0 ≤ i ∧ i ≤ 1000000000) ∧ (0 ≤ t ∧ t ≤ 1000000000) ∧ (0 ≤ m ∧ m ≤ 1000000000) ∧ (1 ≤ r ∧ r ≤ 1000000000)
instance (i t m r : Int) : Decidable (okT i t m r) := by unfold okT; infer_instance
theorem l17Terms_eq (i t m r : Int) : spec_l17Terms.f i t m r = some (decide (okT i t m r)) := by
  simp only [spec_l17Terms.f, l1In_eq, Option.bind_some, decide_eq_true_eq]
  split
  · rename_i c1
    split
    · rename_i c2
      split
      · rename_i c3; exact congrArg some (decide_eq_decide.mpr ⟨fun g => ⟨c1, c2, c3, g⟩, fun g => g.2.2.2⟩)
      · rename_i c3; exact congrArg some (decide_eq_false (fun g => c3 g.2.2.1)).symm
    · rename_i c2; exact congrArg some (decide_eq_false (fun g => c2 g.2.1)).symm
  · rename_i c1; exact congrArg some (decide_eq_false (fun g => c1 g.1)).symm
theorem isMargin_eq (i t m r : Int) : impl_isMargin.f i t m r = some (decide (okT i t m r)) := by
  simp only [impl_isMargin.f, within_eq, Option.bind_some, decide_eq_true_eq]
  split
  · rename_i c1
    split
    · rename_i c2
      split
      · rename_i c3; exact congrArg some (decide_eq_decide.mpr ⟨fun g => ⟨c1, c2, c3, g⟩, fun g => g.2.2.2⟩)
      · rename_i c3; exact congrArg some (decide_eq_false (fun g => c3 g.2.2.1)).symm
    · rename_i c2; exact congrArg some (decide_eq_false (fun g => c2 g.2.1)).symm
  · rename_i c1; exact congrArg some (decide_eq_false (fun g => c1 g.1)).symm
def reqOk (e i t m r : Int) : Prop := (-1000000000 ≤ e ∧ e ≤ 1000000000) ∧ okT i t m r ∧ e + i - t ≤ 1000000000
instance (e i t m r : Int) : Decidable (reqOk e i t m r) := by unfold reqOk; infer_instance
def reqA (e i t m r : Int) : Int × Bool := if reqOk e i t m r then (max0 (e + i - t), true) else (0, false)
theorem reqA_no {e i t m r : Int} (h : ¬ reqOk e i t m r) : reqA e i t m r = (0, false) := if_neg h
theorem reqA_yes {e i t m r : Int} (h : reqOk e i t m r) : reqA e i t m r = (max0 (e + i - t), true) := if_pos h
theorem specRequired_eq (e i t m r : Int) : spec_RequiredAmount.f e i t m r = some (reqA e i t m r) := by
  simp only [spec_RequiredAmount.f, l2Amount_eq, l17Terms_eq, Option.bind_some, decide_eq_true_eq]
  split
  · rename_i c1
    split
    · rename_i c2
      have hw : wrap64 (wrap64 (e + i) - t) = e + i - t := by
        have := c2.1; have := c2.2.1
        rw [wrapId (x := e + i) (by omega), wrapId (by omega)]
      have hr : spec_l17Required.f e i t m r = some (max0 (e + i - t)) := by
        simp only [spec_l17Required.f, spec_l1Most.f, hw, max0]
        split <;> rfl
      simp only [hr, l2Amount_eq, Option.bind_some, decide_eq_true_eq]
      have hb := max0_bd (e + i - t)
      split
      · rw [reqA_yes ⟨c1, c2, by omega⟩]
      · rename_i c3; rw [reqA_no (fun g => by have := g.2.2; omega)]
    · rename_i c2; rw [reqA_no (fun g => c2 g.2.1)]
  · rename_i c1; rw [reqA_no (fun g => c1 g.1)]
theorem implRequired_ev (e i t m r : Int) : Ev (fun k => impl_RequiredAmount.f k e i t m r) (reqA e i t m r) := by
  simp only [impl_RequiredAmount.f, isAmount_eq, isMargin_eq, Option.bind_some, decide_eq_true_eq]
  refine evIte (fun c1 => ?_) (fun c1 => ?_)
  · refine evSucc ?_
    simp only [impl_RequiredAmount.j0, isAmount_eq, Option.bind_some, decide_eq_true_eq]
    by_cases c2 : okT i t m r
    · refine evNeg (by simp [c2]) ?_
      have hw : wrap64 (wrap64 (e + i) - t) = e + i - t := by
        have := c2.1; have := c2.2.1
        rw [wrapId (x := e + i) (by omega), wrapId (by omega)]
      have hm : mx 0 (e + i - t) = max0 (e + i - t) := rfl
      simp only [hw, hm]
      have hb := max0_bd (e + i - t)
      refine evIte (fun c3 => ?_) (fun c3 => ?_)
      · exact evSome (reqA_yes ⟨c1, c2, by omega⟩).symm
      · exact evSome (reqA_no (fun g => by have := g.2.2; omega)).symm
    · refine evPos (by simp [c2]) ?_
      exact evSome (reqA_no (fun g => c2 g.2.1)).symm
  · refine evSucc ?_
    simp only [impl_RequiredAmount.j0]
    refine evPos (by trivial) ?_
    exact evSome (reqA_no (fun g => c1 g.1)).symm

def callN (d r : Int) : Int := if d < 0 then -(-d / r * r) else (d + r - 1) / r * r
def absI (n : Int) : Int := if n < 0 then -n else n
def callOk (e h i t m r : Int) : Prop := reqOk e i t m r ∧ 0 ≤ h ∧ h ≤ 1000000000
instance (e h i t m r : Int) : Decidable (callOk e h i t m r) := by unfold callOk; infer_instance
def callEnd (n m : Int) : Int × Bool := if absI n < m then (0, true) else if -1000000000 ≤ n ∧ n ≤ 1000000000 then (n, true) else (0, false)
def callA (e h i t m r : Int) : Int × Bool := if callOk e h i t m r then callEnd (callN (max0 (e + i - t) - h) r) m else (0, false)
theorem ediv_facts (a r : Int) (ha : 0 ≤ a) (hr : 1 ≤ r) : 0 ≤ a / r ∧ a / r ≤ a ∧ 0 ≤ a / r * r ∧ a / r * r ≤ a ∧ a < a / r * r + r := by
  have h1 : 0 ≤ a / r := Int.ediv_nonneg ha (by omega)
  have h2 : a / r * r ≤ a := Int.ediv_mul_le a (by omega)
  have h3 : a < (a / r + 1) * r := Int.lt_ediv_add_one_mul_self a (by omega)
  have h4 : 0 ≤ a / r * r := Int.mul_nonneg h1 (by omega)
  have h5 : a / r ≤ a := Int.ediv_le_self r ha
  rw [Int.add_mul, Int.one_mul] at h3
  exact ⟨h1, h5, h4, h2, h3⟩
/-- What the two ways of computing a call meet on their way. -/
theorem call_parts (d m r : Int) (hd : -1000000000 ≤ d ∧ d ≤ 1000000000) (hr : 1 ≤ r ∧ r ≤ 1000000000) : ∃ q1 n1 q2 n2 : Int, (Int.tdiv (d + r - 1) r = q1 ∧ q1 * r = n1 ∧ -4000000000 ≤ n1 ∧ n1 ≤ 4000000000 ∧ -4000000000 ≤ q1 ∧ q1 ≤ 4000000000) ∧ (d ≤ 0 → Int.tdiv (-d) r = q2 ∧ q2 * r = n2 ∧ 0 ≤ n2 ∧ n2 ≤ 1000000000 ∧ 0 ≤ q2 ∧ q2 ≤ 1000000000) ∧ (d < 0 → callN d r = -n2) ∧ (0 ≤ d → callN d r = n1 ∧ 0 ≤ n1) ∧ (d = 0 → n1 = 0 ∧ n2 = 0) := by
  refine ⟨Int.tdiv (d + r - 1) r, Int.tdiv (d + r - 1) r * r, Int.tdiv (-d) r, Int.tdiv (-d) r * r, ⟨rfl, rfl, ?_⟩, fun h => ⟨rfl, rfl, ?_⟩, fun h => ?_, fun h => ?_, fun h => ?_⟩
  · have f1 := Int.natAbs_tdiv_le_natAbs (d + r - 1) r
    rcases Int.lt_or_le (d + r - 1) 0 with g | g
    · have f := ediv_facts (-(d + r - 1)) r (by omega) hr.1
      have e1 : Int.tdiv (d + r - 1) r = -((-(d + r - 1)) / r) := by
        rw [show d + r - 1 = -(-(d + r - 1)) by omega, Int.neg_tdiv, Int.tdiv_eq_ediv_of_nonneg (by omega)]
        congr 2; omega
      rw [e1, Int.neg_mul]; omega
    · have f := ediv_facts (d + r - 1) r g hr.1
      rw [Int.tdiv_eq_ediv_of_nonneg g]; omega
  · have f := ediv_facts (-d) r (by omega) hr.1
    rw [Int.tdiv_eq_ediv_of_nonneg (by omega)]; omega
  · unfold callN; rw [if_pos h, Int.tdiv_eq_ediv_of_nonneg (by omega)]
  · have f := ediv_facts (d + r - 1) r (by omega) hr.1
    unfold callN; rw [if_neg (by omega), Int.tdiv_eq_ediv_of_nonneg (by omega)]; exact ⟨rfl, f.2.2.1⟩
  · subst h
    have f := ediv_facts (r - 1) r (by omega) hr.1
    have f0 : (r - 1) / r = 0 := Int.ediv_eq_zero_of_lt (by omega) (by omega)
    rw [show (0 : Int) + r - 1 = r - 1 by omega, Int.tdiv_eq_ediv_of_nonneg (by omega), f0]
    simp
theorem l1Most_eq (n : Int) (h : -4000000000 ≤ n ∧ n ≤ 4000000000) : spec_l1Most.f n (-n) = some (absI n) := by
  unfold spec_l1Most.f absI
  split <;> split <;> first | rfl | (congr 1; omega) | omega
end Go.Proofs.Ytiaakolalhdelaa.Pure
