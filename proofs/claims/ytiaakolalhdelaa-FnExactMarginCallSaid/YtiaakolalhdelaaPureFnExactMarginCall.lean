/- The law FnExactMarginCall over the printed functions: for all arguments of Go's kinds there is a number of rounds at which it answers true. No other condition. -/
import Derived.Test.YtiaakolalhdelaaRFnExactMarginCallx0
import Derived.Test.YtiaakolalhdelaaRFnExactMarginCallx1
import Derived.Test.YtiaakolalhdelaaRFnExactMarginCallx2
import Derived.Test.YtiaakolalhdelaaEvKit
import Derived.Test.YtiaakolalhdelaaKReads
namespace Go.Proofs.Ytiaakolalhdelaa.Pure
open Go.RowKit Go.Proofs.YtiaakolalhdelaaW.PrintWords Go.Proofs.YtiaakolalhdelaaW.PrintLast Go.Proofs.YtiaakolalhdelaaW.PrintMore Go.Proofs.Ytiaakolalhdelaa.PFnExactMarginCall Go.Proofs.Ytiaakolalhdelaa.EvKit
set_option linter.unusedVariables false
set_option linter.unusedSimpArgs false
theorem within_eq (a b c : Int) : impl_within.f a b c = some (decide (b ≤ a ∧ a ≤ c)) := by
  unfold impl_within.f
  by_cases h : a ≥ b
  · rw [if_pos h]; exact congrArg some (decide_eq_decide.mpr ⟨fun g => ⟨h, g⟩, fun g => g.2⟩)
  · rw [if_neg h]; exact congrArg some (decide_eq_false (fun g => h g.1)).symm
theorem l1In_eq (a b c : Int) : spec_l1In.f a b c = some (decide (b ≤ a ∧ a ≤ c)) := by
  unfold spec_l1In.f
  by_cases h : a ≥ b
  · rw [if_pos h]; exact congrArg some (decide_eq_decide.mpr ⟨fun g => ⟨h, g⟩, fun g => g.2⟩)
  · rw [if_neg h]; exact congrArg some (decide_eq_false (fun g => h g.1)).symm

theorem isAmount_eq (a : Int) : impl_isAmount.f a = some (decide (-1000000000 ≤ a ∧ a ≤ 1000000000)) := by
  unfold impl_isAmount.f; rw [within_eq]; rfl

theorem l2Amount_eq (a : Int) : spec_l2Amount.f a = some (decide (-1000000000 ≤ a ∧ a ≤ 1000000000)) := by
  unfold spec_l2Amount.f; rw [l1In_eq]; rfl

def max0 (x : Int) : Int := if 0 < x then x else 0
theorem max0_bd (x : Int) : 0 ≤ max0 x ∧ (x ≤ 1000000000 → max0 x ≤ 1000000000) ∧ (max0 x ≤ 1000000000 → x ≤ 1000000000) := by unfold max0; split <;> omega

def okT (i t m r : Int) : Prop := (0 ≤ i ∧ i ≤ 1000000000) ∧ (0 ≤ t ∧ t ≤ 1000000000) ∧ (0 ≤ m ∧ m ≤ 1000000000) ∧ (1 ≤ r ∧ r ≤ 1000000000)
instance (i t m r : Int) : Decidable (okT i t m r) := by unfold okT; infer_instance
theorem l17Terms_eq (i t m r : Int) : spec_l17Terms.f i t m r = some (decide (okT i t m r)) := by
  simp only [spec_l17Terms.f, l1In_eq, Option.bind_some, decide_eq_true_eq]
  split
  · rename_i c1
    split
    · rename_i c2
      split
      · rename_i c3; exact congrArg some (decide_eq_decide.mpr ⟨fun g => ⟨c1, c2, c3, g⟩, fun g => g.2.2.2⟩)
      · rename_i c3; exact congrArg some (decide_eq_false (fun g => c3 g.2.2.1)).symm
    · rename_i c2; exact congrArg some (decide_eq_false (fun g => c2 g.2.1)).symm
  · rename_i c1; exact congrArg some (decide_eq_false (fun g => c1 g.1)).symm
theorem isMargin_eq (i t m r : Int) : impl_isMargin.f i t m r = some (decide (okT i t m r)) := by
  simp only [impl_isMargin.f, within_eq, Option.bind_some, decide_eq_true_eq]
  split
  · rename_i c1
    split
    · rename_i c2
      split
      · rename_i c3; exact congrArg some (decide_eq_decide.mpr ⟨fun g => ⟨c1, c2, c3, g⟩, fun g => g.2.2.2⟩)
      · rename_i c3; exact congrArg some (decide_eq_false (fun g => c3 g.2.2.1)).symm
    · rename_i c2; exact congrArg some (decide_eq_false (fun g => c2 g.2.1)).symm
  · rename_i c1; exact congrArg some (decide_eq_false (fun g => c1 g.1)).symm
def reqOk (e i t m r : Int) : Prop := (-1000000000 ≤ e ∧ e ≤ 1000000000) ∧ okT i t m r ∧ e + i - t ≤ 1000000000
instance (e i t m r : Int) : Decidable (reqOk e i t m r) := by unfold reqOk; infer_instance
def reqA (e i t m r : Int) : Int × Bool := if reqOk e i t m r then (max0 (e + i - t), true) else (0, false)
theorem reqA_no {e i t m r : Int} (h : ¬ reqOk e i t m r) : reqA e i t m r = (0, false) := if_neg h
theorem reqA_yes {e i t m r : Int} (h : reqOk e i t m r) : reqA e i t m r = (max0 (e + i - t), true) := if_pos h
theorem specRequired_eq (e i t m r : Int) : spec_RequiredAmount.f e i t m r = some (reqA e i t m r) := by
  simp only [spec_RequiredAmount.f, l2Amount_eq, l17Terms_eq, Option.bind_some, decide_eq_true_eq]
  split
  · rename_i c1
    split
    · rename_i c2
      have hw : wrap64 (wrap64 (e + i) - t) = e + i - t := by
        have := c2.1; have := c2.2.1
        rw [wrapId (x := e + i) (by omega), wrapId (by omega)]
      have hr : spec_l17Required.f e i t m r = some (max0 (e + i - t)) := by
        simp only [spec_l17Required.f, spec_l1Most.f, hw, max0]
        split <;> rfl
      simp only [hr, l2Amount_eq, Option.bind_some, decide_eq_true_eq]
      have hb := max0_bd (e + i - t)
      split
      · rw [reqA_yes ⟨c1, c2, by omega⟩]
      · rename_i c3; rw [reqA_no (fun g => by have := g.2.2; omega)]
    · rename_i c2; rw [reqA_no (fun g => c2 g.2.1)]
  · rename_i c1; rw [reqA_no (fun g => c1 g.1)]
theorem implRequired_ev (e i t m r : Int) : Ev (fun k => impl_RequiredAmount.f k e i t m r) (reqA e i t m r) := by
  simp only [impl_RequiredAmount.f, isAmount_eq, isMargin_eq, Option.bind_some, decide_eq_true_eq]
  refine evIte (fun c1 => ?_) (fun c1 => ?_)
  · refine evSucc ?_
    simp only [impl_RequiredAmount.j0, isAmount_eq, Option.bind_some, decide_eq_true_eq]
    by_cases c2 : okT i t m r
    · refine evNeg (by simp [c2]) ?_
      have hw : wrap64 (wrap64 (e + i) - t) = e + i - t := by
        have := c2.1; have := c2.2.1
        rw [wrapId (x := e + i) (by omega), wrapId (by omega)]
      have hm : mx 0 (e + i - t) = max0 (e + i - t) := rfl
      simp only [hw, hm]
      have hb := max0_bd (e + i - t)
      refine evIte (fun c3 => ?_) (fun c3 => ?_)
      · exact evSome (reqA_yes ⟨c1, c2, by omega⟩).symm
      · exact evSome (reqA_no (fun g => by have := g.2.2; omega)).symm
    · refine evPos (by simp [c2]) ?_
      exact evSome (reqA_no (fun g => c2 g.2.1)).symm
  · refine evSucc ?_
    simp only [impl_RequiredAmount.j0]
    refine evPos (by trivial) ?_
    exact evSome (reqA_no (fun g => c1 g.1)).symm

def callN (d r : Int) : Int := if d < 0 then -(-d / r * r) else (d + r - 1) / r * r
def absI (n : Int) : Int := if n < 0 then -n else n
def callOk (e h i t m r : Int) : Prop := reqOk e i t m r ∧ 0 ≤ h ∧ h ≤ 1000000000
instance (e h i t m r : Int) : Decidable (callOk e h i t m r) := by unfold callOk; infer_instance
def callEnd (n m : Int) : Int × Bool := if absI n < m then (0, true) else if -1000000000 ≤ n ∧ n ≤ 1000000000 then (n, true) else (0, false)
def callA (e h i t m r : Int) : Int × Bool := if callOk e h i t m r then callEnd (callN (max0 (e + i - t) - h) r) m else (0, false)
theorem ediv_facts (a r : Int) (ha : 0 ≤ a) (hr : 1 ≤ r) : 0 ≤ a / r ∧ a / r ≤ a ∧ 0 ≤ a / r * r ∧ a / r * r ≤ a ∧ a < a / r * r + r := by
  have h1 : 0 ≤ a / r := Int.ediv_nonneg ha (by omega)
  have h2 : a / r * r ≤ a := Int.ediv_mul_le a (by omega)
  have h3 : a < (a / r + 1) * r := Int.lt_ediv_add_one_mul_self a (by omega)
  have h4 : 0 ≤ a / r * r := Int.mul_nonneg h1 (by omega)
  have h5 : a / r ≤ a := Int.ediv_le_self r ha
  rw [Int.add_mul, Int.one_mul] at h3
  exact ⟨h1, h5, h4, h2, h3⟩
theorem specCall_ev (e h i t m r : Int) : Ev (fun k => spec_MarginCall.f k e h i t m r) (callA e h i t m r) := by
  simp only [spec_MarginCall.f, specRequired_eq, l1In_eq, Option.bind_some]
  by_cases c : reqOk e i t m r
  · have hok := c.2.1
    obtain ⟨⟨i0, i1⟩, ⟨t0, t1⟩, ⟨m0, m1⟩, ⟨r0, r1⟩⟩ := hok
    have hc := c.2.2
    have hb := max0_bd (e + i - t)
    simp only [reqA_yes c]
    refine evPos (by trivial) ?_
    refine evSucc ?_
    simp only [spec_MarginCall.j0]
    by_cases ch : 0 ≤ h ∧ h ≤ 1000000000
    · refine evNeg (by simp [ch]) ?_
      obtain ⟨d, hd⟩ : ∃ d, d = max0 (e + i - t) - h := ⟨_, rfl⟩
      have hw : wrap64 (max0 (e + i - t) - h) = d := by rw [wrapId (by omega)]; exact hd.symm
      simp only [hw]
      have hA : callA e h i t m r = callEnd (callN d r) m := by unfold callA; rw [if_pos ⟨c, ch⟩, hd]
      rw [hA]
      refine evNeg (by omega) ?_
      have fin : ∀ n : Int, -1000000000000 ≤ n ∧ n ≤ 1000000000000 → Ev (fun k => spec_MarginCall.j1 k n i t m r) (callEnd n m) := by
        intro n hn
        refine evSucc ?_
        have hm : spec_l1Most.f n (wrap64 (-n)) = some (absI n) := by
          unfold spec_l1Most.f absI
          rw [wrapId (by omega)]
          split <;> split <;> first | rfl | (congr 1; omega) | omega
        simp only [spec_MarginCall.j1, hm, l2Amount_eq, Option.bind_some, decide_eq_true_eq]
        unfold callEnd
        refine evIte (fun q => ?_) (fun q => ?_)
        · rw [if_pos q]
          exact evPos (by omega) (evSome rfl)
        · rw [if_neg q]
          refine evIte (fun q2 => ?_) (fun q2 => ?_)
          · rw [if_pos q2]; exact evSome rfl
          · rw [if_neg q2]; exact evSome rfl
      refine evIte (fun q => ?_) (fun q => ?_)
      · have f := ediv_facts (-d) r (by omega) (by omega)
        have e1 : wrap64 (-(wrap64 (wrap64 (Int.tdiv (wrap64 (-d)) r) * r))) = callN d r := by
          rw [wrapId (x := -d) (by omega), Int.tdiv_eq_ediv_of_nonneg (by omega), wrapId (x := -d / r) (by omega), wrapId (x := -d / r * r) (by omega), wrapId (by omega)]
          unfold callN; rw [if_pos q]
        rw [e1]
        refine fin _ ?_
        unfold callN; rw [if_pos q]; omega
      · have f := ediv_facts (d + r - 1) r (by omega) (by omega)
        have e1 : wrap64 (wrap64 (Int.tdiv (wrap64 (wrap64 (d + r) - 1)) r) * r) = callN d r := by
          rw [wrapId (x := d + r) (by omega), wrapId (x := d + r - 1) (by omega), Int.tdiv_eq_ediv_of_nonneg (by omega), wrapId (x := (d + r - 1) / r) (by omega), wrapId (by omega)]
          unfold callN; rw [if_neg q]
        rw [e1]
        refine fin _ ?_
        unfold callN; rw [if_neg q]; omega
    · refine evPos (by simp only [Bool.not_eq_true', decide_eq_false_iff_not]; exact ch) ?_
      refine evSome ?_
      unfold callA; rw [if_neg (fun g => ch g.2)]
  · simp only [reqA_no c]
    refine evNeg (by simp) ?_
    refine evSucc ?_
    simp only [spec_MarginCall.j0]
    refine evPos (by trivial) ?_
    refine evSome ?_
    unfold callA; rw [if_neg (fun g => c g.1)]
theorem implCall_ev (e h i t m r : Int) : Ev (fun k => impl_MarginCall.f k e h i t m r) (callA e h i t m r) := by
  simp only [impl_MarginCall.f]
  refine evBind (implRequired_ev e i t m r) ?_
  simp only [within_eq, Option.bind_some]
  by_cases c : reqOk e i t m r
  · have hok := c.2.1
    obtain ⟨⟨i0, i1⟩, ⟨t0, t1⟩, ⟨m0, m1⟩, ⟨r0, r1⟩⟩ := hok
    have hc := c.2.2
    have hb := max0_bd (e + i - t)
    simp only [reqA_yes c]
    refine evPos (by trivial) ?_
    refine evSucc ?_
    simp only [impl_MarginCall.j0]
    by_cases ch : 0 ≤ h ∧ h ≤ 1000000000
    · refine evNeg (by simp [ch]) ?_
      obtain ⟨d, hd⟩ : ∃ d, d = max0 (e + i - t) - h := ⟨_, rfl⟩
      have hw : wrap64 (max0 (e + i - t) - h) = d := by rw [wrapId (by omega)]; exact hd.symm
      simp only [hw]
      have hA : callA e h i t m r = callEnd (callN d r) m := by unfold callA; rw [if_pos ⟨c, ch⟩, hd]
      rw [hA]
      have fin : ∀ (n A s : Int), (A = absI n ∧ 0 ≤ A ∧ A ≤ 1000000000000) → (s * A = n) → Ev (fun k => impl_MarginCall.j1 k A s i t m r) (callEnd n m) := by
        intro n A s hn hs
        refine evSucc ?_
        have hab : (absI n = n ∨ absI n = -n) := by unfold absI; split <;> omega
        simp only [impl_MarginCall.j1, isAmount_eq, Option.bind_some, decide_eq_true_eq]
        unfold callEnd
        rw [← hn.1]
        refine evIte (fun q => ?_) (fun q => ?_)
        · rw [if_pos q]
          refine evPos (by omega) (evSome ?_)
          rw [Int.mul_zero, wrapId (by omega)]
        · rw [if_neg q]
          refine evIte (fun q2 => ?_) (fun q2 => ?_)
          · rw [if_pos (by omega), hs, wrapId (by omega)]; exact evSome rfl
          · rw [if_neg (by omega)]; exact evSome rfl
      refine evIte (fun q => ?_) (fun q => ?_)
      · refine evNeg (by omega) ?_
        have f := ediv_facts (d + r - 1) r (by omega) (by omega)
        have e1 : wrap64 (wrap64 (Int.tdiv (wrap64 (wrap64 (d + r) - 1)) r) * r) = (d + r - 1) / r * r := by
          rw [wrapId (x := d + r) (by omega), wrapId (x := d + r - 1) (by omega), Int.tdiv_eq_ediv_of_nonneg (by omega), wrapId (x := (d + r - 1) / r) (by omega), wrapId (by omega)]
        rw [e1]
        have e2 : callN d r = (d + r - 1) / r * r := by unfold callN; rw [if_neg (by omega)]
        rw [e2]
        refine fin _ _ _ ⟨?_, by omega, by omega⟩ (by rw [Int.one_mul])
        unfold absI; rw [if_neg (by omega)]
      · refine evNeg (by omega) ?_
        have f := ediv_facts (-d) r (by omega) (by omega)
        have e1 : wrap64 (wrap64 (Int.tdiv (wrap64 (-d)) r) * r) = -d / r * r := by
          rw [wrapId (x := -d) (by omega), Int.tdiv_eq_ediv_of_nonneg (by omega), wrapId (x := -d / r) (by omega), wrapId (by omega)]
        rw [e1]
        have e2 : callN d r = -(-d / r * r) := by
          unfold callN
          by_cases q2 : d < 0
          · rw [if_pos q2]
          · rw [if_neg q2]
            have d0 : d = 0 := by omega
            subst d0
            rw [Int.ediv_eq_zero_of_lt (a := 0 + r - 1) (by omega) (by omega)]
            simp
        rw [e2]
        refine fin _ _ _ ⟨?_, by omega, by omega⟩ (by omega)
        unfold absI
        split <;> omega
    · refine evPos (by simp only [Bool.not_eq_true', decide_eq_false_iff_not]; exact ch) ?_
      refine evSome ?_
      unfold callA; rw [if_neg (fun g => ch g.2)]
  · simp only [reqA_no c]
    refine evNeg (by simp) ?_
    refine evSucc ?_
    simp only [impl_MarginCall.j0]
    refine evPos (by trivial) ?_
    refine evSome ?_
    unfold callA; rw [if_neg (fun g => c g.1)]

theorem FnExactMarginCall (a0 a1 a2 a3 a4 a5 : Int) (h0 : -9223372036854775808 ≤ a0 ∧ a0 ≤ 9223372036854775807) (h1 : -9223372036854775808 ≤ a1 ∧ a1 ≤ 9223372036854775807) (ok : KReads.InI a2 ∧ KReads.InI a3 ∧ KReads.InI a4 ∧ KReads.InI a5) : ∃ k, laws_FnExactMarginCall.f k a0 a1 a2 a3 a4 a5 = some true := by
  refine Ev.rounds ?_
  simp only [laws_FnExactMarginCall.f, laws_toMarginTerms.f, Option.bind_some]
  have e1 := specCall_ev a0 a1 a2 a3 a4 a5
  have e2 := implCall_ev a0 a1 a2 a3 a4 a5
  repeat (first
    | dsimp only
    | exact Ev.now _
    | (refine evBind (by with_reducible assumption) ?_)
    | (refine evBindS (by with_reducible assumption) ?_)
    | (refine evPos (by with_reducible rfl) ?_)
    | (refine evPos True.intro ?_)
    | (refine evNeg not_false ?_)
    | (refine evNeg (by rw [bne_self_eq_false]; exact Bool.false_ne_true) ?_)
    | (refine evNeg Bool.false_ne_true ?_)
    | (refine evPos (by omega) ?_)
    | (refine evNeg (by omega) ?_))
end Go.Proofs.Ytiaakolalhdelaa.Pure
