/- The law FnExactIsValidSchedule over the printed functions: for all arguments of Go's kinds there is a number of rounds at which it answers true. No other condition. -/
import Derived.Test.YtlmdghcpcohamaaPFnExactIsValidSchedulex0
import Derived.Test.YtlmdghcpcohamaaPFnExactIsValidSchedulex1
import Derived.Test.YtlmdghcpcohamaaPFnExactIsValidSchedulex2
import Derived.Test.YtlmdghcpcohamaaPFnExactIsValidSchedulex3
import Derived.Test.YtlmdghcpcohamaaPFnExactIsValidSchedulex4
import Derived.Test.YtlmdghcpcohamaaPFnExactIsValidSchedulex5
import Derived.Test.YtlmdghcpcohamaaEvKit
import Derived.Test.YtlmdghcpcohamaaKReads
namespace Go.Proofs.Ytlmdghcpcohamaa.Pure
open Go.RowKit Go.Proofs.YtlmdghcpcohamaaW.PrintWords Go.Proofs.YtlmdghcpcohamaaW.PrintLast Go.Proofs.YtlmdghcpcohamaaW.PrintMore Go.Proofs.Ytlmdghcpcohamaa.PFnExactIsValidSchedule Go.Proofs.Ytlmdghcpcohamaa.EvKit
set_option linter.unusedVariables false
set_option linter.unusedSimpArgs false

theorem rd_T60_at {xs pre t : List S60} {a : S60} (h : xs = pre ++ a :: t) {i : Int} (hi : i = pre.length) : rd_T60 xs i = a := getD_at h hi


theorem rd_T74_at {xs pre t : List S74} {a : S74} (h : xs = pre ++ a :: t) {i : Int} (hi : i = pre.length) : rd_T74 xs i = a := getD_at h hi


def cv_Period (x : S74) : S60 := ⟨x.f0, x.f1, x.f2⟩
theorem toPeriodS_l0 (xs : List S74) (hn : xs.length ≤ 1048576) : ∀ (rest pre : List S74) (cur : List S60) (i : Int), xs = pre ++ rest → i = pre.length → (∃ tl : List S60, tl.length = rest.length ∧ cur = pre.map cv_Period ++ tl) →
    Ev (fun k => laws_toPeriodS.l0 k xs cur i) (xs.map cv_Period) := by
  intro rest
  induction rest with
  | nil =>
    intro pre cur i h hi hc
    obtain ⟨tl, ht, rfl⟩ := hc
    have hl := len_nil h
    refine evSucc ?_
    simp only [laws_toPeriodS.l0]
    refine evNeg (by omega) ?_
    refine evSome ?_
    have : tl = [] := List.length_eq_zero_iff.mp ht
    subst this
    rw [h]; simp
  | cons a t ih =>
    intro pre cur i h hi hc
    obtain ⟨tl, ht, hcur⟩ := hc
    have hl := len_cons h
    obtain ⟨b, tl, rfl⟩ : ∃ b tl', tl = b :: tl' := by
      cases tl with
      | nil => simp at ht
      | cons b tl => exact ⟨b, tl, rfl⟩
    have hcl := len_cons hcur
    simp at hcl
    refine evSucc ?_
    simp only [laws_toPeriodS.l0]
    refine evPos (by omega) ?_
    refine evPos (by omega) ?_
    simp only [laws_toPeriod.f, rd_T74_at h hi, Option.bind_some]
    refine evPos (by omega) ?_
    refine ih (pre ++ [a]) _ _ (snoc h) ?_ ⟨tl, by simpa using ht, ?_⟩
    · rw [wrapId (by omega), len_snoc]; omega
    · rw [set_at hcur (by simpa using hi)]; simp [cv_Period]
theorem toPeriodS_ev (xs : List S74) (hn : xs.length ≤ 1048576) : Ev (fun k => laws_toPeriodS.f k xs) (xs.map cv_Period) := by
  simp only [laws_toPeriodS.f]
  refine evPos (by omega) ?_
  refine evPos (by omega) ?_
  exact toPeriodS_l0 xs hn xs [] _ 0 rfl rfl ⟨List.replicate xs.length z60, by simp, by simp⟩
theorem szPeriodS_eq (xs : List S74) (h : xs.length ≤ 9223372036854775807) : laws_szPeriodS.f xs 1048576 = some (if xs.length ≤ 1048576 then 1048576 - (xs.length : Int) else -1) := by
  simp only [laws_szPeriodS.f]
  rw [wrapId (by omega)]
  by_cases c : xs.length ≤ 1048576
  · rw [if_neg (by omega), if_pos c]
  · rw [if_pos (by omega), if_neg c]


theorem eqPeriodS_l0 (xs : List S60) (hn : xs.length ≤ 9223372036854775806) : ∀ (rest pre : List S60) (i : Int), xs = pre ++ rest → i = pre.length → Ev (fun k => laws_eqPeriodS.l0 k xs xs i) true := by
  intro rest
  induction rest with
  | nil =>
    intro pre i h hi
    have hl := len_nil h
    refine evSucc ?_
    simp only [laws_eqPeriodS.l0]
    refine evNeg (by omega) ?_
    exact evSome rfl
  | cons a t ih =>
    intro pre i h hi
    have hl := len_cons h
    refine evSucc ?_
    simp only [laws_eqPeriodS.l0]
    refine evPos (by omega) ?_
    refine evPos (by omega) ?_
    refine evPos (by omega) ?_
    refine evBindS (a := true) (by simp [laws_eqPeriod.f]) ?_
    refine evPos (by trivial) ?_
    exact ih (pre ++ [a]) _ (snoc h) (by rw [wrapId (by omega), len_snoc]; omega)
theorem eqPeriodS_ev (xs : List S60) (hn : xs.length ≤ 9223372036854775806) : Ev (fun k => laws_eqPeriodS.f k xs xs) true := by
  simp only [laws_eqPeriodS.f]
  exact evPos (by trivial) (eqPeriodS_l0 xs hn xs [] 0 rfl rfl)

theorem within_eq (a b c : Int) : impl_within.f a b c = some (decide (b ≤ a ∧ a ≤ c)) := by
  unfold impl_within.f
  by_cases h : a ≥ b
  · rw [if_pos h]; exact congrArg some (decide_eq_decide.mpr ⟨fun g => ⟨h, g⟩, fun g => g.2⟩)
  · rw [if_neg h]; exact congrArg some (decide_eq_false (fun g => h g.1)).symm
theorem l1In_eq (a b c : Int) : spec_l1In.f a b c = some (decide (b ≤ a ∧ a ≤ c)) := by
  unfold spec_l1In.f
  by_cases h : a ≥ b
  · rw [if_pos h]; exact congrArg some (decide_eq_decide.mpr ⟨fun g => ⟨h, g⟩, fun g => g.2⟩)
  · rw [if_neg h]; exact congrArg some (decide_eq_false (fun g => h g.1)).symm

theorem isDay_eq (a : Int) : impl_isDay.f a = some (decide (0 ≤ a ∧ a ≤ 36524)) := by
  unfold impl_isDay.f; rw [within_eq]; rfl
theorem l3Good_eq (a : Int) : spec_l3Good.f a = some (decide (0 ≤ a ∧ a ≤ 36524)) := by
  unfold spec_l3Good.f; rw [l1In_eq]; rfl

def okP (a : S60) : Prop := (0 ≤ a.f0 ∧ a.f0 ≤ 36524) ∧ (0 ≤ a.f1 ∧ a.f1 ≤ 36524) ∧ (0 ≤ a.f2 ∧ a.f2 ≤ 36524) ∧ a.f0 < a.f1
instance (a : S60) : Decidable (okP a) := by unfold okP; infer_instance
def joinP (p : Option Int) (a : S60) : Prop := ∀ q, p = some q → a.f0 = q
instance (p : Option Int) (a : S60) : Decidable (joinP p a) := by
  cases p with
  | none => exact isTrue (fun q h => by cases h)
  | some q =>
    by_cases h : a.f0 = q
    · exact isTrue (fun q' e => by cases e; exact h)
    · exact isFalse (fun g => h (g q rfl))
/-- The periods are in order; p: where the one before them ends. -/
def chkP : Option Int → List S60 → Bool
  | _, [] => true
  | p, a :: t => decide (okP a) && decide (joinP p a) && chkP (some a.f1) t
def goodP (xs : List S60) : Bool := chkP none xs && decide (xs.length ≤ 40)
def endP (pre : List S60) (p : Option Int) : Prop := (pre = [] ∧ p = none) ∨ ∃ q b, pre = q ++ [b] ∧ p = some b.f1
theorem endP_snoc (pre : List S60) (a : S60) : endP (pre ++ [a]) (some a.f1) := .inr ⟨pre, a, rfl, rfl⟩
theorem chkP_bad {p : Option Int} {a : S60} {t : List S60} (b : Bool) (h : ¬ (okP a ∧ joinP p a)) : false = (chkP p (a :: t) && b) := by
  rw [chkP]
  by_cases h1 : okP a
  · rw [decide_eq_false (fun g => h ⟨h1, g⟩)]; simp
  · rw [decide_eq_false h1]; simp
theorem chkP_step {p : Option Int} {a : S60} (t : List S60) (b : Bool) (h1 : okP a) (h2 : joinP p a) : (chkP (some a.f1) t && b) = (chkP p (a :: t) && b) := by
  rw [chkP, decide_eq_true h1, decide_eq_true h2]; simp
theorem implValidP_l0 (xs : List S60) (hn : xs.length ≤ 1048576) : ∀ (rest pre : List S60) (i : Int) (p : Option Int), xs = pre ++ rest → i = pre.length → endP pre p → Ev (fun k => impl_IsValidSchedule.l0 k xs xs (xs.length : Int) i) (chkP p rest && decide (xs.length ≤ 40)) := by
  intro rest
  induction rest with
  | nil =>
    intro pre i p h hi hp
    have hl := len_nil h
    refine evSucc ?_
    simp only [impl_IsValidSchedule.l0]
    refine evNeg (by omega) ?_
    refine evSome ?_
    rw [chkP, Bool.true_and, decide_eq_decide]; omega
  | cons a t ih =>
    intro pre i p h hi hp
    have hl := len_cons h
    refine evSucc ?_
    simp only [impl_IsValidSchedule.l0, isDay_eq, Option.bind_some, decide_eq_true_eq, rd_T60_at h hi]
    refine evPos (by omega) ?_
    refine evPos (by omega) ?_
    refine evPos (by omega) ?_
    refine evIte (fun c1 => evSome (chkP_bad _ (fun g => by have := g.1.1; omega))) (fun c1 => ?_)
    refine evIte (fun c2 => evSome (chkP_bad _ (fun g => by have := g.1.2.2.2; omega))) (fun c2 => ?_)
    refine evIte (fun c3 => evSome (chkP_bad _ (fun g => by have := g.1.2.1; omega))) (fun c3 => ?_)
    refine evIte (fun c4 => ?_) (fun c4 => evSome (chkP_bad _ (fun g => c4 g.1.2.2.1)))
    have hok : okP a := ⟨by omega, by omega, c4, by omega⟩
    have go : joinP p a → Ev (fun k => impl_IsValidSchedule.l0 k xs xs (xs.length : Int) (wrap64 (i + 1))) (chkP p (a :: t) && decide (xs.length ≤ 40)) := by
      intro hj
      rw [← chkP_step t _ hok hj]
      exact ih (pre ++ [a]) _ (some a.f1) (snoc h) (by rw [wrapId (by omega), len_snoc]; omega) (endP_snoc pre a)
    rcases hp with ⟨rfl, rfl⟩ | ⟨q, b, rfl, rfl⟩
    · refine evNeg (by simp at hi; omega) ?_
      exact go (fun q e => by cases e)
    · have hq : ((q ++ [b]).length : Int) = q.length + 1 := len_snoc q b
      have h' : xs = q ++ b :: (a :: t) := by rw [h]; simp
      rw [rd_T60_at h' (i := wrap64 (i - 1)) (by rw [wrapId (by omega)]; omega)]
      refine evPos (by omega) ?_
      refine evPos (by rw [wrapId (by omega)]; omega) ?_
      refine evPos (by rw [wrapId (by omega)]; omega) ?_
      refine evIte (fun c5 => go (fun q' e => by cases e; exact c5)) (fun c5 => evSome (chkP_bad _ (fun g => c5 (g.2 _ rfl))))
theorem implValidP_ev (xs : List S60) (hn : xs.length ≤ 1048576) : Ev (fun k => impl_IsValidSchedule.f k xs) (goodP xs) := by
  simp only [impl_IsValidSchedule.f]
  exact implValidP_l0 xs hn xs [] 0 none rfl rfl (.inl ⟨rfl, rfl⟩)
theorem specGoodP_l0 (xs : List S60) (hn : xs.length ≤ 1048576) : ∀ (rest pre : List S60) (i : Int) (p : Option Int), xs = pre ++ rest → i = pre.length → endP pre p → Ev (fun k => spec_l14Good.l0 k xs i) (chkP p rest && decide (xs.length ≤ 40)) := by
  intro rest
  induction rest with
  | nil =>
    intro pre i p h hi hp
    have hl := len_nil h
    refine evSucc ?_
    simp only [spec_l14Good.l0]
    refine evNeg (by omega) ?_
    refine evSucc ?_
    simp only [spec_l14Good.j1]
    refine evNeg (by simp) ?_
    refine evSome ?_
    rw [chkP, Bool.true_and, decide_eq_decide]; omega
  | cons a t ih =>
    intro pre i p h hi hp
    have hl := len_cons h
    refine evSucc ?_
    simp only [spec_l14Good.l0]
    refine evPos (by omega) ?_
    refine evSucc ?_
    simp only [spec_l14Good.j1, l3Good_eq, Option.bind_some, decide_eq_true_eq, rd_T60_at h hi]
    refine evIte (fun c0 => ?_) (fun c0 => ?_)
    · refine evPos (by omega) ?_
      refine evPos (by omega) ?_
      refine evIte (fun c1 => ?_) (fun c1 => evSome (chkP_bad _ (fun g => c1 g.1.1)))
      refine evIte (fun c2 => ?_) (fun c2 => evSome (chkP_bad _ (fun g => c2 g.1.2.1)))
      refine evIte (fun c3 => ?_) (fun c3 => evSome (chkP_bad _ (fun g => c3 g.1.2.2.1)))
      refine evIte (fun c4 => evSome (chkP_bad _ (fun g => by have := g.1.2.2.2; omega))) (fun c4 => ?_)
      have hok : okP a := ⟨c1, c2, c3, by omega⟩
      have go : joinP p a → Ev (fun k => spec_l14Good.l0 k xs (wrap64 (i + 1))) (chkP p (a :: t) && decide (xs.length ≤ 40)) := by
        intro hj
        rw [← chkP_step t _ hok hj]
        exact ih (pre ++ [a]) _ (some a.f1) (snoc h) (by rw [wrapId (by omega), len_snoc]; omega) (endP_snoc pre a)
      rcases hp with ⟨rfl, rfl⟩ | ⟨q, b, rfl, rfl⟩
      · refine evNeg (by simp at hi; omega) ?_
        exact go (fun q e => by cases e)
      · have hq : ((q ++ [b]).length : Int) = q.length + 1 := len_snoc q b
        have h' : xs = q ++ b :: (a :: t) := by rw [h]; simp
        rw [rd_T60_at h' (i := wrap64 (i - 1)) (by rw [wrapId (by omega)]; omega)]
        refine evPos (by omega) ?_
        refine evPos (by rw [wrapId (by omega)]; omega) ?_
        refine evPos (by rw [wrapId (by omega)]; omega) ?_
        refine evIte (fun c5 => go (fun q' e => by cases e; exact c5.symm)) (fun c5 => evSome (chkP_bad _ (fun g => c5 (g.2 _ rfl).symm)))
    · refine evSome ?_
      have : decide (xs.length ≤ 40) = false := decide_eq_false (by omega)
      rw [this, Bool.and_false, decide_eq_false (by omega)]
theorem specGoodP_ev (xs : List S60) (hn : xs.length ≤ 1048576) : Ev (fun k => spec_l14Good.f k xs) (goodP xs) := by
  simp only [spec_l14Good.f]
  exact specGoodP_l0 xs hn xs [] 0 none rfl rfl (.inl ⟨rfl, rfl⟩)

theorem FnExactIsValidSchedule (l0 : List S74) (ok : l0.length ≤ 9223372036854775807 ∧ ∀ y ∈ l0, (KReads.InI y.f0 ∧ KReads.InI y.f1 ∧ KReads.InI y.f2)) : ∃ k, laws_FnExactIsValidSchedule.f k l0 = some true := by
  refine Ev.rounds ?_
  simp only [laws_FnExactIsValidSchedule.f, szPeriodS_eq l0 ok.1, Option.bind_some]
  by_cases c : l0.length ≤ 1048576
  · rw [if_pos c]
    have hm : (l0.map cv_Period).length ≤ 1048576 := by simpa using c
    have e0 := toPeriodS_ev l0 c
    have e1 : Ev (fun k => spec_IsValidSchedule.f k (l0.map cv_Period)) (goodP (l0.map cv_Period)) := by
      simp only [spec_IsValidSchedule.f]; exact evBind (specGoodP_ev _ hm) (Ev.now _)
    have e2 := implValidP_ev _ hm
    have e3 := eqPeriodS_ev (l0.map cv_Period) (by omega)
    repeat (first
      | dsimp only
      | exact Ev.now _
      | (refine evBind (by with_reducible assumption) ?_)
      | (refine evBindS (by with_reducible assumption) ?_)
      | (refine evPos (by with_reducible rfl) ?_)
      | (refine evPos True.intro ?_)
      | (refine evNeg not_false ?_)
      | (refine evNeg (by rw [bne_self_eq_false]; exact Bool.false_ne_true) ?_)
      | (refine evNeg Bool.false_ne_true ?_)
      | (refine evPos (by omega) ?_)
      | (refine evNeg (by omega) ?_))
  · rw [if_neg c]
    exact evPos (by omega) (Ev.now true)
end Go.Proofs.Ytlmdghcpcohamaa.Pure
