/- The law FnExactPaymentsDue over the printed functions: for all arguments of Go's kinds there is a number of rounds at which it answers true. No other condition. -/
import Derived.Test.YtlmdghcpcohamaaPFnExactPaymentsDuex0
import Derived.Test.YtlmdghcpcohamaaPFnExactPaymentsDuex1
import Derived.Test.YtlmdghcpcohamaaPFnExactPaymentsDuex2
import Derived.Test.YtlmdghcpcohamaaPFnExactPaymentsDuex3
import Derived.Test.YtlmdghcpcohamaaPFnExactPaymentsDuex4
import Derived.Test.YtlmdghcpcohamaaPFnExactPaymentsDuex5
import Derived.Test.YtlmdghcpcohamaaEvKit
import Derived.Test.YtlmdghcpcohamaaKReads
namespace Go.Proofs.Ytlmdghcpcohamaa.Pure
open Go.RowKit Go.Proofs.YtlmdghcpcohamaaW.PrintWords Go.Proofs.YtlmdghcpcohamaaW.PrintLast Go.Proofs.YtlmdghcpcohamaaW.PrintMore Go.Proofs.Ytlmdghcpcohamaa.PFnExactPaymentsDue Go.Proofs.Ytlmdghcpcohamaa.EvKit
set_option linter.unusedVariables false
set_option linter.unusedSimpArgs false

theorem toIntS_l0 (xs : List Int) (hn : xs.length ≤ 1048576) : ∀ (rest pre : List Int) (cur : List Int) (i : Int), xs = pre ++ rest → i = pre.length → (∃ tl : List Int, tl.length = rest.length ∧ cur = pre ++ tl) →
    Ev (fun k => laws_toIntS.l0 k xs cur i) xs := by
  intro rest
  induction rest with
  | nil =>
    intro pre cur i h hi hc
    obtain ⟨tl, ht, rfl⟩ := hc
    have hl := len_nil h
    refine evSucc ?_
    simp only [laws_toIntS.l0]
    refine evNeg (by omega) ?_
    refine evSome ?_
    have : tl = [] := List.length_eq_zero_iff.mp ht
    subst this
    rw [h]
  | cons a t ih =>
    intro pre cur i h hi hc
    obtain ⟨tl, ht, hcur⟩ := hc
    have hl := len_cons h
    obtain ⟨b, tl, rfl⟩ : ∃ b tl', tl = b :: tl' := by
      cases tl with
      | nil => simp at ht
      | cons b tl => exact ⟨b, tl, rfl⟩
    have hcl := len_cons hcur
    refine evSucc ?_
    simp only [laws_toIntS.l0]
    refine evPos (by omega) ?_
    refine evPos (by omega) ?_
    simp only [rd_at h hi]
    refine evPos (by omega) ?_
    refine ih (pre ++ [a]) _ _ (snoc h) ?_ ⟨tl, by simpa using ht, ?_⟩
    · rw [wrapId (by omega), len_snoc]; omega
    · rw [set_at hcur hi]; simp
theorem toIntS_ev (xs : List Int) (hn : xs.length ≤ 1048576) : Ev (fun k => laws_toIntS.f k xs) xs := by
  simp only [laws_toIntS.f]
  refine evPos (by omega) ?_
  refine evPos (by omega) ?_
  exact toIntS_l0 xs hn xs [] _ 0 rfl rfl ⟨List.replicate xs.length 0, by simp, by simp⟩


theorem eqIntS_l0 (xs : List Int) (hn : xs.length ≤ 9223372036854775806) : ∀ (rest pre : List Int) (i : Int), xs = pre ++ rest → i = pre.length → Ev (fun k => laws_eqIntS.l0 k xs xs i) true := by
  intro rest
  induction rest with
  | nil =>
    intro pre i h hi
    have hl := len_nil h
    refine evSucc ?_
    simp only [laws_eqIntS.l0]
    refine evNeg (by omega) ?_
    exact evSome rfl
  | cons a t ih =>
    intro pre i h hi
    have hl := len_cons h
    refine evSucc ?_
    simp only [laws_eqIntS.l0]
    refine evPos (by omega) ?_
    refine evPos (by omega) ?_
    refine evPos (by omega) ?_
    refine evPos (by trivial) ?_
    exact ih (pre ++ [a]) _ (snoc h) (by rw [wrapId (by omega), len_snoc]; omega)
theorem eqIntS_ev (xs : List Int) (hn : xs.length ≤ 9223372036854775806) : Ev (fun k => laws_eqIntS.f k xs xs) true := by
  simp only [laws_eqIntS.f]
  exact evPos (by trivial) (eqIntS_l0 xs hn xs [] 0 rfl rfl)


theorem rd_T60_at {xs pre t : List S60} {a : S60} (h : xs = pre ++ a :: t) {i : Int} (hi : i = pre.length) : rd_T60 xs i = a := getD_at h hi


theorem rd_T74_at {xs pre t : List S74} {a : S74} (h : xs = pre ++ a :: t) {i : Int} (hi : i = pre.length) : rd_T74 xs i = a := getD_at h hi


def cv_Period (x : S74) : S60 := ⟨x.f0, x.f1, x.f2⟩
theorem toPeriodS_l0 (xs : List S74) (hn : xs.length ≤ 1048576) : ∀ (rest pre : List S74) (cur : List S60) (i : Int), xs = pre ++ rest → i = pre.length → (∃ tl : List S60, tl.length = rest.length ∧ cur = pre.map cv_Period ++ tl) →
    Ev (fun k => laws_toPeriodS.l0 k xs cur i) (xs.map cv_Period) := by
  intro rest
  induction rest with
  | nil =>
    intro pre cur i h hi hc
    obtain ⟨tl, ht, rfl⟩ := hc
    have hl := len_nil h
    refine evSucc ?_
    simp only [laws_toPeriodS.l0]
    refine evNeg (by omega) ?_
    refine evSome ?_
    have : tl = [] := List.length_eq_zero_iff.mp ht
    subst this
    rw [h]; simp
  | cons a t ih =>
    intro pre cur i h hi hc
    obtain ⟨tl, ht, hcur⟩ := hc
    have hl := len_cons h
    obtain ⟨b, tl, rfl⟩ : ∃ b tl', tl = b :: tl' := by
      cases tl with
      | nil => simp at ht
      | cons b tl => exact ⟨b, tl, rfl⟩
    have hcl := len_cons hcur
    simp at hcl
    refine evSucc ?_
    simp only [laws_toPeriodS.l0]
    refine evPos (by omega) ?_
    refine evPos (by omega) ?_
    simp only [laws_toPeriod.f, rd_T74_at h hi, Option.bind_some]
    refine evPos (by omega) ?_
    refine ih (pre ++ [a]) _ _ (snoc h) ?_ ⟨tl, by simpa using ht, ?_⟩
    · rw [wrapId (by omega), len_snoc]; omega
    · rw [set_at hcur (by simpa using hi)]; simp [cv_Period]
theorem toPeriodS_ev (xs : List S74) (hn : xs.length ≤ 1048576) : Ev (fun k => laws_toPeriodS.f k xs) (xs.map cv_Period) := by
  simp only [laws_toPeriodS.f]
  refine evPos (by omega) ?_
  refine evPos (by omega) ?_
  exact toPeriodS_l0 xs hn xs [] _ 0 rfl rfl ⟨List.replicate xs.length z60, by simp, by simp⟩
theorem szPeriodS_eq (xs : List S74) (h : xs.length ≤ 9223372036854775807) : laws_szPeriodS.f xs 1048576 = some (if xs.length ≤ 1048576 then 1048576 - (xs.length : Int) else -1) := by
  simp only [laws_szPeriodS.f]
  rw [wrapId (by omega)]
  by_cases c : xs.length ≤ 1048576
  · rw [if_neg (by omega), if_pos c]
  · rw [if_pos (by omega), if_neg c]


theorem eqPeriodS_l0 (xs : List S60) (hn : xs.length ≤ 9223372036854775806) : ∀ (rest pre : List S60) (i : Int), xs = pre ++ rest → i = pre.length → Ev (fun k => laws_eqPeriodS.l0 k xs xs i) true := by
  intro rest
  induction rest with
  | nil =>
    intro pre i h hi
    have hl := len_nil h
    refine evSucc ?_
    simp only [laws_eqPeriodS.l0]
    refine evNeg (by omega) ?_
    exact evSome rfl
  | cons a t ih =>
    intro pre i h hi
    have hl := len_cons h
    refine evSucc ?_
    simp only [laws_eqPeriodS.l0]
    refine evPos (by omega) ?_
    refine evPos (by omega) ?_
    refine evPos (by omega) ?_
    refine evBindS (a := true) (by simp [laws_eqPeriod.f]) ?_
    refine evPos (by trivial) ?_
    exact ih (pre ++ [a]) _ (snoc h) (by rw [wrapId (by omega), len_snoc]; omega)
theorem eqPeriodS_ev (xs : List S60) (hn : xs.length ≤ 9223372036854775806) : Ev (fun k => laws_eqPeriodS.f k xs xs) true := by
  simp only [laws_eqPeriodS.f]
  exact evPos (by trivial) (eqPeriodS_l0 xs hn xs [] 0 rfl rfl)

theorem within_eq (a b c : Int) : impl_within.f a b c = some (decide (b ≤ a ∧ a ≤ c)) := by
  unfold impl_within.f
  by_cases h : a ≥ b
  · rw [if_pos h]; exact congrArg some (decide_eq_decide.mpr ⟨fun g => ⟨h, g⟩, fun g => g.2⟩)
  · rw [if_neg h]; exact congrArg some (decide_eq_false (fun g => h g.1)).symm
theorem l1In_eq (a b c : Int) : spec_l1In.f a b c = some (decide (b ≤ a ∧ a ≤ c)) := by
  unfold spec_l1In.f
  by_cases h : a ≥ b
  · rw [if_pos h]; exact congrArg some (decide_eq_decide.mpr ⟨fun g => ⟨h, g⟩, fun g => g.2⟩)
  · rw [if_neg h]; exact congrArg some (decide_eq_false (fun g => h g.1)).symm

theorem isDay_eq (a : Int) : impl_isDay.f a = some (decide (0 ≤ a ∧ a ≤ 36524)) := by
  unfold impl_isDay.f; rw [within_eq]; rfl
theorem l3Good_eq (a : Int) : spec_l3Good.f a = some (decide (0 ≤ a ∧ a ≤ 36524)) := by
  unfold spec_l3Good.f; rw [l1In_eq]; rfl

def okP (a : S60) : Prop := (0 ≤ a.f0 ∧ a.f0 ≤ 36524) ∧ (0 ≤ a.f1 ∧ a.f1 ≤ 36524) ∧ (0 ≤ a.f2 ∧ a.f2 ≤ 36524) ∧ a.f0 < a.f1
instance (a : S60) : Decidable (okP a) := by unfold okP; infer_instance
def joinP (p : Option Int) (a : S60) : Prop := ∀ q, p = some q → a.f0 = q
instance (p : Option Int) (a : S60) : Decidable (joinP p a) := by
  cases p with
  | none => exact isTrue (fun q h => by cases h)
  | some q =>
    by_cases h : a.f0 = q
    · exact isTrue (fun q' e => by cases e; exact h)
    · exact isFalse (fun g => h (g q rfl))
/-- The periods are in order; p: where the one before them ends. -/
def chkP : Option Int → List S60 → Bool
  | _, [] => true
  | p, a :: t => decide (okP a) && decide (joinP p a) && chkP (some a.f1) t
def goodP (xs : List S60) : Bool := chkP none xs && decide (xs.length ≤ 40)
def endP (pre : List S60) (p : Option Int) : Prop := (pre = [] ∧ p = none) ∨ ∃ q b, pre = q ++ [b] ∧ p = some b.f1
theorem endP_snoc (pre : List S60) (a : S60) : endP (pre ++ [a]) (some a.f1) := .inr ⟨pre, a, rfl, rfl⟩
theorem chkP_bad {p : Option Int} {a : S60} {t : List S60} (b : Bool) (h : ¬ (okP a ∧ joinP p a)) : false = (chkP p (a :: t) && b) := by
  rw [chkP]
  by_cases h1 : okP a
  · rw [decide_eq_false (fun g => h ⟨h1, g⟩)]; simp
  · rw [decide_eq_false h1]; simp
theorem chkP_step {p : Option Int} {a : S60} (t : List S60) (b : Bool) (h1 : okP a) (h2 : joinP p a) : (chkP (some a.f1) t && b) = (chkP p (a :: t) && b) := by
  rw [chkP, decide_eq_true h1, decide_eq_true h2]; simp
theorem implValidP_l0 (xs : List S60) (hn : xs.length ≤ 1048576) : ∀ (rest pre : List S60) (i : Int) (p : Option Int), xs = pre ++ rest → i = pre.length → endP pre p → Ev (fun k => impl_IsValidSchedule.l0 k xs xs (xs.length : Int) i) (chkP p rest && decide (xs.length ≤ 40)) := by
  intro rest
  induction rest with
  | nil =>
    intro pre i p h hi hp
    have hl := len_nil h
    refine evSucc ?_
    simp only [impl_IsValidSchedule.l0]
    refine evNeg (by omega) ?_
    refine evSome ?_
    rw [chkP, Bool.true_and, decide_eq_decide]; omega
  | cons a t ih =>
    intro pre i p h hi hp
    have hl := len_cons h
    refine evSucc ?_
    simp only [impl_IsValidSchedule.l0, isDay_eq, Option.bind_some, decide_eq_true_eq, rd_T60_at h hi]
    refine evPos (by omega) ?_
    refine evPos (by omega) ?_
    refine evPos (by omega) ?_
    refine evIte (fun c1 => evSome (chkP_bad _ (fun g => by have := g.1.1; omega))) (fun c1 => ?_)
    refine evIte (fun c2 => evSome (chkP_bad _ (fun g => by have := g.1.2.2.2; omega))) (fun c2 => ?_)
    refine evIte (fun c3 => evSome (chkP_bad _ (fun g => by have := g.1.2.1; omega))) (fun c3 => ?_)
    refine evIte (fun c4 => ?_) (fun c4 => evSome (chkP_bad _ (fun g => c4 g.1.2.2.1)))
    have hok : okP a := ⟨by omega, by omega, c4, by omega⟩
    have go : joinP p a → Ev (fun k => impl_IsValidSchedule.l0 k xs xs (xs.length : Int) (wrap64 (i + 1))) (chkP p (a :: t) && decide (xs.length ≤ 40)) := by
      intro hj
      rw [← chkP_step t _ hok hj]
      exact ih (pre ++ [a]) _ (some a.f1) (snoc h) (by rw [wrapId (by omega), len_snoc]; omega) (endP_snoc pre a)
    rcases hp with ⟨rfl, rfl⟩ | ⟨q, b, rfl, rfl⟩
    · refine evNeg (by simp at hi; omega) ?_
      exact go (fun q e => by cases e)
    · have hq : ((q ++ [b]).length : Int) = q.length + 1 := len_snoc q b
      have h' : xs = q ++ b :: (a :: t) := by rw [h]; simp
      rw [rd_T60_at h' (i := wrap64 (i - 1)) (by rw [wrapId (by omega)]; omega)]
      refine evPos (by omega) ?_
      refine evPos (by rw [wrapId (by omega)]; omega) ?_
      refine evPos (by rw [wrapId (by omega)]; omega) ?_
      refine evIte (fun c5 => go (fun q' e => by cases e; exact c5)) (fun c5 => evSome (chkP_bad _ (fun g => c5 (g.2 _ rfl))))
theorem implValidP_ev (xs : List S60) (hn : xs.length ≤ 1048576) : Ev (fun k => impl_IsValidSchedule.f k xs) (goodP xs) := by
  simp only [impl_IsValidSchedule.f]
  exact implValidP_l0 xs hn xs [] 0 none rfl rfl (.inl ⟨rfl, rfl⟩)
theorem specGoodP_l0 (xs : List S60) (hn : xs.length ≤ 1048576) : ∀ (rest pre : List S60) (i : Int) (p : Option Int), xs = pre ++ rest → i = pre.length → endP pre p → Ev (fun k => spec_l14Good.l0 k xs i) (chkP p rest && decide (xs.length ≤ 40)) := by
  intro rest
  induction rest with
  | nil =>
    intro pre i p h hi hp
    have hl := len_nil h
    refine evSucc ?_
    simp only [spec_l14Good.l0]
    refine evNeg (by omega) ?_
    refine evSucc ?_
    simp only [spec_l14Good.j1]
    refine evNeg (by simp) ?_
    refine evSome ?_
    rw [chkP, Bool.true_and, decide_eq_decide]; omega
  | cons a t ih =>
    intro pre i p h hi hp
    have hl := len_cons h
    refine evSucc ?_
    simp only [spec_l14Good.l0]
    refine evPos (by omega) ?_
    refine evSucc ?_
    simp only [spec_l14Good.j1, l3Good_eq, Option.bind_some, decide_eq_true_eq, rd_T60_at h hi]
    refine evIte (fun c0 => ?_) (fun c0 => ?_)
    · refine evPos (by omega) ?_
      refine evPos (by omega) ?_
      refine evIte (fun c1 => ?_) (fun c1 => evSome (chkP_bad _ (fun g => c1 g.1.1)))
      refine evIte (fun c2 => ?_) (fun c2 => evSome (chkP_bad _ (fun g => c2 g.1.2.1)))
      refine evIte (fun c3 => ?_) (fun c3 => evSome (chkP_bad _ (fun g => c3 g.1.2.2.1)))
      refine evIte (fun c4 => evSome (chkP_bad _ (fun g => by have := g.1.2.2.2; omega))) (fun c4 => ?_)
      have hok : okP a := ⟨c1, c2, c3, by omega⟩
      have go : joinP p a → Ev (fun k => spec_l14Good.l0 k xs (wrap64 (i + 1))) (chkP p (a :: t) && decide (xs.length ≤ 40)) := by
        intro hj
        rw [← chkP_step t _ hok hj]
        exact ih (pre ++ [a]) _ (some a.f1) (snoc h) (by rw [wrapId (by omega), len_snoc]; omega) (endP_snoc pre a)
      rcases hp with ⟨rfl, rfl⟩ | ⟨q, b, rfl, rfl⟩
      · refine evNeg (by simp at hi; omega) ?_
        exact go (fun q e => by cases e)
      · have hq : ((q ++ [b]).length : Int) = q.length + 1 := len_snoc q b
        have h' : xs = q ++ b :: (a :: t) := by rw [h]; simp
        rw [rd_T60_at h' (i := wrap64 (i - 1)) (by rw [wrapId (by omega)]; omega)]
        refine evPos (by omega) ?_
        refine evPos (by rw [wrapId (by omega)]; omega) ?_
        refine evPos (by rw [wrapId (by omega)]; omega) ?_
        refine evIte (fun c5 => go (fun q' e => by cases e; exact c5.symm)) (fun c5 => evSome (chkP_bad _ (fun g => c5 (g.2 _ rfl).symm)))
    · refine evSome ?_
      have : decide (xs.length ≤ 40) = false := decide_eq_false (by omega)
      rw [this, Bool.and_false, decide_eq_false (by omega)]
theorem specGoodP_ev (xs : List S60) (hn : xs.length ≤ 1048576) : Ev (fun k => spec_l14Good.f k xs) (goodP xs) := by
  simp only [spec_l14Good.f]
  exact specGoodP_l0 xs hn xs [] 0 none rfl rfl (.inl ⟨rfl, rfl⟩)

theorem isAmount_eq (a : Int) : impl_isAmount.f a = some (decide (-1000000000 ≤ a ∧ a ≤ 1000000000)) := by
  unfold impl_isAmount.f; rw [within_eq]; rfl

theorem l2Amount_eq (a : Int) : spec_l2Amount.f a = some (decide (-1000000000 ≤ a ∧ a ≤ 1000000000)) := by
  unfold spec_l2Amount.f; rw [l1In_eq]; rfl

/-- What both come to, from a place on: the rest of the schedule and of the amounts, and the sum so far. -/
def payF (a b : Int) : List S60 → List Int → Int → Int × Bool
  | p :: ps, x :: xs, s => if -1000000000 ≤ x ∧ x ≤ 1000000000 then payF a b ps xs (if a ≤ p.f2 ∧ p.f2 ≤ b then wrap64 (s + x) else s) else (0, false)
  | _, _, s => if -1000000000 ≤ s ∧ s ≤ 1000000000 then (s, true) else (0, false)
def payA (xs : List S60) (am : List Int) (a b : Int) : Int × Bool :=
  if goodP xs = true ∧ am.length = xs.length ∧ (0 ≤ a ∧ a ≤ 36524) ∧ (0 ≤ b ∧ b ≤ 36524) then payF a b xs am 0 else (0, false)
theorem specPay_l0 (xs : List S60) (am : List Int) (hn : xs.length ≤ 1048576) (he : am.length = xs.length) (a b : Int) : ∀ (rest pre : List S60) (ar ap : List Int) (s i : Int), xs = pre ++ rest → am = ap ++ ar → i = pre.length → i = ap.length →
    Ev (fun k => spec_PaymentsDue.l0 k xs am a b s i) (payF a b rest ar s) := by
  intro rest
  induction rest with
  | nil =>
    intro pre ar ap s i h h' hi hi'
    have hl := len_nil h
    have har : ar = [] := by
      have : am.length = ap.length + ar.length := by rw [h']; simp
      exact List.length_eq_zero_iff.mp (by omega)
    subst har
    refine evSucc ?_
    simp only [spec_PaymentsDue.l0, l2Amount_eq, Option.bind_some, decide_eq_true_eq]
    refine evNeg (by omega) ?_
    unfold payF
    refine evIte (fun c => ?_) (fun c => ?_)
    · rw [if_pos c]; exact evSome rfl
    · rw [if_neg c]; exact evSome rfl
  | cons p t ih =>
    intro pre ar ap s i h h' hi hi'
    have hl := len_cons h
    obtain ⟨x, ar, rfl⟩ : ∃ x ys, ar = x :: ys := by
      cases ar with
      | nil => have := len_nil h'; omega
      | cons x ys => exact ⟨x, ys, rfl⟩
    have hl' := len_cons h'
    refine evSucc ?_
    simp only [spec_PaymentsDue.l0, l2Amount_eq, l1In_eq, Option.bind_some, decide_eq_true_eq, rd_T60_at h hi, rd_at h' hi']
    refine evPos (by omega) ?_
    refine evPos (by omega) ?_
    refine evPos (by omega) ?_
    unfold payF
    refine evIte (fun c => ?_) (fun c => ?_)
    · rw [if_pos c]
      refine evIte (fun c2 => ?_) (fun c2 => ?_)
      · rw [if_pos c2]
        exact ih (pre ++ [p]) ar (ap ++ [x]) _ _ (snoc h) (snoc h') (by rw [wrapId (by omega), len_snoc]; omega) (by rw [wrapId (by omega), len_snoc]; omega)
      · rw [if_neg c2]
        exact ih (pre ++ [p]) ar (ap ++ [x]) _ _ (snoc h) (snoc h') (by rw [wrapId (by omega), len_snoc]; omega) (by rw [wrapId (by omega), len_snoc]; omega)
    · rw [if_neg c]; exact evSome rfl
theorem implPay_l0 (xs : List S60) (am : List Int) (hn : xs.length ≤ 1048576) (he : am.length = xs.length) (a b : Int) : ∀ (rest pre : List S60) (ar ap : List Int) (s i : Int), xs = pre ++ rest → am = ap ++ ar → i = pre.length → i = ap.length →
    Ev (fun k => impl_PaymentsDue.l0 k am a b s xs (xs.length : Int) i) (payF a b rest ar s) := by
  intro rest
  induction rest with
  | nil =>
    intro pre ar ap s i h h' hi hi'
    have hl := len_nil h
    have har : ar = [] := by
      have : am.length = ap.length + ar.length := by rw [h']; simp
      exact List.length_eq_zero_iff.mp (by omega)
    subst har
    refine evSucc ?_
    simp only [impl_PaymentsDue.l0, isAmount_eq, Option.bind_some, decide_eq_true_eq]
    refine evNeg (by omega) ?_
    unfold payF
    refine evIte (fun c => ?_) (fun c => ?_)
    · rw [if_pos c]; exact evSome rfl
    · rw [if_neg c]; exact evSome rfl
  | cons p t ih =>
    intro pre ar ap s i h h' hi hi'
    have hl := len_cons h
    obtain ⟨x, ar, rfl⟩ : ∃ x ys, ar = x :: ys := by
      cases ar with
      | nil => have := len_nil h'; omega
      | cons x ys => exact ⟨x, ys, rfl⟩
    have hl' := len_cons h'
    refine evSucc ?_
    simp only [impl_PaymentsDue.l0, isAmount_eq, within_eq, Option.bind_some, decide_eq_true_eq, rd_T60_at h hi, rd_at h' hi']
    refine evPos (by omega) ?_
    refine evPos (by omega) ?_
    refine evPos (by omega) ?_
    refine evPos (by omega) ?_
    unfold payF
    refine evIte (fun c => ?_) (fun c => ?_)
    · rw [if_pos c]
      refine evIte (fun c2 => ?_) (fun c2 => ?_)
      · rw [if_pos c2]
        exact ih (pre ++ [p]) ar (ap ++ [x]) _ _ (snoc h) (snoc h') (by rw [wrapId (by omega), len_snoc]; omega) (by rw [wrapId (by omega), len_snoc]; omega)
      · rw [if_neg c2]
        exact ih (pre ++ [p]) ar (ap ++ [x]) _ _ (snoc h) (snoc h') (by rw [wrapId (by omega), len_snoc]; omega) (by rw [wrapId (by omega), len_snoc]; omega)
    · rw [if_neg c]; exact evSome rfl
theorem specPay_ev (xs : List S60) (am : List Int) (a b : Int) (hn : xs.length ≤ 1048576) : Ev (fun k => spec_PaymentsDue.f k xs am a b) (payA xs am a b) := by
  simp only [spec_PaymentsDue.f, l3Good_eq, Option.bind_some, decide_eq_true_eq]
  have no : ¬ (goodP xs = true ∧ am.length = xs.length ∧ (0 ≤ a ∧ a ≤ 36524) ∧ (0 ≤ b ∧ b ≤ 36524)) → Ev (fun k => spec_PaymentsDue.j0 k xs am a b true) (payA xs am a b) := by
    intro h
    refine evSucc ?_
    simp only [spec_PaymentsDue.j0]
    exact evPos (by trivial) (evSome (by unfold payA; rw [if_neg h]))
  refine evBind (specGoodP_ev xs hn) ?_
  refine evIte (fun c1 => ?_) (fun c1 => no (fun g => c1 g.1))
  refine evIte (fun c2 => ?_) (fun c2 => no (fun g => c2 (by have := g.2.1; omega)))
  refine evIte (fun c3 => ?_) (fun c3 => no (fun g => c3 g.2.2.1))
  by_cases c4 : 0 ≤ b ∧ b ≤ 36524
  · rw [decide_eq_true c4]
    refine evSucc ?_
    simp only [spec_PaymentsDue.j0]
    refine evNeg (by simp) ?_
    unfold payA
    rw [if_pos ⟨c1, by omega, c3, c4⟩]
    exact specPay_l0 xs am hn (by omega) a b xs [] am [] 0 0 rfl rfl rfl rfl
  · rw [decide_eq_false c4]
    exact no (fun g => c4 g.2.2.2)
theorem implPay_ev (xs : List S60) (am : List Int) (a b : Int) (hn : xs.length ≤ 1048576) : Ev (fun k => impl_PaymentsDue.f k xs am a b) (payA xs am a b) := by
  simp only [impl_PaymentsDue.f, isDay_eq, Option.bind_some, decide_eq_true_eq]
  have no : ¬ (goodP xs = true ∧ am.length = xs.length ∧ (0 ≤ a ∧ a ≤ 36524) ∧ (0 ≤ b ∧ b ≤ 36524)) → Ev (fun k => impl_PaymentsDue.j0 k xs am a b true) (payA xs am a b) := by
    intro h
    refine evSucc ?_
    simp only [impl_PaymentsDue.j0]
    exact evPos (by trivial) (evSome (by unfold payA; rw [if_neg h]))
  refine evBind (implValidP_ev xs hn) ?_
  refine evIte (fun c1 => ?_) (fun c1 => no (fun g => c1 g.1))
  refine evIte (fun c2 => ?_) (fun c2 => no (fun g => c2 (by have := g.2.1; omega)))
  refine evIte (fun c3 => ?_) (fun c3 => no (fun g => c3 g.2.2.1))
  by_cases c4 : 0 ≤ b ∧ b ≤ 36524
  · rw [decide_eq_true c4]
    refine evSucc ?_
    simp only [impl_PaymentsDue.j0]
    refine evNeg (by simp) ?_
    unfold payA
    rw [if_pos ⟨c1, by omega, c3, c4⟩]
    exact implPay_l0 xs am hn (by omega) a b xs [] am [] 0 0 rfl rfl rfl rfl
  · rw [decide_eq_false c4]
    exact no (fun g => c4 g.2.2.2)

theorem FnExactPaymentsDue (l0 : List S74) (l1 : List Int) (a2 a3 : Int) (ok : l0.length ≤ 9223372036854775807 ∧ ∀ y ∈ l0, (KReads.InI y.f0 ∧ KReads.InI y.f1 ∧ KReads.InI y.f2)) (ok1 : l1.length ≤ 9223372036854775807 ∧ ∀ y ∈ l1, KReads.InI y) (h2 : -9223372036854775808 ≤ a2 ∧ a2 ≤ 9223372036854775807) (h3 : -9223372036854775808 ≤ a3 ∧ a3 ≤ 9223372036854775807) : ∃ k, laws_FnExactPaymentsDue.f k l0 l1 a2 a3 = some true := by
  refine Ev.rounds ?_
  simp only [laws_FnExactPaymentsDue.f, szPeriodS_eq l0 ok.1, Option.bind_some]
  refine evIte (fun _ => Ev.now true) (fun c1 => ?_)
  by_cases c : l0.length ≤ 1048576
  · rw [if_pos c]
    have hm : (l0.map cv_Period).length ≤ 1048576 := by simpa using c
    have e0 := toPeriodS_ev l0 c
    have f0 := toIntS_ev l1 (by omega)
    have e1 := specPay_ev (l0.map cv_Period) l1 a2 a3 hm
    have e2 := implPay_ev (l0.map cv_Period) l1 a2 a3 hm
    have e3 := eqPeriodS_ev (l0.map cv_Period) (by omega)
    have f3 := eqIntS_ev l1 (by omega)
    repeat (first
      | dsimp only
      | exact Ev.now _
      | (refine evBind (by with_reducible assumption) ?_)
      | (refine evBindS (by with_reducible assumption) ?_)
      | (refine evPos (by with_reducible rfl) ?_)
      | (refine evPos True.intro ?_)
      | (refine evNeg not_false ?_)
      | (refine evNeg (by rw [bne_self_eq_false]; exact Bool.false_ne_true) ?_)
      | (refine evNeg Bool.false_ne_true ?_)
      | (refine evPos (by omega) ?_)
      | (refine evNeg (by omega) ?_)
      | (refine evSucc ?_; simp only [laws_FnExactPaymentsDue.j0]))
  · rw [if_neg c]
    exact evPos (by omega) (Ev.now true)
end Go.Proofs.Ytlmdghcpcohamaa.Pure
