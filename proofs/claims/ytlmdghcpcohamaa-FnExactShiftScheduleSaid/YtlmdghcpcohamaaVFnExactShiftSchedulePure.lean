/- The law FnExactShiftSchedule over the printed functions: for all arguments of Go's kinds there is a number of rounds at which it answers true. No other condition. -/
import Derived.Test.YtlmdghcpcohamaaVFnExactShiftSchedulex0
import Derived.Test.YtlmdghcpcohamaaVFnExactShiftSchedulex1
import Derived.Test.YtlmdghcpcohamaaVFnExactShiftSchedulex2
import Derived.Test.YtlmdghcpcohamaaVFnExactShiftSchedulex3
import Derived.Test.YtlmdghcpcohamaaVFnExactShiftSchedulex4
import Derived.Test.YtlmdghcpcohamaaVFnExactShiftSchedulex5
import Derived.Test.YtlmdghcpcohamaaVFnExactShiftSchedulex6
import Derived.Test.YtlmdghcpcohamaaVFnExactShiftSchedulex7
import Derived.Test.YtlmdghcpcohamaaVFnExactShiftSchedulex8
import Derived.Test.YtlmdghcpcohamaaVFnExactShiftSchedulex9
import Derived.Test.YtlmdghcpcohamaaVFnExactShiftScheduleEvKit
import Derived.Test.YtlmdghcpcohamaaVFnExactShiftScheduleKReads
namespace Go.Proofs.Ytlmdghcpcohamaa.Pure
open Go.RowKit Go.Proofs.YtlmdghcpcohamaaW.PrintWords Go.Proofs.YtlmdghcpcohamaaW.PrintLast Go.Proofs.YtlmdghcpcohamaaW.PrintMore Go.Proofs.Ytlmdghcpcohamaa.PFnExactShiftSchedule Go.Proofs.Ytlmdghcpcohamaa.EvKit
set_option linter.unusedVariables false
set_option linter.unusedSimpArgs false

theorem rd_T60_at {xs pre t : List S60} {a : S60} (h : xs = pre ++ a :: t) {i : Int} (hi : i = pre.length) : rd_T60 xs i = a := getD_at h hi


theorem rd_T74_at {xs pre t : List S74} {a : S74} (h : xs = pre ++ a :: t) {i : Int} (hi : i = pre.length) : rd_T74 xs i = a := getD_at h hi


def cv_Period (x : S74) : S60 := ⟨x.f0, x.f1, x.f2⟩
theorem toPeriodS_l0 (xs : List S74) (hn : xs.length ≤ 1048576) : ∀ (rest pre : List S74) (cur : List S60) (i : Int), xs = pre ++ rest → i = pre.length → (∃ tl : List S60, tl.length = rest.length ∧ cur = pre.map cv_Period ++ tl) →
    Ev (fun k => laws_toPeriodS.l0 k xs cur i) (xs.map cv_Period) := by
  intro rest
  induction rest with
  | nil =>
    intro pre cur i h hi hc
    obtain ⟨tl, ht, rfl⟩ := hc
    have hl := len_nil h
    refine evSucc ?_
    simp only [laws_toPeriodS.l0]
    refine evNeg (by omega) ?_
    refine evSome ?_
    have : tl = [] := List.length_eq_zero_iff.mp ht
    subst this
    rw [h]; simp
  | cons a t ih =>
    intro pre cur i h hi hc
    obtain ⟨tl, ht, hcur⟩ := hc
    have hl := len_cons h
    obtain ⟨b, tl, rfl⟩ : ∃ b tl', tl = b :: tl' := by
      cases tl with
      | nil => simp at ht
      | cons b tl => exact ⟨b, tl, rfl⟩
    have hcl := len_cons hcur
    simp at hcl
    refine evSucc ?_
    simp only [laws_toPeriodS.l0]
    refine evPos (by omega) ?_
    refine evPos (by omega) ?_
    simp only [laws_toPeriod.f, rd_T74_at h hi, Option.bind_some]
    refine evPos (by omega) ?_
    refine ih (pre ++ [a]) _ _ (snoc h) ?_ ⟨tl, by simpa using ht, ?_⟩
    · rw [wrapId (by omega), len_snoc]; omega
    · rw [set_at hcur (by simpa using hi)]; simp [cv_Period]
theorem toPeriodS_ev (xs : List S74) (hn : xs.length ≤ 1048576) : Ev (fun k => laws_toPeriodS.f k xs) (xs.map cv_Period) := by
  simp only [laws_toPeriodS.f]
  refine evPos (by omega) ?_
  refine evPos (by omega) ?_
  exact toPeriodS_l0 xs hn xs [] _ 0 rfl rfl ⟨List.replicate xs.length z60, by simp, by simp⟩
theorem szPeriodS_eq (xs : List S74) (h : xs.length ≤ 9223372036854775807) : laws_szPeriodS.f xs 1048576 = some (if xs.length ≤ 1048576 then 1048576 - (xs.length : Int) else -1) := by
  simp only [laws_szPeriodS.f]
  rw [wrapId (by omega)]
  by_cases c : xs.length ≤ 1048576
  · rw [if_neg (by omega), if_pos c]
  · rw [if_pos (by omega), if_neg c]


theorem eqPeriodS_l0 (xs : List S60) (hn : xs.length ≤ 9223372036854775806) : ∀ (rest pre : List S60) (i : Int), xs = pre ++ rest → i = pre.length → Ev (fun k => laws_eqPeriodS.l0 k xs xs i) true := by
  intro rest
  induction rest with
  | nil =>
    intro pre i h hi
    have hl := len_nil h
    refine evSucc ?_
    simp only [laws_eqPeriodS.l0]
    refine evNeg (by omega) ?_
    exact evSome rfl
  | cons a t ih =>
    intro pre i h hi
    have hl := len_cons h
    refine evSucc ?_
    simp only [laws_eqPeriodS.l0]
    refine evPos (by omega) ?_
    refine evPos (by omega) ?_
    refine evPos (by omega) ?_
    refine evBindS (a := true) (by simp [laws_eqPeriod.f]) ?_
    refine evPos (by trivial) ?_
    exact ih (pre ++ [a]) _ (snoc h) (by rw [wrapId (by omega), len_snoc]; omega)
theorem eqPeriodS_ev (xs : List S60) (hn : xs.length ≤ 9223372036854775806) : Ev (fun k => laws_eqPeriodS.f k xs xs) true := by
  simp only [laws_eqPeriodS.f]
  exact evPos (by trivial) (eqPeriodS_l0 xs hn xs [] 0 rfl rfl)


def upS_Period : Nat → Int → List S60
  | 0, _ => []
  | c + 1, m => ⟨m, m + 1, m + 2⟩ :: upS_Period c (m + 3)
theorem upS_Period_length : ∀ (c : Nat) (m : Int), (upS_Period c m).length = c
  | 0, _ => rfl
  | c + 1, m => by simp [upS_Period, upS_Period_length c]
theorem markPeriodS_l0 : ∀ (rest pre : List S60) (xs : List S60) (m i : Int), xs = pre ++ rest → i = pre.length → 0 ≤ m → m + 3 * rest.length ≤ 9223372036854775807 → pre.length + rest.length ≤ 9223372036854775806 →
    Ev (fun k => laws_markPeriodS.l0 k xs m i) (m + 3 * rest.length, pre ++ upS_Period rest.length m) := by
  intro rest
  induction rest with
  | nil =>
    intro pre xs m i h hi h0 h1 h2
    have hl := len_nil h
    refine evSucc ?_
    simp only [laws_markPeriodS.l0]
    refine evNeg (by omega) ?_
    exact evSome (by simp [h, upS_Period])
  | cons a t ih =>
    intro pre xs m i h hi h0 h1 h2
    have hl := len_cons h
    subst h
    simp only [List.length_cons] at h1 h2
    have hrd : ∀ b : S60, rd_T60 (pre ++ b :: t) i = b := fun b => rd_T60_at rfl hi
    have hset : ∀ b c : S60, (pre ++ b :: t).set i.toNat c = pre ++ c :: t := fun b c => set_at rfl hi
    have w1 : wrap64 (m + 1) = m + 1 := (wrapId (by omega)).trans (by omega)
    have w2 : wrap64 (m + 1 + 1) = m + 2 := (wrapId (by omega)).trans (by omega)
    have w3 : wrap64 (m + 2 + 1) = m + 3 := (wrapId (by omega)).trans (by omega)
    refine evSucc ?_
    simp only [laws_markPeriodS.l0, Option.bind_some, hrd, hset, w1, w2, w3]
    refine evPos (by omega) ?_
    refine evPos (by omega) ?_
    refine evEq (ih (pre ++ [⟨m, m + 1, m + 2⟩]) _ (m + 3) _ (by simp) ?_ ?_ ?_ ?_) ?_
    · rw [wrapId (by omega), len_snoc]; omega
    · omega
    · omega
    · simp; omega
    · simp [upS_Period]; omega
theorem markPeriodS_ev (xs : List S60) (m : Int) (h0 : 0 ≤ m) (h1 : m + 3 * xs.length ≤ 9223372036854775807) (h2 : xs.length ≤ 9223372036854775806) : Ev (fun k => laws_markPeriodS.f k xs m) (m + 3 * xs.length, upS_Period xs.length m) := by
  simp only [laws_markPeriodS.f]
  exact evEq (markPeriodS_l0 xs [] xs m 0 rfl rfl h0 h1 (by simpa using h2)) (by simp)


theorem heldPeriodS_l0 : ∀ (n : Nat) (pre : List S60) (xs : List S60) (m i : Int), xs = pre ++ upS_Period n m → i = pre.length → 0 ≤ m → m + 3 * n ≤ 9223372036854775807 → pre.length + n ≤ 9223372036854775806 →
    Ev (fun k => laws_heldPeriodS.l0 k xs m i) (m + 3 * n) := by
  intro n
  induction n with
  | zero =>
    intro pre xs m i h hi h0 h1 h2
    have hl := len_nil h
    refine evSucc ?_
    simp only [laws_heldPeriodS.l0]
    refine evNeg (by omega) ?_
    exact evSome (by simp)
  | succ n ih =>
    intro pre xs m i h hi h0 h1 h2
    have h' : xs = pre ++ ⟨m, m + 1, m + 2⟩ :: upS_Period n (m + 3) := h
    have hl := len_cons h'
    rw [upS_Period_length] at hl
    have hrd := rd_T60_at h' hi
    have w1 : wrap64 (m + 1) = m + 1 := (wrapId (by omega)).trans (by omega)
    have w2 : wrap64 (m + 1 + 1) = m + 2 := (wrapId (by omega)).trans (by omega)
    have w3 : wrap64 (m + 2 + 1) = m + 3 := (wrapId (by omega)).trans (by omega)
    refine evSucc ?_
    simp only [laws_heldPeriodS.l0, hrd, w1, w2, w3]
    repeat (first | with_reducible refine evPos True.intro ?_ | with_reducible refine evPos (by omega) ?_)
    refine evEq (ih (pre ++ [⟨m, m + 1, m + 2⟩]) _ (m + 3) _ (snoc h') ?_ ?_ ?_ ?_) ?_
    · rw [wrapId (by omega), len_snoc]; omega
    · omega
    · omega
    · simp; omega
    · omega
theorem heldPeriodS_ev (n : Nat) (m : Int) (h0 : 0 ≤ m) (h1 : m + 3 * n ≤ 9223372036854775807) (h2 : n ≤ 9223372036854775806) : Ev (fun k => laws_heldPeriodS.f k (upS_Period n m) m) (m + 3 * n) := by
  simp only [laws_heldPeriodS.f]
  exact heldPeriodS_l0 n [] _ m 0 rfl rfl h0 h1 (by simpa using h2)

theorem within_eq (a b c : Int) : impl_within.f a b c = some (decide (b ≤ a ∧ a ≤ c)) := by
  unfold impl_within.f
  by_cases h : a ≥ b
  · rw [if_pos h]; exact congrArg some (decide_eq_decide.mpr ⟨fun g => ⟨h, g⟩, fun g => g.2⟩)
  · rw [if_neg h]; exact congrArg some (decide_eq_false (fun g => h g.1)).symm
theorem l1In_eq (a b c : Int) : spec_l1In.f a b c = some (decide (b ≤ a ∧ a ≤ c)) := by
  unfold spec_l1In.f
  by_cases h : a ≥ b
  · rw [if_pos h]; exact congrArg some (decide_eq_decide.mpr ⟨fun g => ⟨h, g⟩, fun g => g.2⟩)
  · rw [if_neg h]; exact congrArg some (decide_eq_false (fun g => h g.1)).symm

theorem isDay_eq (a : Int) : impl_isDay.f a = some (decide (0 ≤ a ∧ a ≤ 36524)) := by
  unfold impl_isDay.f; rw [within_eq]; rfl
theorem l3Good_eq (a : Int) : spec_l3Good.f a = some (decide (0 ≤ a ∧ a ≤ 36524)) := by
  unfold spec_l3Good.f; rw [l1In_eq]; rfl

def okP (a : S60) : Prop := (0 ≤ a.f0 ∧ a.f0 ≤ 36524) ∧ (0 ≤ a.f1 ∧ a.f1 ≤ 36524) ∧ (0 ≤ a.f2 ∧ a.f2 ≤ 36524) ∧ a.f0 < a.f1
instance (a : S60) : Decidable (okP a) := by unfold okP; infer_instance
def joinP (p : Option Int) (a : S60) : Prop := ∀ q, p = some q → a.f0 = q
instance (p : Option Int) (a : S60) : Decidable (joinP p a) := by
  cases p with
  | none => exact isTrue (fun q h => by cases h)
  | some q =>
    by_cases h : a.f0 = q
    · exact isTrue (fun q' e => by cases e; exact h)
    · exact isFalse (fun g => h (g q rfl))
/-- The periods are in order; p: where the one before them ends. -/
def chkP : Option Int → List S60 → Bool
  | _, [] => true
  | p, a :: t => decide (okP a) && decide (joinP p a) && chkP (some a.f1) t
def goodP (xs : List S60) : Bool := chkP none xs && decide (xs.length ≤ 40)
def endP (pre : List S60) (p : Option Int) : Prop := (pre = [] ∧ p = none) ∨ ∃ q b, pre = q ++ [b] ∧ p = some b.f1
theorem endP_snoc (pre : List S60) (a : S60) : endP (pre ++ [a]) (some a.f1) := .inr ⟨pre, a, rfl, rfl⟩
theorem chkP_bad {p : Option Int} {a : S60} {t : List S60} (b : Bool) (h : ¬ (okP a ∧ joinP p a)) : false = (chkP p (a :: t) && b) := by
  rw [chkP]
  by_cases h1 : okP a
  · rw [decide_eq_false (fun g => h ⟨h1, g⟩)]; simp
  · rw [decide_eq_false h1]; simp
theorem chkP_step {p : Option Int} {a : S60} (t : List S60) (b : Bool) (h1 : okP a) (h2 : joinP p a) : (chkP (some a.f1) t && b) = (chkP p (a :: t) && b) := by
  rw [chkP, decide_eq_true h1, decide_eq_true h2]; simp
theorem implValidP_l0 (xs : List S60) (hn : xs.length ≤ 1048576) : ∀ (rest pre : List S60) (i : Int) (p : Option Int), xs = pre ++ rest → i = pre.length → endP pre p → Ev (fun k => impl_IsValidSchedule.l0 k xs xs (xs.length : Int) i) (chkP p rest && decide (xs.length ≤ 40)) := by
  intro rest
  induction rest with
  | nil =>
    intro pre i p h hi hp
    have hl := len_nil h
    refine evSucc ?_
    simp only [impl_IsValidSchedule.l0]
    refine evNeg (by omega) ?_
    refine evSome ?_
    rw [chkP, Bool.true_and, decide_eq_decide]; omega
  | cons a t ih =>
    intro pre i p h hi hp
    have hl := len_cons h
    refine evSucc ?_
    simp only [impl_IsValidSchedule.l0, isDay_eq, Option.bind_some, decide_eq_true_eq, rd_T60_at h hi]
    refine evPos (by omega) ?_
    refine evPos (by omega) ?_
    refine evPos (by omega) ?_
    refine evIte (fun c1 => evSome (chkP_bad _ (fun g => by have := g.1.1; omega))) (fun c1 => ?_)
    refine evIte (fun c2 => evSome (chkP_bad _ (fun g => by have := g.1.2.2.2; omega))) (fun c2 => ?_)
    refine evIte (fun c3 => evSome (chkP_bad _ (fun g => by have := g.1.2.1; omega))) (fun c3 => ?_)
    refine evIte (fun c4 => ?_) (fun c4 => evSome (chkP_bad _ (fun g => c4 g.1.2.2.1)))
    have hok : okP a := ⟨by omega, by omega, c4, by omega⟩
    have go : joinP p a → Ev (fun k => impl_IsValidSchedule.l0 k xs xs (xs.length : Int) (wrap64 (i + 1))) (chkP p (a :: t) && decide (xs.length ≤ 40)) := by
      intro hj
      rw [← chkP_step t _ hok hj]
      exact ih (pre ++ [a]) _ (some a.f1) (snoc h) (by rw [wrapId (by omega), len_snoc]; omega) (endP_snoc pre a)
    rcases hp with ⟨rfl, rfl⟩ | ⟨q, b, rfl, rfl⟩
    · refine evNeg (by simp at hi; omega) ?_
      exact go (fun q e => by cases e)
    · have hq : ((q ++ [b]).length : Int) = q.length + 1 := len_snoc q b
      have h' : xs = q ++ b :: (a :: t) := by rw [h]; simp
      rw [rd_T60_at h' (i := wrap64 (i - 1)) (by rw [wrapId (by omega)]; omega)]
      refine evPos (by omega) ?_
      refine evPos (by rw [wrapId (by omega)]; omega) ?_
      refine evPos (by rw [wrapId (by omega)]; omega) ?_
      refine evIte (fun c5 => go (fun q' e => by cases e; exact c5)) (fun c5 => evSome (chkP_bad _ (fun g => c5 (g.2 _ rfl))))
theorem implValidP_ev (xs : List S60) (hn : xs.length ≤ 1048576) : Ev (fun k => impl_IsValidSchedule.f k xs) (goodP xs) := by
  simp only [impl_IsValidSchedule.f]
  exact implValidP_l0 xs hn xs [] 0 none rfl rfl (.inl ⟨rfl, rfl⟩)
theorem specGoodP_l0 (xs : List S60) (hn : xs.length ≤ 1048576) : ∀ (rest pre : List S60) (i : Int) (p : Option Int), xs = pre ++ rest → i = pre.length → endP pre p → Ev (fun k => spec_l14Good.l0 k xs i) (chkP p rest && decide (xs.length ≤ 40)) := by
  intro rest
  induction rest with
  | nil =>
    intro pre i p h hi hp
    have hl := len_nil h
    refine evSucc ?_
    simp only [spec_l14Good.l0]
    refine evNeg (by omega) ?_
    refine evSucc ?_
    simp only [spec_l14Good.j1]
    refine evNeg (by simp) ?_
    refine evSome ?_
    rw [chkP, Bool.true_and, decide_eq_decide]; omega
  | cons a t ih =>
    intro pre i p h hi hp
    have hl := len_cons h
    refine evSucc ?_
    simp only [spec_l14Good.l0]
    refine evPos (by omega) ?_
    refine evSucc ?_
    simp only [spec_l14Good.j1, l3Good_eq, Option.bind_some, decide_eq_true_eq, rd_T60_at h hi]
    refine evIte (fun c0 => ?_) (fun c0 => ?_)
    · refine evPos (by omega) ?_
      refine evPos (by omega) ?_
      refine evIte (fun c1 => ?_) (fun c1 => evSome (chkP_bad _ (fun g => c1 g.1.1)))
      refine evIte (fun c2 => ?_) (fun c2 => evSome (chkP_bad _ (fun g => c2 g.1.2.1)))
      refine evIte (fun c3 => ?_) (fun c3 => evSome (chkP_bad _ (fun g => c3 g.1.2.2.1)))
      refine evIte (fun c4 => evSome (chkP_bad _ (fun g => by have := g.1.2.2.2; omega))) (fun c4 => ?_)
      have hok : okP a := ⟨c1, c2, c3, by omega⟩
      have go : joinP p a → Ev (fun k => spec_l14Good.l0 k xs (wrap64 (i + 1))) (chkP p (a :: t) && decide (xs.length ≤ 40)) := by
        intro hj
        rw [← chkP_step t _ hok hj]
        exact ih (pre ++ [a]) _ (some a.f1) (snoc h) (by rw [wrapId (by omega), len_snoc]; omega) (endP_snoc pre a)
      rcases hp with ⟨rfl, rfl⟩ | ⟨q, b, rfl, rfl⟩
      · refine evNeg (by simp at hi; omega) ?_
        exact go (fun q e => by cases e)
      · have hq : ((q ++ [b]).length : Int) = q.length + 1 := len_snoc q b
        have h' : xs = q ++ b :: (a :: t) := by rw [h]; simp
        rw [rd_T60_at h' (i := wrap64 (i - 1)) (by rw [wrapId (by omega)]; omega)]
        refine evPos (by omega) ?_
        refine evPos (by rw [wrapId (by omega)]; omega) ?_
        refine evPos (by rw [wrapId (by omega)]; omega) ?_
        refine evIte (fun c5 => go (fun q' e => by cases e; exact c5.symm)) (fun c5 => evSome (chkP_bad _ (fun g => c5 (g.2 _ rfl).symm)))
    · refine evSome ?_
      have : decide (xs.length ≤ 40) = false := decide_eq_false (by omega)
      rw [this, Bool.and_false, decide_eq_false (by omega)]
theorem specGoodP_ev (xs : List S60) (hn : xs.length ≤ 1048576) : Ev (fun k => spec_l14Good.f k xs) (goodP xs) := by
  simp only [spec_l14Good.f]
  exact specGoodP_l0 xs hn xs [] 0 none rfl rfl (.inl ⟨rfl, rfl⟩)

def dimA (y m : Int) : Int := if m = 2 then (if y % 4 = 0 then 29 else 28) else if m = 4 then 30 else if m = 6 then 30 else if m = 9 then 30 else if m = 11 then 30 else 31
def ylA (y : Int) : Int := 337 + dimA y 2
def dbyA (y : Int) : Int := 365 * (y - 2000) + (y - 2000 + 3) / 4
def leapA (y : Int) : Int := if y % 4 = 0 then 1 else 0
def cumA (y m : Int) : Int :=
  if m ≤ 1 then 0 else if m = 2 then 31 else leapA y + (if m = 3 then 59 else if m = 4 then 90 else if m = 5 then 120 else if m = 6 then 151 else if m = 7 then 181 else if m = 8 then 212 else if m = 9 then 243 else if m = 10 then 273 else if m = 11 then 304 else if m = 12 then 334 else 365)
theorem dim_bd (y m : Int) : 28 ≤ dimA y m ∧ dimA y m ≤ 31 := by unfold dimA; repeat (first | omega | split)
theorem yl_eq (y : Int) : ylA y = 365 + leapA y := by unfold ylA dimA leapA; rw [if_pos rfl]; split <;> omega
theorem leap_bd (y : Int) : 0 ≤ leapA y ∧ leapA y ≤ 1 := by unfold leapA; split <;> omega
theorem dby_succ (y : Int) : dbyA (y + 1) = dbyA y + ylA y := by
  rw [yl_eq]; unfold dbyA leapA; split <;> omega
theorem dby_bd (y : Int) (h : 2000 ≤ y ∧ y ≤ 2100) : 0 ≤ dbyA y ∧ dbyA y ≤ 36525 := by unfold dbyA; omega
theorem cum_succ (y m : Int) (h : 1 ≤ m ∧ m ≤ 12) : cumA y (m + 1) = cumA y m + dimA y m := by
  have : m = 1 ∨ m = 2 ∨ m = 3 ∨ m = 4 ∨ m = 5 ∨ m = 6 ∨ m = 7 ∨ m = 8 ∨ m = 9 ∨ m = 10 ∨ m = 11 ∨ m = 12 := by omega
  rcases this with rfl | rfl | rfl | rfl | rfl | rfl | rfl | rfl | rfl | rfl | rfl | rfl <;> simp [cumA, dimA] <;> unfold leapA <;> split <;> rfl
theorem cum_bd (y m : Int) : 0 ≤ cumA y m ∧ cumA y m ≤ 366 := by
  have := leap_bd y
  unfold cumA; repeat (first | omega | split)
theorem cum_13 (y : Int) : cumA y 13 = ylA y := by rw [yl_eq]; simp [cumA]; omega
theorem cum_1 (y : Int) : cumA y 1 = 0 := rfl
theorem daysIn_eq (y m : Int) (hy : 0 ≤ y) : impl_daysIn.f y m = some (dimA y m) := by
  unfold impl_daysIn.f dimA
  rw [Int.tmod_eq_emod_of_nonneg hy]
  repeat (first | rfl | split)
theorem daysOf_eq (y : Int) (hy : 0 ≤ y) : impl_daysOf.f y = some (ylA y) := by
  unfold impl_daysOf.f
  rw [daysIn_eq y 2 hy]
  have := dim_bd y 2
  simp only [Option.bind_some]
  rw [wrapId (by omega)]; rfl
theorem l3Length_ev (y m : Int) (hy : 0 ≤ y) : Ev (fun k => spec_l3Length.f k y m) (dimA y m) := by
  have hm := Int.tmod_eq_emod_of_nonneg (b := 4) hy
  simp only [spec_l3Length.f]
  refine evIte (fun c => ?_) (fun c4 => ?_)
  · subst c; refine evSucc ?_; simp only [spec_l3Length.j0]; exact evPos (by decide) (evSome rfl)
  refine evIte (fun c => ?_) (fun c6 => ?_)
  · subst c; refine evSucc ?_; simp only [spec_l3Length.j0]; exact evPos (by decide) (evSome rfl)
  refine evIte (fun c => ?_) (fun c9 => ?_)
  · subst c; refine evSucc ?_; simp only [spec_l3Length.j0]; exact evPos (by decide) (evSome rfl)
  refine evSucc ?_
  simp only [spec_l3Length.j0, hm]
  by_cases c11 : m = 11
  · subst c11; exact evPos (by decide) (evSome rfl)
  · refine evNeg (by rw [beq_iff_eq]; exact c11) ?_
    unfold dimA
    refine evIte (fun c => ?_) (fun c => ?_)
    · rw [if_pos c]
      refine evIte (fun c => ?_) (fun c => ?_)
      · rw [if_pos c]; exact evSome rfl
      · rw [if_neg c]; exact evSome rfl
    · rw [if_neg c, if_neg c4, if_neg c6, if_neg c9, if_neg c11]; exact evSome rfl
theorem specDay_ev (y m d : Int) (hy : 2000 ≤ y ∧ y ≤ 2100) (hm : 1 ≤ m ∧ m ≤ 13) (hd : -1 ≤ d ∧ d ≤ 400) : Ev (fun k => spec_l3Day.f k y m d) (dbyA y + cumA y m + d - 1) := by
  have hb := dby_bd y hy
  have main : ∀ (n : Nat) (s j : Int), j + n = m → 1 ≤ j → s = dbyA y + cumA y j → Ev (fun k => spec_l3Day.l0 k s j y m d) (dbyA y + cumA y m + d - 1) := by
    intro n
    induction n with
    | zero =>
      intro s j h1 h2 h3
      have hc := cum_bd y j
      refine evSucc ?_
      simp only [spec_l3Day.l0]
      refine evNeg (by omega) ?_
      have : j = m := by omega
      subst this
      exact evSome (by rw [wrapId (x := s + d) (by omega), wrapId (by omega)]; omega)
    | succ n ih =>
      intro s j h1 h2 h3
      have hc := cum_bd y j
      have hd2 := dim_bd y j
      have hs := cum_succ y j (by omega)
      refine evSucc ?_
      simp only [spec_l3Day.l0]
      refine evPos (by omega) ?_
      refine evBind (l3Length_ev y j (by omega)) ?_
      exact ih _ _ (by rw [wrapId (by omega)]; omega) (by rw [wrapId (by omega)]; omega) (by rw [wrapId (by omega), wrapId (by omega), hs]; omega)
  simp only [spec_l3Day.f]
  refine main (m - 1).toNat _ 1 (by omega) (by omega) ?_
  rw [wrapId (x := y - 2000) (by omega), wrapId (x := 365 * (y - 2000)) (by omega), wrapId (x := y - 2000 + 3) (by omega), Int.tdiv_eq_ediv_of_nonneg (by omega), wrapId (x := (y - 2000 + 3) / 4) (by omega), wrapId (by omega), cum_1]
  unfold dbyA; omega
/-- The day has this date. -/
def isDate (day y m d : Int) : Prop := (2000 ≤ y ∧ y ≤ 2099) ∧ (1 ≤ m ∧ m ≤ 12) ∧ (1 ≤ d ∧ d ≤ dimA y m) ∧ day = dbyA y + cumA y m + d - 1
theorem cum_mono (y : Int) : ∀ (n : Nat) (m : Int), 1 ≤ m → m + n ≤ 13 → cumA y m + 28 * n ≤ cumA y (m + n) := by
  intro n
  induction n with
  | zero => intro m _ _; simp
  | succ n ih =>
    intro m h1 h2
    have := ih m h1 (by omega)
    have hs := cum_succ y (m + n) (by omega)
    have hd := dim_bd y (m + n)
    have e : m + ((n + 1 : Nat) : Int) = m + n + 1 := by omega
    rw [e, hs]; omega
theorem dby_mono : ∀ (n : Nat) (y : Int), dbyA y + 365 * n ≤ dbyA (y + n) := by
  intro n
  induction n with
  | zero => intro y; simp
  | succ n ih =>
    intro y
    have := ih y
    have hs := dby_succ (y + n)
    have hl := yl_eq (y + n)
    have hl2 := leap_bd (y + n)
    have e : y + ((n + 1 : Nat) : Int) = y + n + 1 := by omega
    rw [e, hs]; omega
theorem isDate_inYear {day y m d : Int} (h : isDate day y m d) : dbyA y ≤ day ∧ day < dbyA (y + 1) := by
  obtain ⟨h1, h2, h3, h4⟩ := h
  have hs := dby_succ y
  have hc := cum_bd y m
  have hs2 := cum_succ y m h2
  have hm := cum_mono y (12 - m).toNat (m + 1) (by omega) (by omega)
  have e : m + 1 + ((12 - m).toNat : Int) = 13 := by omega
  rw [e, cum_13] at hm
  omega
theorem isDate_unique {day y m d y' m' d' : Int} (h : isDate day y m d) (h' : isDate day y' m' d') : y = y' ∧ m = m' ∧ d = d' := by
  have a := isDate_inYear h
  have b := isDate_inYear h'
  have hy : y = y' := by
    rcases Int.lt_trichotomy y y' with c | c | c
    · have := dby_mono (y' - (y + 1)).toNat (y + 1)
      have e : y + 1 + ((y' - (y + 1)).toNat : Int) = y' := by omega
      rw [e] at this; omega
    · exact c
    · have := dby_mono (y - (y' + 1)).toNat (y' + 1)
      have e : y' + 1 + ((y - (y' + 1)).toNat : Int) = y := by omega
      rw [e] at this; omega
  subst hy
  obtain ⟨h1, h2, h3, h4⟩ := h
  obtain ⟨g1, g2, g3, g4⟩ := h'
  have hs := cum_succ y m h2
  have gs := cum_succ y m' g2
  have hm : m = m' := by
    rcases Int.lt_trichotomy m m' with c | c | c
    · have := cum_mono y (m' - (m + 1)).toNat (m + 1) (by omega) (by omega)
      have e : m + 1 + ((m' - (m + 1)).toNat : Int) = m' := by omega
      rw [e] at this; omega
    · exact c
    · have := cum_mono y (m - (m' + 1)).toNat (m' + 1) (by omega) (by omega)
      have e : m' + 1 + ((m - (m' + 1)).toNat : Int) = m := by omega
      rw [e] at this; omega
  subst hm
  exact ⟨rfl, rfl, by omega⟩
theorem implDate_ev (day : Int) (h : 0 ≤ day ∧ day ≤ 36524) : ∃ y m d, isDate day y m d ∧ Ev (fun k => impl_dateOf.f k day) (y, m, d) := by
  have inner : ∀ (n : Nat) (y m x : Int), (2000 ≤ y ∧ y ≤ 2099) → m + n = 13 → 1 ≤ m → day = dbyA y + cumA y m + x → 0 ≤ x → x + cumA y m < ylA y → ∃ m' d, isDate day y m' d ∧ Ev (fun k => impl_dateOf.l1 k x y m 0) (y, m', d) := by
    intro n
    induction n with
    | zero =>
      intro y m x hy h1 h2 h3 h4 h5
      have : m = 13 := by omega
      subst this
      rw [cum_13] at h5; omega
    | succ n ih =>
      intro y m x hy h1 h2 h3 h4 h5
      have hs := cum_succ y m (by omega)
      have hd := dim_bd y m
      have hl := yl_eq y
      have hl2 := leap_bd y
      have hcb := cum_bd y m
      by_cases c : x ≥ dimA y m
      · obtain ⟨m', d, hd', he⟩ := ih y (m + 1) (x - dimA y m) hy (by omega) (by omega) (by rw [hs]; omega) (by omega) (by rw [hs]; omega)
        refine ⟨m', d, hd', ?_⟩
        refine evSucc ?_
        simp only [impl_dateOf.l1, daysIn_eq y m (show 0 ≤ y by omega), Option.bind_some]
        refine evPos c ?_
        rw [wrapId (x := x - dimA y m) (by omega), wrapId (x := m + 1) (by omega)]
        exact he
      · refine ⟨m, x + 1, ⟨hy, by omega, by omega, by omega⟩, ?_⟩
        refine evSucc ?_
        simp only [impl_dateOf.l1, daysIn_eq y m (show 0 ≤ y by omega), Option.bind_some]
        refine evNeg c ?_
        rw [wrapId (x := x + 1) (by omega)]
        exact evSome rfl
  have outer : ∀ (n : Nat) (y x : Int), 2000 ≤ y → y + n = 2100 → day = dbyA y + x → 0 ≤ x → ∃ y' m d, isDate day y' m d ∧ Ev (fun k => impl_dateOf.l0 k x y 1 0) (y', m, d) := by
    intro n
    induction n with
    | zero =>
      intro y x h1 h2 h3 h4
      have : y = 2100 := by omega
      subst this
      have e : dbyA 2100 = 36525 := by decide
      omega
    | succ n ih =>
      intro y x h1 h2 h3 h4
      have hs := dby_succ y
      have hl := yl_eq y
      have hl2 := leap_bd y
      have hb := dby_bd y (by omega)
      by_cases c : x ≥ ylA y
      · obtain ⟨y', m, d, hd', he⟩ := ih (y + 1) (x - ylA y) (by omega) (by omega) (by rw [hs]; omega) (by omega)
        refine ⟨y', m, d, hd', ?_⟩
        refine evSucc ?_
        simp only [impl_dateOf.l0, daysOf_eq y (show 0 ≤ y by omega), Option.bind_some]
        refine evPos c ?_
        rw [wrapId (x := x - ylA y) (by omega), wrapId (x := y + 1) (by omega)]
        exact he
      · obtain ⟨m, d, hd', he⟩ := inner 12 y 1 x (by omega) (by omega) (by omega) (by rw [cum_1]; omega) h4 (by rw [cum_1]; omega)
        refine ⟨y, m, d, hd', ?_⟩
        refine evSucc ?_
        simp only [impl_dateOf.l0, daysOf_eq y (show 0 ≤ y by omega), Option.bind_some]
        exact evNeg c he
  obtain ⟨y, m, d, h1, h2⟩ := outer 100 2000 day (by omega) (by omega) (by unfold dbyA; omega) h.1
  exact ⟨y, m, d, h1, by simp only [impl_dateOf.f]; exact h2⟩
theorem specDate_ev (day : Int) (h : 0 ≤ day ∧ day ≤ 36524) : ∃ y m d, isDate day y m d ∧ Ev (fun k => spec_l3Date.f k day) (y, m, d) := by
  have inner : ∀ (n : Nat) (y m : Int), (2000 ≤ y ∧ y ≤ 2099) → m + n = 12 → 1 ≤ m → dbyA y + cumA y m ≤ day → day < dbyA y + ylA y → ∃ m' d, isDate day y m' d ∧ Ev (fun k => spec_l3Date.l1 k day y m 1) (y, m', d) := by
    intro n
    have last : ∀ y m : Int, (2000 ≤ y ∧ y ≤ 2099) → (1 ≤ m ∧ m ≤ 12) → dbyA y + cumA y m ≤ day → day < dbyA y + cumA y (m + 1) → isDate day y m (day - (dbyA y + cumA y m) + 1) := by
      intro y m hy hm h3 h4
      have hs := cum_succ y m hm
      exact ⟨hy, hm, by omega, by omega⟩
    induction n with
    | zero =>
      intro y m hy h1 h2 h3 h4
      have : m = 12 := by omega
      subst this
      refine ⟨12, _, last y 12 hy (by omega) h3 (by rw [show (12 : Int) + 1 = 13 from rfl, cum_13]; exact h4), ?_⟩
      refine evSucc ?_
      simp only [spec_l3Date.l1]
      refine evNeg (by omega) ?_
      have hb := dby_bd y (by omega)
      have hc := cum_bd y 12
      refine evBind (specDay_ev y 12 1 (by omega) (by omega) (by omega)) (evSome ?_)
      rw [show dbyA y + cumA y 12 + 1 - 1 = dbyA y + cumA y 12 by omega, wrapId (x := day - (dbyA y + cumA y 12)) (by omega), wrapId (by omega)]
    | succ n ih =>
      intro y m hy h1 h2 h3 h4
      have hb := dby_bd y (by omega)
      have hc := cum_bd y m
      have hc1 := cum_bd y (m + 1)
      have g1 := specDay_ev y (m + 1) 1 (by omega) (by omega) (by omega)
      by_cases c : dbyA y + cumA y (m + 1) + 1 - 1 ≤ day
      · obtain ⟨m', d, hd', he⟩ := ih y (m + 1) hy (by omega) (by omega) (by omega) h4
        refine ⟨m', d, hd', ?_⟩
        refine evSucc ?_
        simp only [spec_l3Date.l1, wrapId (x := m + 1) (by omega)]
        refine evPos (by omega) ?_
        refine evBind g1 ?_
        exact evPos c he
      · refine ⟨m, _, last y m hy (by omega) h3 (by omega), ?_⟩
        refine evSucc ?_
        simp only [spec_l3Date.l1, wrapId (x := m + 1) (by omega)]
        refine evPos (by omega) ?_
        refine evBind g1 ?_
        refine evNeg c ?_
        refine evBind (specDay_ev y m 1 (by omega) (by omega) (by omega)) (evSome ?_)
        rw [show dbyA y + cumA y m + 1 - 1 = dbyA y + cumA y m by omega, wrapId (x := day - (dbyA y + cumA y m)) (by omega), wrapId (by omega)]
  have fin : ∀ y : Int, (2000 ≤ y ∧ y ≤ 2099) → dbyA y ≤ day → day < dbyA y + ylA y → ∃ m d, isDate day y m d ∧ Ev (fun k => spec_l3Date.j1 k day y 1 1) (y, m, d) := by
    intro y hy h1 h2
    obtain ⟨m, d, hd, he⟩ := inner 11 y 1 hy (by omega) (by omega) (by rw [cum_1]; omega) h2
    refine ⟨m, d, hd, ?_⟩
    refine evSucc ?_
    simp only [spec_l3Date.j1]
    exact he
  have outer : ∀ (n : Nat) (y : Int), 2000 ≤ y → y + n = 2099 → dbyA y ≤ day → ∃ y' m d, isDate day y' m d ∧ Ev (fun k => spec_l3Date.l0 k day y 1 1) (y', m, d) := by
    intro n
    induction n with
    | zero =>
      intro y h1 h2 h3
      have : y = 2099 := by omega
      subst this
      have e : dbyA 2099 + ylA 2099 = 36525 := by decide
      obtain ⟨m, d, hd, he⟩ := fin 2099 (by omega) h3 (by omega)
      refine ⟨2099, m, d, hd, ?_⟩
      refine evSucc ?_
      simp only [spec_l3Date.l0]
      exact evNeg (by omega) he
    | succ n ih =>
      intro y h1 h2 h3
      have hs := dby_succ y
      have g1 := specDay_ev (y + 1) 1 1 (by omega) (by omega) (by omega)
      rw [cum_1] at g1
      by_cases c : dbyA (y + 1) + 0 + 1 - 1 ≤ day
      · obtain ⟨y', m, d, hd', he⟩ := ih (y + 1) (by omega) (by omega) (by omega)
        refine ⟨y', m, d, hd', ?_⟩
        refine evSucc ?_
        simp only [spec_l3Date.l0, wrapId (x := y + 1) (by omega)]
        refine evPos (by omega) ?_
        refine evBind g1 ?_
        exact evPos c he
      · obtain ⟨m, d, hd, he⟩ := fin y (by omega) h3 (by omega)
        refine ⟨y, m, d, hd, ?_⟩
        refine evSucc ?_
        simp only [spec_l3Date.l0, wrapId (x := y + 1) (by omega)]
        refine evPos (by omega) ?_
        refine evBind g1 ?_
        exact evNeg c he
  obtain ⟨y, m, d, h1, h2⟩ := outer 99 2000 (by omega) (by omega) (by unfold dbyA; omega)
  exact ⟨y, m, d, h1, by simp only [spec_l3Date.f]; exact h2⟩
/-- Both tell the same date. -/
theorem date_ev (day : Int) (h : 0 ≤ day ∧ day ≤ 36524) : ∃ y m d, isDate day y m d ∧ Ev (fun k => impl_dateOf.f k day) (y, m, d) ∧ Ev (fun k => spec_l3Date.f k day) (y, m, d) := by
  obtain ⟨y, m, d, h1, h2⟩ := implDate_ev day h
  obtain ⟨y', m', d', h3, h4⟩ := specDate_ev day h
  obtain ⟨rfl, rfl, rfl⟩ := isDate_unique h1 h3
  exact ⟨y, m, d, h1, h2, h4⟩

theorem implDay_l1 (y m d : Int) (hy : 2000 ≤ y ∧ y ≤ 2100) (hm : 1 ≤ m ∧ m ≤ 13) (hd : -1 ≤ d ∧ d ≤ 400) : ∀ (n : Nat) (s j : Int), j + n = m → 1 ≤ j → s = d - 1 + dbyA y + cumA y j → Ev (fun k => impl_dayOf.l1 k s j y m d) (dbyA y + cumA y m + d - 1) := by
  have hb := dby_bd y hy
  intro n
  induction n with
  | zero =>
    intro s j h1 h2 h3
    refine evSucc ?_
    simp only [impl_dayOf.l1, daysIn_eq y _ (show 0 ≤ y by omega), Option.bind_some]
    refine evNeg (by omega) ?_
    have : j = m := by omega
    subst this
    exact evSome (by omega)
  | succ n ih =>
    intro s j h1 h2 h3
    have hc := cum_bd y j
    have hd2 := dim_bd y j
    have hs := cum_succ y j (by omega)
    refine evSucc ?_
    simp only [impl_dayOf.l1, daysIn_eq y _ (show 0 ≤ y by omega), Option.bind_some]
    refine evPos (by omega) ?_
    exact ih _ _ (by rw [wrapId (by omega)]; omega) (by rw [wrapId (by omega)]; omega) (by rw [wrapId (by omega), wrapId (by omega), hs]; omega)
theorem implDay_ev (y m d : Int) (hy : 2000 ≤ y ∧ y ≤ 2100) (hm : 1 ≤ m ∧ m ≤ 13) (hd : -1 ≤ d ∧ d ≤ 400) : Ev (fun k => impl_dayOf.f k y m d) (dbyA y + cumA y m + d - 1) := by
  have main : ∀ (n : Nat) (s j : Int), j + n = y → 2000 ≤ j → s = d - 1 + dbyA j → Ev (fun k => impl_dayOf.l0 k s j y m d) (dbyA y + cumA y m + d - 1) := by
    intro n
    induction n with
    | zero =>
      intro s j h1 h2 h3
      refine evSucc ?_
      simp only [impl_dayOf.l0, daysOf_eq j (show 0 ≤ j by omega), Option.bind_some]
      refine evNeg (by omega) ?_
      have : j = y := by omega
      subst this
      exact implDay_l1 j m d hy hm hd (m - 1).toNat _ 1 (by omega) (by omega) (by rw [cum_1]; omega)
    | succ n ih =>
      intro s j h1 h2 h3
      have hb := dby_bd j (by omega)
      have hl := yl_eq j
      have hl2 := leap_bd j
      have hs := dby_succ j
      refine evSucc ?_
      simp only [impl_dayOf.l0, daysOf_eq j (show 0 ≤ j by omega), Option.bind_some]
      refine evPos (by omega) ?_
      exact ih _ _ (by rw [wrapId (by omega)]; omega) (by rw [wrapId (by omega)]; omega) (by rw [wrapId (by omega), wrapId (by omega), hs]; omega)
  simp only [impl_dayOf.f]
  exact main (y - 2000).toNat _ 2000 (by omega) (by omega) (by rw [wrapId (by omega)]; unfold dbyA; omega)

def minI (a b : Int) : Int := if b < a then b else a
theorem l1Least_eq (a b : Int) : spec_l1Least.f a b = some (minI a b) := by
  unfold spec_l1Least.f minI
  repeat (first | rfl | (congr 1; omega) | omega | split)
theorem minI_bd (a b : Int) : (minI a b = a ∨ minI a b = b) ∧ minI a b ≤ a ∧ minI a b ≤ b := by unfold minI; split <;> omega

/-- The day some months after a date; false if there is none. -/
def addD (y m d n : Int) : Int × Bool :=
  if 0 ≤ 12 * (y - 2000) + m - 1 + n ∧ 12 * (y - 2000) + m - 1 + n ≤ 1199 then
    (dbyA (2000 + (12 * (y - 2000) + m - 1 + n) / 12) + cumA (2000 + (12 * (y - 2000) + m - 1 + n) / 12) (1 + (12 * (y - 2000) + m - 1 + n) % 12) + minI d (dimA (2000 + (12 * (y - 2000) + m - 1 + n) / 12) (1 + (12 * (y - 2000) + m - 1 + n) % 12)) - 1, true)
  else (0, false)
theorem specMonths_ev {day y m d : Int} (n : Int) (hd : isDate day y m d) (he : Ev (fun k => spec_l3Date.f k day) (y, m, d)) (hn : -4800 ≤ n ∧ n ≤ 4800) : Ev (fun k => spec_l3Months.f k day n) (addD y m d n) := by
  obtain ⟨h1, h2, h3, h4⟩ := hd
  have hdm := dim_bd y m
  simp only [spec_l3Months.f]
  refine evBind he ?_
  have w : wrap64 (wrap64 (wrap64 (wrap64 (12 * y) + m) - 1) + n) = 12 * y + m - 1 + n := by
    rw [wrapId (x := 12 * y) (by omega), wrapId (x := 12 * y + m) (by omega), wrapId (x := 12 * y + m - 1) (by omega), wrapId (by omega)]
  simp only [w]
  rw [Int.tdiv_eq_ediv_of_nonneg (by omega), Int.tmod_eq_emod_of_nonneg (by omega)]
  have w2 : wrap64 ((12 * y + m - 1 + n) / 12) = (12 * y + m - 1 + n) / 12 := wrapId (by omega)
  have w3 : wrap64 ((12 * y + m - 1 + n) % 12 + 1) = (12 * y + m - 1 + n) % 12 + 1 := wrapId (by omega)
  simp only [w2, w3, l1In_eq, Option.bind_some, decide_eq_true_eq]
  unfold addD
  have e1 : 2000 + (12 * (y - 2000) + m - 1 + n) / 12 = (12 * y + m - 1 + n) / 12 := by omega
  have e2 : 1 + (12 * (y - 2000) + m - 1 + n) % 12 = (12 * y + m - 1 + n) % 12 + 1 := by omega
  rw [e1, e2]
  have hb : 1 ≤ (12 * y + m - 1 + n) % 12 + 1 ∧ (12 * y + m - 1 + n) % 12 + 1 ≤ 12 := by omega
  have hc : (0 ≤ 12 * (y - 2000) + m - 1 + n ∧ 12 * (y - 2000) + m - 1 + n ≤ 1199) ↔ (2000 ≤ (12 * y + m - 1 + n) / 12 ∧ (12 * y + m - 1 + n) / 12 ≤ 2099) := by omega
  generalize (12 * y + m - 1 + n) / 12 = Y at *
  generalize (12 * y + m - 1 + n) % 12 + 1 = M at *
  refine evIte (fun c => ?_) (fun c => ?_)
  · rw [if_pos (hc.mpr c)]
    refine evBind (l3Length_ev Y M (by omega)) ?_
    refine evBindS (l1Least_eq d (dimA Y M)) ?_
    have hm := minI_bd d (dimA Y M)
    have hq := dim_bd Y M
    exact evBind (specDay_ev Y M (minI d (dimA Y M)) (by omega) (by omega) (by omega)) (evSome rfl)
  · rw [if_neg (fun g => c (hc.mp g))]; exact evSome rfl
theorem implMonths_j0 {day y m d : Int} (n : Int) (hd : isDate day y m d) (he : Ev (fun k => impl_dateOf.f k day) (y, m, d)) (hn : -1200 ≤ n ∧ n ≤ 1200) : Ev (fun k => impl_AddMonths.j0 k day n false) (addD y m d n) := by
  obtain ⟨h1, h2, h3, h4⟩ := hd
  have hdm := dim_bd y m
  refine evSucc ?_
  simp only [impl_AddMonths.j0]
  refine evNeg Bool.false_ne_true ?_
  refine evBind he ?_
  have w : wrap64 (wrap64 (wrap64 (wrap64 (12 * wrap64 (y - 2000)) + m) - 1) + n) = 12 * (y - 2000) + m - 1 + n := by
    rw [wrapId (x := y - 2000) (by omega), wrapId (x := 12 * (y - 2000)) (by omega), wrapId (x := 12 * (y - 2000) + m) (by omega), wrapId (x := 12 * (y - 2000) + m - 1) (by omega), wrapId (by omega)]
  simp only [w, within_eq, Option.bind_some, decide_eq_true_eq]
  unfold addD
  refine evIte (fun c => ?_) (fun c => ?_)
  · rw [if_pos c]
    rw [Int.tdiv_eq_ediv_of_nonneg c.1, Int.tmod_eq_emod_of_nonneg c.1]
    have w2 : wrap64 (2000 + wrap64 ((12 * (y - 2000) + m - 1 + n) / 12)) = 2000 + (12 * (y - 2000) + m - 1 + n) / 12 := by
      rw [wrapId (x := (12 * (y - 2000) + m - 1 + n) / 12) (by omega), wrapId (by omega)]
    have w3 : wrap64 (1 + (12 * (y - 2000) + m - 1 + n) % 12) = 1 + (12 * (y - 2000) + m - 1 + n) % 12 := wrapId (by omega)
    simp only [w2, w3]
    have hb : 1 ≤ 1 + (12 * (y - 2000) + m - 1 + n) % 12 ∧ 1 + (12 * (y - 2000) + m - 1 + n) % 12 ≤ 12 := by omega
    have hY : 2000 ≤ 2000 + (12 * (y - 2000) + m - 1 + n) / 12 ∧ 2000 + (12 * (y - 2000) + m - 1 + n) / 12 ≤ 2099 := by omega
    generalize 2000 + (12 * (y - 2000) + m - 1 + n) / 12 = Y at *
    generalize 1 + (12 * (y - 2000) + m - 1 + n) % 12 = M at *
    refine evBindS (daysIn_eq Y M (by omega)) ?_
    have hm := minI_bd d (dimA Y M)
    have hq := dim_bd Y M
    have hmn : mn d (dimA Y M) = minI d (dimA Y M) := rfl
    rw [hmn]
    exact evBind (implDay_ev Y M (minI d (dimA Y M)) (by omega) (by omega) (by omega)) (evSome rfl)
  · rw [if_neg c]; exact evSome rfl
/-- Both tell the same day, whatever the arguments. -/
theorem addMonths_ev (day n : Int) : ∃ R, Ev (fun k => impl_AddMonths.f k day n) R ∧ Ev (fun k => spec_AddMonths.f k day n) R ∧ (¬ (0 ≤ day ∧ day ≤ 36524) → R = (0, false)) ∧ (¬ (-1200 ≤ n ∧ n ≤ 1200) → R = (0, false)) ∧ (0 ≤ day ∧ day ≤ 36524 → -1200 ≤ n ∧ n ≤ 1200 → ∃ y m d, isDate day y m d ∧ R = addD y m d n) := by
  simp only [impl_AddMonths.f, spec_AddMonths.f, isDay_eq, l3Good_eq, within_eq, l1In_eq, Option.bind_some, decide_eq_true_eq]
  by_cases c1 : 0 ≤ day ∧ day ≤ 36524
  · by_cases c2 : -1200 ≤ n ∧ n ≤ 1200
    · obtain ⟨y, m, d, h1, h2, h3⟩ := date_ev day c1
      refine ⟨addD y m d n, ?_, ?_, fun g => absurd c1 g, fun g => absurd c2 g, fun _ _ => ⟨y, m, d, h1, rfl⟩⟩
      · refine evPos c1 ?_
        rw [decide_eq_true c2]
        exact implMonths_j0 n h1 h2 c2
      · refine evPos c1 ?_
        refine evPos c2 ?_
        exact evBind (specMonths_ev n h1 h3 (by omega)) (Ev.now _)
    · refine ⟨(0, false), ?_, ?_, fun _ => rfl, fun _ => rfl, fun _ g => absurd g c2⟩
      · refine evPos c1 ?_
        rw [decide_eq_false c2]
        refine evSucc ?_
        simp only [impl_AddMonths.j0]
        exact evPos (by trivial) (Ev.now _)
      · exact evPos c1 (evNeg c2 (Ev.now _))
  · refine ⟨(0, false), ?_, ?_, fun _ => rfl, fun _ => rfl, fun g => absurd g c1⟩
    · refine evNeg c1 ?_
      refine evSucc ?_
      simp only [impl_AddMonths.j0]
      exact evPos (by trivial) (Ev.now _)
    · exact evNeg c1 (Ev.now _)

noncomputable def addR (day n : Int) : Int × Bool := Classical.choose (addMonths_ev day n)
theorem implAdd_ev (day n : Int) : Ev (fun k => impl_AddMonths.f k day n) (addR day n) := (Classical.choose_spec (addMonths_ev day n)).1
theorem specAdd_ev (day n : Int) : Ev (fun k => spec_AddMonths.f k day n) (addR day n) := (Classical.choose_spec (addMonths_ev day n)).2.1
/-- The shifted schedule, and whether all its days are there. -/
noncomputable def shiftF (n : Int) : List S60 → List S60 → List S60 × Bool
  | [], out => if goodP out = true then (out, true) else ([], false)
  | a :: t, out => if (addR a.f0 n).2 = true then (if (addR a.f1 n).2 = true then (if (addR a.f2 n).2 = true then shiftF n t (out ++ [⟨(addR a.f0 n).1, (addR a.f1 n).1, (addR a.f2 n).1⟩]) else ([], false)) else ([], false)) else ([], false)
noncomputable def shiftA (xs : List S60) (n : Int) : List S60 × Bool := if goodP xs = true ∧ (-1200 ≤ n ∧ n ≤ 1200) then shiftF n xs [] else ([], false)
theorem specShift_l0 (xs : List S60) (hn : xs.length ≤ 1048576) (n : Int) : ∀ (rest pre out : List S60) (i : Int), xs = pre ++ rest → i = pre.length → out.length = pre.length → Ev (fun k => spec_ShiftSchedule.l0 k xs n out i) (shiftF n rest out) := by
  intro rest
  induction rest with
  | nil =>
    intro pre out i h hi ho
    have hl := len_nil h
    refine evSucc ?_
    simp only [spec_ShiftSchedule.l0]
    refine evNeg (by omega) ?_
    refine evBind (specGoodP_ev out (by omega)) ?_
    unfold shiftF
    refine evIte (fun c => ?_) (fun c => ?_)
    · rw [if_pos c]; exact evSome rfl
    · rw [if_neg c]; exact evSome rfl
  | cons a t ih =>
    intro pre out i h hi ho
    have hl := len_cons h
    refine evSucc ?_
    simp only [spec_ShiftSchedule.l0, rd_T60_at h hi]
    refine evPos (by omega) ?_
    refine evPos (by omega) ?_
    refine evBind (specAdd_ev a.f0 n) ?_
    refine evBind (specAdd_ev a.f1 n) ?_
    refine evBind (specAdd_ev a.f2 n) ?_
    unfold shiftF
    refine evIte (fun c => ?_) (fun c => by rw [if_neg c]; exact Ev.now _)
    rw [if_pos c]
    refine evIte (fun c => ?_) (fun c => by rw [if_neg c]; exact Ev.now _)
    rw [if_pos c]
    refine evIte (fun c => ?_) (fun c => by rw [if_neg c]; exact Ev.now _)
    rw [if_pos c]
    refine evPos (by omega) ?_
    exact ih (pre ++ [a]) _ _ (snoc h) (by rw [wrapId (by omega), len_snoc]; omega) (by simp [ho])
theorem implShift_l0 (xs : List S60) (hn : xs.length ≤ 1048576) (n : Int) : ∀ (rest pre out : List S60) (i : Int), xs = pre ++ rest → i = pre.length → out.length = pre.length → Ev (fun k => impl_ShiftSchedule.l0 k n out xs (xs.length : Int) i) (shiftF n rest out) := by
  intro rest
  induction rest with
  | nil =>
    intro pre out i h hi ho
    have hl := len_nil h
    refine evSucc ?_
    simp only [impl_ShiftSchedule.l0]
    refine evNeg (by omega) ?_
    refine evBind (implValidP_ev out (by omega)) ?_
    unfold shiftF
    refine evIte (fun c => ?_) (fun c => ?_)
    · rw [if_pos c]; exact evSome rfl
    · rw [if_neg c]; exact evSome rfl
  | cons a t ih =>
    intro pre out i h hi ho
    have hl := len_cons h
    refine evSucc ?_
    simp only [impl_ShiftSchedule.l0, rd_T60_at h hi]
    refine evPos (by omega) ?_
    refine evPos (by omega) ?_
    refine evPos (by omega) ?_
    refine evBind (implAdd_ev a.f0 n) ?_
    refine evBind (implAdd_ev a.f1 n) ?_
    refine evBind (implAdd_ev a.f2 n) ?_
    unfold shiftF
    refine evIte (fun c => ?_) (fun c => by rw [if_neg c]; exact Ev.now _)
    rw [if_pos c]
    refine evIte (fun c => ?_) (fun c => by rw [if_neg c]; exact Ev.now _)
    rw [if_pos c]
    refine evIte (fun c => ?_) (fun c => by rw [if_neg c]; exact Ev.now _)
    rw [if_pos c]
    refine evPos (by omega) ?_
    exact ih (pre ++ [a]) _ _ (snoc h) (by rw [wrapId (by omega), len_snoc]; omega) (by simp [ho])
theorem specShift_ev (xs : List S60) (n : Int) (hn : xs.length ≤ 1048576) : Ev (fun k => spec_ShiftSchedule.f k xs n) (shiftA xs n) := by
  simp only [spec_ShiftSchedule.f, l1In_eq, Option.bind_some]
  refine evBind (specGoodP_ev xs hn) ?_
  have no : ¬ (goodP xs = true ∧ (-1200 ≤ n ∧ n ≤ 1200)) → Ev (fun k => spec_ShiftSchedule.j0 k xs n [] true) (shiftA xs n) := by
    intro h
    refine evSucc ?_
    simp only [spec_ShiftSchedule.j0]
    exact evPos (by trivial) (evSome (by unfold shiftA; rw [if_neg h]))
  refine evIte (fun c1 => ?_) (fun c1 => no (fun g => c1 g.1))
  by_cases c2 : -1200 ≤ n ∧ n ≤ 1200
  · rw [decide_eq_true c2]
    refine evSucc ?_
    simp only [spec_ShiftSchedule.j0]
    refine evNeg (by simp) ?_
    unfold shiftA
    rw [if_pos ⟨c1, c2⟩]
    exact specShift_l0 xs hn n xs [] [] 0 rfl rfl rfl
  · rw [decide_eq_false c2]
    exact no (fun g => c2 g.2)
theorem implShift_ev (xs : List S60) (n : Int) (hn : xs.length ≤ 1048576) : Ev (fun k => impl_ShiftSchedule.f k xs n) (shiftA xs n) := by
  simp only [impl_ShiftSchedule.f, within_eq, Option.bind_some]
  refine evBind (implValidP_ev xs hn) ?_
  have no : ¬ (goodP xs = true ∧ (-1200 ≤ n ∧ n ≤ 1200)) → Ev (fun k => impl_ShiftSchedule.j0 k xs n true) (shiftA xs n) := by
    intro h
    refine evSucc ?_
    simp only [impl_ShiftSchedule.j0]
    exact evPos (by trivial) (evSome (by unfold shiftA; rw [if_neg h]))
  refine evIte (fun c1 => ?_) (fun c1 => no (fun g => c1 g.1))
  by_cases c2 : -1200 ≤ n ∧ n ≤ 1200
  · rw [decide_eq_true c2]
    refine evSucc ?_
    simp only [impl_ShiftSchedule.j0]
    refine evNeg (by simp) ?_
    unfold shiftA
    rw [if_pos ⟨c1, c2⟩]
    exact implShift_l0 xs hn n xs [] [] 0 rfl rfl rfl
  · rw [decide_eq_false c2]
    exact no (fun g => c2 g.2)
theorem shiftF_length (n : Int) : ∀ (xs out : List S60), (shiftF n xs out).1.length ≤ out.length + xs.length
  | [], out => by unfold shiftF; split <;> simp
  | a :: t, out => by
    have h := shiftF_length n t (out ++ [⟨(addR a.f0 n).1, (addR a.f1 n).1, (addR a.f2 n).1⟩])
    rw [List.length_append, List.length_singleton] at h
    unfold shiftF
    rw [List.length_cons]
    by_cases c1 : (addR a.f0 n).2 = true
    · rw [if_pos c1]
      by_cases c2 : (addR a.f1 n).2 = true
      · rw [if_pos c2]
        by_cases c3 : (addR a.f2 n).2 = true
        · rw [if_pos c3]; omega
        · rw [if_neg c3]; exact Nat.zero_le _
      · rw [if_neg c2]; exact Nat.zero_le _
    · rw [if_neg c1]; exact Nat.zero_le _
theorem shiftA_length (xs : List S60) (n : Int) : (shiftA xs n).1.length ≤ 40 := by
  unfold shiftA
  by_cases h : goodP xs = true ∧ (-1200 ≤ n ∧ n ≤ 1200)
  · rw [if_pos h]
    have h1 := h.1
    unfold goodP at h1
    rw [Bool.and_eq_true] at h1
    have h2 := of_decide_eq_true h1.2
    have := shiftF_length n xs []
    simp at this
    omega
  · rw [if_neg h]; simp

theorem FnExactShiftSchedule (l0 : List S74) (a1 : Int) (ok : l0.length ≤ 9223372036854775807 ∧ ∀ y ∈ l0, (KReads.InI y.f0 ∧ KReads.InI y.f1 ∧ KReads.InI y.f2)) (h1 : -9223372036854775808 ≤ a1 ∧ a1 ≤ 9223372036854775807) : ∃ k, laws_FnExactShiftSchedule.f k l0 a1 = some true := by
  refine Ev.rounds ?_
  simp only [laws_FnExactShiftSchedule.f, szPeriodS_eq l0 ok.1, Option.bind_some]
  by_cases c : l0.length ≤ 1048576
  · rw [if_pos c]
    have hm : (l0.map cv_Period).length ≤ 1048576 := by simpa using c
    have e0 := toPeriodS_ev l0 c
    have e1 := specShift_ev (l0.map cv_Period) a1 hm
    have e2 := implShift_ev (l0.map cv_Period) a1 hm
    have e3 := eqPeriodS_ev (l0.map cv_Period) (by omega)
    have e4 := markPeriodS_ev (l0.map cv_Period) 1 (by omega) (by omega) (by omega)
    have hx := shiftA_length (l0.map cv_Period) a1
    have e5 := eqPeriodS_ev (shiftA (l0.map cv_Period) a1).1 (by omega)
    have e6 := markPeriodS_ev (shiftA (l0.map cv_Period) a1).1 1 (by omega) (by omega) (by omega)
    have e7 := heldPeriodS_ev (shiftA (l0.map cv_Period) a1).1.length 1 (by omega) (by omega) (by omega)
    repeat (first
      | dsimp only
      | exact Ev.now _
      | (refine evBind (by with_reducible assumption) ?_)
      | (refine evBindS (by with_reducible assumption) ?_)
      | (refine evPos (by with_reducible rfl) ?_)
      | (refine evPos True.intro ?_)
      | (refine evNeg not_false ?_)
      | (refine evNeg (by rw [bne_self_eq_false]; exact Bool.false_ne_true) ?_)
      | (refine evNeg Bool.false_ne_true ?_)
      | (refine evPos (by omega) ?_)
      | (refine evNeg (by omega) ?_)
      | (refine evSucc ?_; simp only [laws_FnExactShiftSchedule.j0, laws_FnExactShiftSchedule.j1, laws_FnExactShiftSchedule.j2]))
  · rw [if_neg c]
    exact evPos (by omega) (Ev.now true)
end Go.Proofs.Ytlmdghcpcohamaa.Pure
