/- The law FnExactMakeSchedule over the printed functions: for all arguments of Go's kinds there is a number of rounds at which it answers true. No other condition. -/
import Derived.Test.YtlmdghcpcohamaaVFnExactMakeSchedulex0
import Derived.Test.YtlmdghcpcohamaaVFnExactMakeSchedulex1
import Derived.Test.YtlmdghcpcohamaaVFnExactMakeSchedulex2
import Derived.Test.YtlmdghcpcohamaaVFnExactMakeSchedulex3
import Derived.Test.YtlmdghcpcohamaaVFnExactMakeSchedulex4
import Derived.Test.YtlmdghcpcohamaaVFnExactMakeSchedulex5
import Derived.Test.YtlmdghcpcohamaaVFnExactMakeSchedulex6
import Derived.Test.YtlmdghcpcohamaaVFnExactMakeSchedulex7
import Derived.Test.YtlmdghcpcohamaaVFnExactMakeSchedulex8
import Derived.Test.YtlmdghcpcohamaaVFnExactMakeSchedulex9
import Derived.Test.YtlmdghcpcohamaaVFnExactMakeSchedulex10
import Derived.Test.YtlmdghcpcohamaaVFnExactMakeSchedulex11
import Derived.Test.YtlmdghcpcohamaaVFnExactMakeSchedulex12
import Derived.Test.YtlmdghcpcohamaaVFnExactMakeSchedulex13
import Derived.Test.YtlmdghcpcohamaaVFnExactMakeScheduleEvKit
import Derived.Test.YtlmdghcpcohamaaVFnExactMakeScheduleKReads
namespace Go.Proofs.Ytlmdghcpcohamaa.Pure
open Go.RowKit Go.Proofs.YtlmdghcpcohamaaW.PrintWords Go.Proofs.YtlmdghcpcohamaaW.PrintLast Go.Proofs.YtlmdghcpcohamaaW.PrintMore Go.Proofs.Ytlmdghcpcohamaa.PFnExactMakeSchedule Go.Proofs.Ytlmdghcpcohamaa.EvKit
set_option linter.unusedVariables false
set_option linter.unusedSimpArgs false

theorem toIntS_l0 (xs : List Int) (hn : xs.length ≤ 1048576) : ∀ (rest pre : List Int) (cur : List Int) (i : Int), xs = pre ++ rest → i = pre.length → (∃ tl : List Int, tl.length = rest.length ∧ cur = pre ++ tl) →
    Ev (fun k => laws_toIntS.l0 k xs cur i) xs := by
  intro rest
  induction rest with
  | nil =>
    intro pre cur i h hi hc
    obtain ⟨tl, ht, rfl⟩ := hc
    have hl := len_nil h
    refine evSucc ?_
    simp only [laws_toIntS.l0]
    refine evNeg (by omega) ?_
    refine evSome ?_
    have : tl = [] := List.length_eq_zero_iff.mp ht
    subst this
    rw [h]
  | cons a t ih =>
    intro pre cur i h hi hc
    obtain ⟨tl, ht, hcur⟩ := hc
    have hl := len_cons h
    obtain ⟨b, tl, rfl⟩ : ∃ b tl', tl = b :: tl' := by
      cases tl with
      | nil => simp at ht
      | cons b tl => exact ⟨b, tl, rfl⟩
    have hcl := len_cons hcur
    refine evSucc ?_
    simp only [laws_toIntS.l0]
    refine evPos (by omega) ?_
    refine evPos (by omega) ?_
    simp only [rd_at h hi]
    refine evPos (by omega) ?_
    refine ih (pre ++ [a]) _ _ (snoc h) ?_ ⟨tl, by simpa using ht, ?_⟩
    · rw [wrapId (by omega), len_snoc]; omega
    · rw [set_at hcur hi]; simp
theorem toIntS_ev (xs : List Int) (hn : xs.length ≤ 1048576) : Ev (fun k => laws_toIntS.f k xs) xs := by
  simp only [laws_toIntS.f]
  refine evPos (by omega) ?_
  refine evPos (by omega) ?_
  exact toIntS_l0 xs hn xs [] _ 0 rfl rfl ⟨List.replicate xs.length 0, by simp, by simp⟩


theorem eqIntS_l0 (xs : List Int) (hn : xs.length ≤ 9223372036854775806) : ∀ (rest pre : List Int) (i : Int), xs = pre ++ rest → i = pre.length → Ev (fun k => laws_eqIntS.l0 k xs xs i) true := by
  intro rest
  induction rest with
  | nil =>
    intro pre i h hi
    have hl := len_nil h
    refine evSucc ?_
    simp only [laws_eqIntS.l0]
    refine evNeg (by omega) ?_
    exact evSome rfl
  | cons a t ih =>
    intro pre i h hi
    have hl := len_cons h
    refine evSucc ?_
    simp only [laws_eqIntS.l0]
    refine evPos (by omega) ?_
    refine evPos (by omega) ?_
    refine evPos (by omega) ?_
    refine evPos (by trivial) ?_
    exact ih (pre ++ [a]) _ (snoc h) (by rw [wrapId (by omega), len_snoc]; omega)
theorem eqIntS_ev (xs : List Int) (hn : xs.length ≤ 9223372036854775806) : Ev (fun k => laws_eqIntS.f k xs xs) true := by
  simp only [laws_eqIntS.f]
  exact evPos (by trivial) (eqIntS_l0 xs hn xs [] 0 rfl rfl)


def upFrom : Nat → Int → List Int
  | 0, _ => []
  | n + 1, m => m :: upFrom n (m + 1)
theorem upFrom_length : ∀ (n : Nat) (m : Int), (upFrom n m).length = n
  | 0, _ => rfl
  | n + 1, m => by simp [upFrom, upFrom_length n]
theorem markIntS_l0 : ∀ (rest pre : List Int) (xs : List Int) (m i : Int), xs = pre ++ rest → i = pre.length → 0 ≤ m → m + rest.length ≤ 9223372036854775807 → pre.length + rest.length ≤ 9223372036854775806 →
    Ev (fun k => laws_markIntS.l0 k xs m i) (m + rest.length, pre ++ upFrom rest.length m) := by
  intro rest
  induction rest with
  | nil =>
    intro pre xs m i h hi h0 h1 h2
    have hl := len_nil h
    refine evSucc ?_
    simp only [laws_markIntS.l0]
    refine evNeg (by omega) ?_
    exact evSome (by simp [h, upFrom])
  | cons a t ih =>
    intro pre xs m i h hi h0 h1 h2
    have hl := len_cons h
    simp only [List.length_cons] at h1 h2
    refine evSucc ?_
    simp only [laws_markIntS.l0]
    refine evPos (by omega) ?_
    refine evPos (by omega) ?_
    refine evEq (ih (pre ++ [m]) _ (wrap64 (m + 1)) _ ?_ ?_ ?_ ?_ ?_) ?_
    · rw [set_at h hi]; simp
    · rw [wrapId (by omega), len_snoc]; omega
    · rw [wrapId (by omega)]; omega
    · rw [wrapId (by omega)]; omega
    · simp; omega
    · rw [wrapId (by omega)]; simp [upFrom]; omega
theorem markIntS_ev (xs : List Int) (m : Int) (h0 : 0 ≤ m) (h1 : m + xs.length ≤ 9223372036854775807) (h2 : xs.length ≤ 9223372036854775806) : Ev (fun k => laws_markIntS.f k xs m) (m + xs.length, upFrom xs.length m) := by
  simp only [laws_markIntS.f]
  exact evEq (markIntS_l0 xs [] xs m 0 rfl rfl h0 h1 (by simpa using h2)) (by simp)


theorem rd_T60_at {xs pre t : List S60} {a : S60} (h : xs = pre ++ a :: t) {i : Int} (hi : i = pre.length) : rd_T60 xs i = a := getD_at h hi


theorem eqPeriodS_l0 (xs : List S60) (hn : xs.length ≤ 9223372036854775806) : ∀ (rest pre : List S60) (i : Int), xs = pre ++ rest → i = pre.length → Ev (fun k => laws_eqPeriodS.l0 k xs xs i) true := by
  intro rest
  induction rest with
  | nil =>
    intro pre i h hi
    have hl := len_nil h
    refine evSucc ?_
    simp only [laws_eqPeriodS.l0]
    refine evNeg (by omega) ?_
    exact evSome rfl
  | cons a t ih =>
    intro pre i h hi
    have hl := len_cons h
    refine evSucc ?_
    simp only [laws_eqPeriodS.l0]
    refine evPos (by omega) ?_
    refine evPos (by omega) ?_
    refine evPos (by omega) ?_
    refine evBindS (a := true) (by simp [laws_eqPeriod.f]) ?_
    refine evPos (by trivial) ?_
    exact ih (pre ++ [a]) _ (snoc h) (by rw [wrapId (by omega), len_snoc]; omega)
theorem eqPeriodS_ev (xs : List S60) (hn : xs.length ≤ 9223372036854775806) : Ev (fun k => laws_eqPeriodS.f k xs xs) true := by
  simp only [laws_eqPeriodS.f]
  exact evPos (by trivial) (eqPeriodS_l0 xs hn xs [] 0 rfl rfl)


def upS_Period : Nat → Int → List S60
  | 0, _ => []
  | c + 1, m => ⟨m, m + 1, m + 2⟩ :: upS_Period c (m + 3)
theorem upS_Period_length : ∀ (c : Nat) (m : Int), (upS_Period c m).length = c
  | 0, _ => rfl
  | c + 1, m => by simp [upS_Period, upS_Period_length c]
theorem markPeriodS_l0 : ∀ (rest pre : List S60) (xs : List S60) (m i : Int), xs = pre ++ rest → i = pre.length → 0 ≤ m → m + 3 * rest.length ≤ 9223372036854775807 → pre.length + rest.length ≤ 9223372036854775806 →
    Ev (fun k => laws_markPeriodS.l0 k xs m i) (m + 3 * rest.length, pre ++ upS_Period rest.length m) := by
  intro rest
  induction rest with
  | nil =>
    intro pre xs m i h hi h0 h1 h2
    have hl := len_nil h
    refine evSucc ?_
    simp only [laws_markPeriodS.l0]
    refine evNeg (by omega) ?_
    exact evSome (by simp [h, upS_Period])
  | cons a t ih =>
    intro pre xs m i h hi h0 h1 h2
    have hl := len_cons h
    subst h
    simp only [List.length_cons] at h1 h2
    have hrd : ∀ b : S60, rd_T60 (pre ++ b :: t) i = b := fun b => rd_T60_at rfl hi
    have hset : ∀ b c : S60, (pre ++ b :: t).set i.toNat c = pre ++ c :: t := fun b c => set_at rfl hi
    have w1 : wrap64 (m + 1) = m + 1 := (wrapId (by omega)).trans (by omega)
    have w2 : wrap64 (m + 1 + 1) = m + 2 := (wrapId (by omega)).trans (by omega)
    have w3 : wrap64 (m + 2 + 1) = m + 3 := (wrapId (by omega)).trans (by omega)
    refine evSucc ?_
    simp only [laws_markPeriodS.l0, Option.bind_some, hrd, hset, w1, w2, w3]
    refine evPos (by omega) ?_
    refine evPos (by omega) ?_
    refine evEq (ih (pre ++ [⟨m, m + 1, m + 2⟩]) _ (m + 3) _ (by simp) ?_ ?_ ?_ ?_) ?_
    · rw [wrapId (by omega), len_snoc]; omega
    · omega
    · omega
    · simp; omega
    · simp [upS_Period]; omega
theorem markPeriodS_ev (xs : List S60) (m : Int) (h0 : 0 ≤ m) (h1 : m + 3 * xs.length ≤ 9223372036854775807) (h2 : xs.length ≤ 9223372036854775806) : Ev (fun k => laws_markPeriodS.f k xs m) (m + 3 * xs.length, upS_Period xs.length m) := by
  simp only [laws_markPeriodS.f]
  exact evEq (markPeriodS_l0 xs [] xs m 0 rfl rfl h0 h1 (by simpa using h2)) (by simp)


theorem heldPeriodS_l0 : ∀ (n : Nat) (pre : List S60) (xs : List S60) (m i : Int), xs = pre ++ upS_Period n m → i = pre.length → 0 ≤ m → m + 3 * n ≤ 9223372036854775807 → pre.length + n ≤ 9223372036854775806 →
    Ev (fun k => laws_heldPeriodS.l0 k xs m i) (m + 3 * n) := by
  intro n
  induction n with
  | zero =>
    intro pre xs m i h hi h0 h1 h2
    have hl := len_nil h
    refine evSucc ?_
    simp only [laws_heldPeriodS.l0]
    refine evNeg (by omega) ?_
    exact evSome (by simp)
  | succ n ih =>
    intro pre xs m i h hi h0 h1 h2
    have h' : xs = pre ++ ⟨m, m + 1, m + 2⟩ :: upS_Period n (m + 3) := h
    have hl := len_cons h'
    rw [upS_Period_length] at hl
    have hrd := rd_T60_at h' hi
    have w1 : wrap64 (m + 1) = m + 1 := (wrapId (by omega)).trans (by omega)
    have w2 : wrap64 (m + 1 + 1) = m + 2 := (wrapId (by omega)).trans (by omega)
    have w3 : wrap64 (m + 2 + 1) = m + 3 := (wrapId (by omega)).trans (by omega)
    refine evSucc ?_
    simp only [laws_heldPeriodS.l0, hrd, w1, w2, w3]
    repeat (first | with_reducible refine evPos True.intro ?_ | with_reducible refine evPos (by omega) ?_)
    refine evEq (ih (pre ++ [⟨m, m + 1, m + 2⟩]) _ (m + 3) _ (snoc h') ?_ ?_ ?_ ?_) ?_
    · rw [wrapId (by omega), len_snoc]; omega
    · omega
    · omega
    · simp; omega
    · omega
theorem heldPeriodS_ev (n : Nat) (m : Int) (h0 : 0 ≤ m) (h1 : m + 3 * n ≤ 9223372036854775807) (h2 : n ≤ 9223372036854775806) : Ev (fun k => laws_heldPeriodS.f k (upS_Period n m) m) (m + 3 * n) := by
  simp only [laws_heldPeriodS.f]
  exact heldPeriodS_l0 n [] _ m 0 rfl rfl h0 h1 (by simpa using h2)

theorem within_eq (a b c : Int) : impl_within.f a b c = some (decide (b ≤ a ∧ a ≤ c)) := by
  unfold impl_within.f
  by_cases h : a ≥ b
  · rw [if_pos h]; exact congrArg some (decide_eq_decide.mpr ⟨fun g => ⟨h, g⟩, fun g => g.2⟩)
  · rw [if_neg h]; exact congrArg some (decide_eq_false (fun g => h g.1)).symm
theorem l1In_eq (a b c : Int) : spec_l1In.f a b c = some (decide (b ≤ a ∧ a ≤ c)) := by
  unfold spec_l1In.f
  by_cases h : a ≥ b
  · rw [if_pos h]; exact congrArg some (decide_eq_decide.mpr ⟨fun g => ⟨h, g⟩, fun g => g.2⟩)
  · rw [if_neg h]; exact congrArg some (decide_eq_false (fun g => h g.1)).symm

def joinI (p : Option Int) (x : Int) : Prop := ∀ q, p = some q → q < x
instance (p : Option Int) (x : Int) : Decidable (joinI p x) := by
  cases p with
  | none => exact isTrue (fun q h => by cases h)
  | some q =>
    by_cases h : q < x
    · exact isTrue (fun q' e => by cases e; exact h)
    · exact isFalse (fun g => h (g q rfl))
def chkI (lo hi : Int) : Option Int → List Int → Bool
  | _, [] => true
  | p, a :: t => decide (lo ≤ a ∧ a ≤ hi) && decide (joinI p a) && chkI lo hi (some a) t
def endI (pre : List Int) (p : Option Int) : Prop := (pre = [] ∧ p = none) ∨ ∃ q b, pre = q ++ [b] ∧ p = some b
theorem endI_snoc (pre : List Int) (a : Int) : endI (pre ++ [a]) (some a) := .inr ⟨pre, a, rfl, rfl⟩
theorem chkI_bad {lo hi : Int} {p : Option Int} {a : Int} {t : List Int} (h : ¬ ((lo ≤ a ∧ a ≤ hi) ∧ joinI p a)) : chkI lo hi p (a :: t) = false := by
  rw [chkI]
  by_cases h1 : lo ≤ a ∧ a ≤ hi
  · rw [decide_eq_false (fun g => h ⟨h1, g⟩)]; simp
  · rw [decide_eq_false h1]; simp
theorem chkI_step {lo hi : Int} {p : Option Int} {a : Int} (t : List Int) (h1 : lo ≤ a ∧ a ≤ hi) (h2 : joinI p a) : chkI lo hi p (a :: t) = chkI lo hi (some a) t := by
  rw [chkI, decide_eq_true h1, decide_eq_true h2]; simp

theorem implRising_l0 (lo hi most : Int) (xs : List Int) (hn : xs.length ≤ 1048576) : ∀ (rest pre : List Int) (i : Int) (p : Option Int), xs = pre ++ rest → i = pre.length → endI pre p → Ev (fun k => impl_isRising.l0 k xs lo hi most xs (xs.length : Int) i) (chkI lo hi p rest && decide ((xs.length : Int) ≤ most)) := by
  intro rest
  induction rest with
  | nil =>
    intro pre i p h hi' hp
    have hl := len_nil h
    refine evSucc ?_
    simp only [impl_isRising.l0]
    refine evNeg (by omega) ?_
    exact evSome (by rw [chkI, Bool.true_and])
  | cons a t ih =>
    intro pre i p h hi' hp
    have hl := len_cons h
    refine evSucc ?_
    simp only [impl_isRising.l0, within_eq, Option.bind_some, decide_eq_true_eq, rd_at h hi']
    refine evPos (by omega) ?_
    refine evPos (by omega) ?_
    refine evPos (by omega) ?_
    refine evIte (fun c1 => ?_) (fun c1 => evSome (by rw [chkI_bad (fun g => c1 g.1)]; rfl))
    have go : joinI p a → Ev (fun k => impl_isRising.l0 k xs lo hi most xs (xs.length : Int) (wrap64 (i + 1))) (chkI lo hi p (a :: t) && decide ((xs.length : Int) ≤ most)) := by
      intro hj
      rw [chkI_step t c1 hj]
      exact ih (pre ++ [a]) _ (some a) (snoc h) (by rw [wrapId (by omega), len_snoc]; omega) (endI_snoc pre a)
    rcases hp with ⟨rfl, rfl⟩ | ⟨q, b, rfl, rfl⟩
    · refine evNeg (by simp at hi'; omega) ?_
      exact go (fun q e => by cases e)
    · have hq : ((q ++ [b]).length : Int) = q.length + 1 := len_snoc q b
      have h' : xs = q ++ b :: (a :: t) := by rw [h]; simp
      rw [rd_at h' (i := wrap64 (i - 1)) (by rw [wrapId (by omega)]; omega)]
      refine evPos (by omega) ?_
      refine evPos (by rw [wrapId (by omega)]; omega) ?_
      refine evPos (by rw [wrapId (by omega)]; omega) ?_
      refine evIte (fun c5 => evSome ?_) (fun c5 => go (fun q' e => by cases e; omega))
      rw [chkI_bad (fun g => by have := g.2 _ rfl; omega)]; rfl
theorem implRising_ev (lo hi most : Int) (xs : List Int) (hn : xs.length ≤ 1048576) : Ev (fun k => impl_isRising.f k xs lo hi most) (chkI lo hi none xs && decide ((xs.length : Int) ≤ most)) := by
  simp only [impl_isRising.f]
  exact implRising_l0 lo hi most xs hn xs [] 0 none rfl rfl (.inl ⟨rfl, rfl⟩)

theorem specRising_l0 (lo hi : Int) (xs : List Int) (hn : xs.length ≤ 1048576) : ∀ (rest pre : List Int) (i : Int) (p : Option Int), xs = pre ++ rest → i = pre.length → endI pre p → Ev (fun k => spec_l1Rising.l0 k xs lo hi i) (chkI lo hi p rest) := by
  intro rest
  induction rest with
  | nil =>
    intro pre i p h hi' hp
    have hl := len_nil h
    refine evSucc ?_
    simp only [spec_l1Rising.l0]
    refine evNeg (by omega) ?_
    exact evSome rfl
  | cons a t ih =>
    intro pre i p h hi' hp
    have hl := len_cons h
    refine evSucc ?_
    simp only [spec_l1Rising.l0, l1In_eq, Option.bind_some, decide_eq_true_eq, rd_at h hi']
    refine evPos (by omega) ?_
    refine evPos (by omega) ?_
    refine evIte (fun c1 => ?_) (fun c1 => evSome (by rw [chkI_bad (fun g => c1 g.1)]))
    have go : joinI p a → Ev (fun k => spec_l1Rising.l0 k xs lo hi (wrap64 (i + 1))) (chkI lo hi p (a :: t)) := by
      intro hj
      rw [chkI_step t c1 hj]
      exact ih (pre ++ [a]) _ (some a) (snoc h) (by rw [wrapId (by omega), len_snoc]; omega) (endI_snoc pre a)
    rcases hp with ⟨rfl, rfl⟩ | ⟨q, b, rfl, rfl⟩
    · refine evNeg (by simp at hi'; omega) ?_
      exact go (fun q e => by cases e)
    · have hq : ((q ++ [b]).length : Int) = q.length + 1 := len_snoc q b
      have h' : xs = q ++ b :: (a :: t) := by rw [h]; simp
      rw [rd_at h' (i := wrap64 (i - 1)) (by rw [wrapId (by omega)]; omega)]
      refine evPos (by omega) ?_
      refine evPos (by rw [wrapId (by omega)]; omega) ?_
      refine evPos (by rw [wrapId (by omega)]; omega) ?_
      refine evIte (fun c5 => evSome ?_) (fun c5 => go (fun q' e => by cases e; omega))
      rw [chkI_bad (fun g => by have := g.2 _ rfl; omega)]
theorem specRising_ev (lo hi : Int) (xs : List Int) (hn : xs.length ≤ 1048576) : Ev (fun k => spec_l1Rising.f k xs lo hi) (chkI lo hi none xs) := by
  simp only [spec_l1Rising.f]
  exact specRising_l0 lo hi xs hn xs [] 0 none rfl rfl (.inl ⟨rfl, rfl⟩)

theorem isDay_eq (a : Int) : impl_isDay.f a = some (decide (0 ≤ a ∧ a ≤ 36524)) := by
  unfold impl_isDay.f; rw [within_eq]; rfl
theorem l3Good_eq (a : Int) : spec_l3Good.f a = some (decide (0 ≤ a ∧ a ≤ 36524)) := by
  unfold spec_l3Good.f; rw [l1In_eq]; rfl

def dimA (y m : Int) : Int := if m = 2 then (if y % 4 = 0 then 29 else 28) else if m = 4 then 30 else if m = 6 then 30 else if m = 9 then 30 else if m = 11 then 30 else 31
def ylA (y : Int) : Int := 337 + dimA y 2
def dbyA (y : Int) : Int := 365 * (y - 2000) + (y - 2000 + 3) / 4
def leapA (y : Int) : Int := if y % 4 = 0 then 1 else 0
def cumA (y m : Int) : Int :=
  if m ≤ 1 then 0 else if m = 2 then 31 else leapA y + (if m = 3 then 59 else if m = 4 then 90 else if m = 5 then 120 else if m = 6 then 151 else if m = 7 then 181 else if m = 8 then 212 else if m = 9 then 243 else if m = 10 then 273 else if m = 11 then 304 else if m = 12 then 334 else 365)
theorem dim_bd (y m : Int) : 28 ≤ dimA y m ∧ dimA y m ≤ 31 := by unfold dimA; repeat (first | omega | split)
theorem yl_eq (y : Int) : ylA y = 365 + leapA y := by unfold ylA dimA leapA; rw [if_pos rfl]; split <;> omega
theorem leap_bd (y : Int) : 0 ≤ leapA y ∧ leapA y ≤ 1 := by unfold leapA; split <;> omega
theorem dby_succ (y : Int) : dbyA (y + 1) = dbyA y + ylA y := by
  rw [yl_eq]; unfold dbyA leapA; split <;> omega
theorem dby_bd (y : Int) (h : 2000 ≤ y ∧ y ≤ 2100) : 0 ≤ dbyA y ∧ dbyA y ≤ 36525 := by unfold dbyA; omega
theorem cum_succ (y m : Int) (h : 1 ≤ m ∧ m ≤ 12) : cumA y (m + 1) = cumA y m + dimA y m := by
  have : m = 1 ∨ m = 2 ∨ m = 3 ∨ m = 4 ∨ m = 5 ∨ m = 6 ∨ m = 7 ∨ m = 8 ∨ m = 9 ∨ m = 10 ∨ m = 11 ∨ m = 12 := by omega
  rcases this with rfl | rfl | rfl | rfl | rfl | rfl | rfl | rfl | rfl | rfl | rfl | rfl <;> simp [cumA, dimA] <;> unfold leapA <;> split <;> rfl
theorem cum_bd (y m : Int) : 0 ≤ cumA y m ∧ cumA y m ≤ 366 := by
  have := leap_bd y
  unfold cumA; repeat (first | omega | split)
theorem cum_13 (y : Int) : cumA y 13 = ylA y := by rw [yl_eq]; simp [cumA]; omega
theorem cum_1 (y : Int) : cumA y 1 = 0 := rfl
theorem daysIn_eq (y m : Int) (hy : 0 ≤ y) : impl_daysIn.f y m = some (dimA y m) := by
  unfold impl_daysIn.f dimA
  rw [Int.tmod_eq_emod_of_nonneg hy]
  repeat (first | rfl | split)
theorem daysOf_eq (y : Int) (hy : 0 ≤ y) : impl_daysOf.f y = some (ylA y) := by
  unfold impl_daysOf.f
  rw [daysIn_eq y 2 hy]
  have := dim_bd y 2
  simp only [Option.bind_some]
  rw [wrapId (by omega)]; rfl
theorem l3Length_ev (y m : Int) (hy : 0 ≤ y) : Ev (fun k => spec_l3Length.f k y m) (dimA y m) := by
  have hm := Int.tmod_eq_emod_of_nonneg (b := 4) hy
  simp only [spec_l3Length.f]
  refine evIte (fun c => ?_) (fun c4 => ?_)
  · subst c; refine evSucc ?_; simp only [spec_l3Length.j0]; exact evPos (by decide) (evSome rfl)
  refine evIte (fun c => ?_) (fun c6 => ?_)
  · subst c; refine evSucc ?_; simp only [spec_l3Length.j0]; exact evPos (by decide) (evSome rfl)
  refine evIte (fun c => ?_) (fun c9 => ?_)
  · subst c; refine evSucc ?_; simp only [spec_l3Length.j0]; exact evPos (by decide) (evSome rfl)
  refine evSucc ?_
  simp only [spec_l3Length.j0, hm]
  by_cases c11 : m = 11
  · subst c11; exact evPos (by decide) (evSome rfl)
  · refine evNeg (by rw [beq_iff_eq]; exact c11) ?_
    unfold dimA
    refine evIte (fun c => ?_) (fun c => ?_)
    · rw [if_pos c]
      refine evIte (fun c => ?_) (fun c => ?_)
      · rw [if_pos c]; exact evSome rfl
      · rw [if_neg c]; exact evSome rfl
    · rw [if_neg c, if_neg c4, if_neg c6, if_neg c9, if_neg c11]; exact evSome rfl
theorem specDay_ev (y m d : Int) (hy : 2000 ≤ y ∧ y ≤ 2100) (hm : 1 ≤ m ∧ m ≤ 13) (hd : -1 ≤ d ∧ d ≤ 400) : Ev (fun k => spec_l3Day.f k y m d) (dbyA y + cumA y m + d - 1) := by
  have hb := dby_bd y hy
  have main : ∀ (n : Nat) (s j : Int), j + n = m → 1 ≤ j → s = dbyA y + cumA y j → Ev (fun k => spec_l3Day.l0 k s j y m d) (dbyA y + cumA y m + d - 1) := by
    intro n
    induction n with
    | zero =>
      intro s j h1 h2 h3
      have hc := cum_bd y j
      refine evSucc ?_
      simp only [spec_l3Day.l0]
      refine evNeg (by omega) ?_
      have : j = m := by omega
      subst this
      exact evSome (by rw [wrapId (x := s + d) (by omega), wrapId (by omega)]; omega)
    | succ n ih =>
      intro s j h1 h2 h3
      have hc := cum_bd y j
      have hd2 := dim_bd y j
      have hs := cum_succ y j (by omega)
      refine evSucc ?_
      simp only [spec_l3Day.l0]
      refine evPos (by omega) ?_
      refine evBind (l3Length_ev y j (by omega)) ?_
      exact ih _ _ (by rw [wrapId (by omega)]; omega) (by rw [wrapId (by omega)]; omega) (by rw [wrapId (by omega), wrapId (by omega), hs]; omega)
  simp only [spec_l3Day.f]
  refine main (m - 1).toNat _ 1 (by omega) (by omega) ?_
  rw [wrapId (x := y - 2000) (by omega), wrapId (x := 365 * (y - 2000)) (by omega), wrapId (x := y - 2000 + 3) (by omega), Int.tdiv_eq_ediv_of_nonneg (by omega), wrapId (x := (y - 2000 + 3) / 4) (by omega), wrapId (by omega), cum_1]
  unfold dbyA; omega
/-- The day has this date. -/
def isDate (day y m d : Int) : Prop := (2000 ≤ y ∧ y ≤ 2099) ∧ (1 ≤ m ∧ m ≤ 12) ∧ (1 ≤ d ∧ d ≤ dimA y m) ∧ day = dbyA y + cumA y m + d - 1
theorem cum_mono (y : Int) : ∀ (n : Nat) (m : Int), 1 ≤ m → m + n ≤ 13 → cumA y m + 28 * n ≤ cumA y (m + n) := by
  intro n
  induction n with
  | zero => intro m _ _; simp
  | succ n ih =>
    intro m h1 h2
    have := ih m h1 (by omega)
    have hs := cum_succ y (m + n) (by omega)
    have hd := dim_bd y (m + n)
    have e : m + ((n + 1 : Nat) : Int) = m + n + 1 := by omega
    rw [e, hs]; omega
theorem dby_mono : ∀ (n : Nat) (y : Int), dbyA y + 365 * n ≤ dbyA (y + n) := by
  intro n
  induction n with
  | zero => intro y; simp
  | succ n ih =>
    intro y
    have := ih y
    have hs := dby_succ (y + n)
    have hl := yl_eq (y + n)
    have hl2 := leap_bd (y + n)
    have e : y + ((n + 1 : Nat) : Int) = y + n + 1 := by omega
    rw [e, hs]; omega
theorem isDate_inYear {day y m d : Int} (h : isDate day y m d) : dbyA y ≤ day ∧ day < dbyA (y + 1) := by
  obtain ⟨h1, h2, h3, h4⟩ := h
  have hs := dby_succ y
  have hc := cum_bd y m
  have hs2 := cum_succ y m h2
  have hm := cum_mono y (12 - m).toNat (m + 1) (by omega) (by omega)
  have e : m + 1 + ((12 - m).toNat : Int) = 13 := by omega
  rw [e, cum_13] at hm
  omega
theorem isDate_unique {day y m d y' m' d' : Int} (h : isDate day y m d) (h' : isDate day y' m' d') : y = y' ∧ m = m' ∧ d = d' := by
  have a := isDate_inYear h
  have b := isDate_inYear h'
  have hy : y = y' := by
    rcases Int.lt_trichotomy y y' with c | c | c
    · have := dby_mono (y' - (y + 1)).toNat (y + 1)
      have e : y + 1 + ((y' - (y + 1)).toNat : Int) = y' := by omega
      rw [e] at this; omega
    · exact c
    · have := dby_mono (y - (y' + 1)).toNat (y' + 1)
      have e : y' + 1 + ((y - (y' + 1)).toNat : Int) = y := by omega
      rw [e] at this; omega
  subst hy
  obtain ⟨h1, h2, h3, h4⟩ := h
  obtain ⟨g1, g2, g3, g4⟩ := h'
  have hs := cum_succ y m h2
  have gs := cum_succ y m' g2
  have hm : m = m' := by
    rcases Int.lt_trichotomy m m' with c | c | c
    · have := cum_mono y (m' - (m + 1)).toNat (m + 1) (by omega) (by omega)
      have e : m + 1 + ((m' - (m + 1)).toNat : Int) = m' := by omega
      rw [e] at this; omega
    · exact c
    · have := cum_mono y (m - (m' + 1)).toNat (m' + 1) (by omega) (by omega)
      have e : m' + 1 + ((m - (m' + 1)).toNat : Int) = m := by omega
      rw [e] at this; omega
  subst hm
  exact ⟨rfl, rfl, by omega⟩
theorem implDate_ev (day : Int) (h : 0 ≤ day ∧ day ≤ 36524) : ∃ y m d, isDate day y m d ∧ Ev (fun k => impl_dateOf.f k day) (y, m, d) := by
  have inner : ∀ (n : Nat) (y m x : Int), (2000 ≤ y ∧ y ≤ 2099) → m + n = 13 → 1 ≤ m → day = dbyA y + cumA y m + x → 0 ≤ x → x + cumA y m < ylA y → ∃ m' d, isDate day y m' d ∧ Ev (fun k => impl_dateOf.l1 k x y m 0) (y, m', d) := by
    intro n
    induction n with
    | zero =>
      intro y m x hy h1 h2 h3 h4 h5
      have : m = 13 := by omega
      subst this
      rw [cum_13] at h5; omega
    | succ n ih =>
      intro y m x hy h1 h2 h3 h4 h5
      have hs := cum_succ y m (by omega)
      have hd := dim_bd y m
      have hl := yl_eq y
      have hl2 := leap_bd y
      have hcb := cum_bd y m
      by_cases c : x ≥ dimA y m
      · obtain ⟨m', d, hd', he⟩ := ih y (m + 1) (x - dimA y m) hy (by omega) (by omega) (by rw [hs]; omega) (by omega) (by rw [hs]; omega)
        refine ⟨m', d, hd', ?_⟩
        refine evSucc ?_
        simp only [impl_dateOf.l1, daysIn_eq y m (show 0 ≤ y by omega), Option.bind_some]
        refine evPos c ?_
        rw [wrapId (x := x - dimA y m) (by omega), wrapId (x := m + 1) (by omega)]
        exact he
      · refine ⟨m, x + 1, ⟨hy, by omega, by omega, by omega⟩, ?_⟩
        refine evSucc ?_
        simp only [impl_dateOf.l1, daysIn_eq y m (show 0 ≤ y by omega), Option.bind_some]
        refine evNeg c ?_
        rw [wrapId (x := x + 1) (by omega)]
        exact evSome rfl
  have outer : ∀ (n : Nat) (y x : Int), 2000 ≤ y → y + n = 2100 → day = dbyA y + x → 0 ≤ x → ∃ y' m d, isDate day y' m d ∧ Ev (fun k => impl_dateOf.l0 k x y 1 0) (y', m, d) := by
    intro n
    induction n with
    | zero =>
      intro y x h1 h2 h3 h4
      have : y = 2100 := by omega
      subst this
      have e : dbyA 2100 = 36525 := by decide
      omega
    | succ n ih =>
      intro y x h1 h2 h3 h4
      have hs := dby_succ y
      have hl := yl_eq y
      have hl2 := leap_bd y
      have hb := dby_bd y (by omega)
      by_cases c : x ≥ ylA y
      · obtain ⟨y', m, d, hd', he⟩ := ih (y + 1) (x - ylA y) (by omega) (by omega) (by rw [hs]; omega) (by omega)
        refine ⟨y', m, d, hd', ?_⟩
        refine evSucc ?_
        simp only [impl_dateOf.l0, daysOf_eq y (show 0 ≤ y by omega), Option.bind_some]
        refine evPos c ?_
        rw [wrapId (x := x - ylA y) (by omega), wrapId (x := y + 1) (by omega)]
        exact he
      · obtain ⟨m, d, hd', he⟩ := inner 12 y 1 x (by omega) (by omega) (by omega) (by rw [cum_1]; omega) h4 (by rw [cum_1]; omega)
        refine ⟨y, m, d, hd', ?_⟩
        refine evSucc ?_
        simp only [impl_dateOf.l0, daysOf_eq y (show 0 ≤ y by omega), Option.bind_some]
        exact evNeg c he
  obtain ⟨y, m, d, h1, h2⟩ := outer 100 2000 day (by omega) (by omega) (by unfold dbyA; omega) h.1
  exact ⟨y, m, d, h1, by simp only [impl_dateOf.f]; exact h2⟩
theorem specDate_ev (day : Int) (h : 0 ≤ day ∧ day ≤ 36524) : ∃ y m d, isDate day y m d ∧ Ev (fun k => spec_l3Date.f k day) (y, m, d) := by
  have inner : ∀ (n : Nat) (y m : Int), (2000 ≤ y ∧ y ≤ 2099) → m + n = 12 → 1 ≤ m → dbyA y + cumA y m ≤ day → day < dbyA y + ylA y → ∃ m' d, isDate day y m' d ∧ Ev (fun k => spec_l3Date.l1 k day y m 1) (y, m', d) := by
    intro n
    have last : ∀ y m : Int, (2000 ≤ y ∧ y ≤ 2099) → (1 ≤ m ∧ m ≤ 12) → dbyA y + cumA y m ≤ day → day < dbyA y + cumA y (m + 1) → isDate day y m (day - (dbyA y + cumA y m) + 1) := by
      intro y m hy hm h3 h4
      have hs := cum_succ y m hm
      exact ⟨hy, hm, by omega, by omega⟩
    induction n with
    | zero =>
      intro y m hy h1 h2 h3 h4
      have : m = 12 := by omega
      subst this
      refine ⟨12, _, last y 12 hy (by omega) h3 (by rw [show (12 : Int) + 1 = 13 from rfl, cum_13]; exact h4), ?_⟩
      refine evSucc ?_
      simp only [spec_l3Date.l1]
      refine evNeg (by omega) ?_
      have hb := dby_bd y (by omega)
      have hc := cum_bd y 12
      refine evBind (specDay_ev y 12 1 (by omega) (by omega) (by omega)) (evSome ?_)
      rw [show dbyA y + cumA y 12 + 1 - 1 = dbyA y + cumA y 12 by omega, wrapId (x := day - (dbyA y + cumA y 12)) (by omega), wrapId (by omega)]
    | succ n ih =>
      intro y m hy h1 h2 h3 h4
      have hb := dby_bd y (by omega)
      have hc := cum_bd y m
      have hc1 := cum_bd y (m + 1)
      have g1 := specDay_ev y (m + 1) 1 (by omega) (by omega) (by omega)
      by_cases c : dbyA y + cumA y (m + 1) + 1 - 1 ≤ day
      · obtain ⟨m', d, hd', he⟩ := ih y (m + 1) hy (by omega) (by omega) (by omega) h4
        refine ⟨m', d, hd', ?_⟩
        refine evSucc ?_
        simp only [spec_l3Date.l1, wrapId (x := m + 1) (by omega)]
        refine evPos (by omega) ?_
        refine evBind g1 ?_
        exact evPos c he
      · refine ⟨m, _, last y m hy (by omega) h3 (by omega), ?_⟩
        refine evSucc ?_
        simp only [spec_l3Date.l1, wrapId (x := m + 1) (by omega)]
        refine evPos (by omega) ?_
        refine evBind g1 ?_
        refine evNeg c ?_
        refine evBind (specDay_ev y m 1 (by omega) (by omega) (by omega)) (evSome ?_)
        rw [show dbyA y + cumA y m + 1 - 1 = dbyA y + cumA y m by omega, wrapId (x := day - (dbyA y + cumA y m)) (by omega), wrapId (by omega)]
  have fin : ∀ y : Int, (2000 ≤ y ∧ y ≤ 2099) → dbyA y ≤ day → day < dbyA y + ylA y → ∃ m d, isDate day y m d ∧ Ev (fun k => spec_l3Date.j1 k day y 1 1) (y, m, d) := by
    intro y hy h1 h2
    obtain ⟨m, d, hd, he⟩ := inner 11 y 1 hy (by omega) (by omega) (by rw [cum_1]; omega) h2
    refine ⟨m, d, hd, ?_⟩
    refine evSucc ?_
    simp only [spec_l3Date.j1]
    exact he
  have outer : ∀ (n : Nat) (y : Int), 2000 ≤ y → y + n = 2099 → dbyA y ≤ day → ∃ y' m d, isDate day y' m d ∧ Ev (fun k => spec_l3Date.l0 k day y 1 1) (y', m, d) := by
    intro n
    induction n with
    | zero =>
      intro y h1 h2 h3
      have : y = 2099 := by omega
      subst this
      have e : dbyA 2099 + ylA 2099 = 36525 := by decide
      obtain ⟨m, d, hd, he⟩ := fin 2099 (by omega) h3 (by omega)
      refine ⟨2099, m, d, hd, ?_⟩
      refine evSucc ?_
      simp only [spec_l3Date.l0]
      exact evNeg (by omega) he
    | succ n ih =>
      intro y h1 h2 h3
      have hs := dby_succ y
      have g1 := specDay_ev (y + 1) 1 1 (by omega) (by omega) (by omega)
      rw [cum_1] at g1
      by_cases c : dbyA (y + 1) + 0 + 1 - 1 ≤ day
      · obtain ⟨y', m, d, hd', he⟩ := ih (y + 1) (by omega) (by omega) (by omega)
        refine ⟨y', m, d, hd', ?_⟩
        refine evSucc ?_
        simp only [spec_l3Date.l0, wrapId (x := y + 1) (by omega)]
        refine evPos (by omega) ?_
        refine evBind g1 ?_
        exact evPos c he
      · obtain ⟨m, d, hd, he⟩ := fin y (by omega) h3 (by omega)
        refine ⟨y, m, d, hd, ?_⟩
        refine evSucc ?_
        simp only [spec_l3Date.l0, wrapId (x := y + 1) (by omega)]
        refine evPos (by omega) ?_
        refine evBind g1 ?_
        exact evNeg c he
  obtain ⟨y, m, d, h1, h2⟩ := outer 99 2000 (by omega) (by omega) (by unfold dbyA; omega)
  exact ⟨y, m, d, h1, by simp only [spec_l3Date.f]; exact h2⟩
/-- Both tell the same date. -/
theorem date_ev (day : Int) (h : 0 ≤ day ∧ day ≤ 36524) : ∃ y m d, isDate day y m d ∧ Ev (fun k => impl_dateOf.f k day) (y, m, d) ∧ Ev (fun k => spec_l3Date.f k day) (y, m, d) := by
  obtain ⟨y, m, d, h1, h2⟩ := implDate_ev day h
  obtain ⟨y', m', d', h3, h4⟩ := specDate_ev day h
  obtain ⟨rfl, rfl, rfl⟩ := isDate_unique h1 h3
  exact ⟨y, m, d, h1, h2, h4⟩

def goodCal (W H : List Int) : Bool := (chkI 0 6 none W && decide ((W.length : Int) ≤ 6)) && (chkI 0 36524 none H && decide ((H.length : Int) ≤ 40))
theorem validCal_ev (W H : List Int) (hw : W.length ≤ 1048576) (hh : H.length ≤ 1048576) : Ev (fun k => impl_IsValidCalendar.f k W H) (goodCal W H) := by
  simp only [impl_IsValidCalendar.f]
  refine evBind (implRising_ev 0 6 6 W hw) ?_
  unfold goodCal
  refine evIte (fun c => ?_) (fun c => ?_)
  · rw [c, Bool.true_and]
    exact evBind (implRising_ev 0 36524 40 H hh) (Ev.now _)
  · have c' := Bool.eq_false_iff.mpr c
    rw [c']; exact Ev.now _
theorem goodCal_ev (W H : List Int) (hw : W.length ≤ 1048576) (hh : H.length ≤ 1048576) : Ev (fun k => spec_l4Good.f k W H) (goodCal W H) := by
  simp only [spec_l4Good.f]
  unfold goodCal
  refine evIte (fun c => ?_) (fun c => evSome (by simp [c]))
  refine evBind (specRising_ev 0 6 W hw) ?_
  refine evIte (fun c1 => ?_) (fun c1 => evSome (by simp [Bool.eq_false_iff.mpr c1]))
  refine evIte (fun c2 => ?_) (fun c2 => evSome (by simp [c2]))
  exact evBind (specRising_ev 0 36524 H hh) (evSome (by simp [c, c1, c2]))
theorem specHas_ev (v : Int) (xs : List Int) (hn : xs.length ≤ 1048576) : Ev (fun k => spec_l1Has.f k xs v) (decide (v ∈ xs)) := by
  have main : ∀ (rest pre : List Int) (i : Int), xs = pre ++ rest → i = pre.length → Ev (fun k => spec_l1Has.l0 k xs v i) (decide (v ∈ rest)) := by
    intro rest
    induction rest with
    | nil =>
      intro pre i h hi
      have hl := len_nil h
      refine evSucc ?_
      simp only [spec_l1Has.l0]
      refine evNeg (by omega) ?_
      exact evSome (by simp)
    | cons a t ih =>
      intro pre i h hi
      have hl := len_cons h
      refine evSucc ?_
      simp only [spec_l1Has.l0, rd_at h hi]
      refine evPos (by omega) ?_
      refine evPos (by omega) ?_
      refine evIte (fun c => evSome (by simp [c])) (fun c => ?_)
      refine evEq (ih (pre ++ [a]) _ (snoc h) (by rw [wrapId (by omega), len_snoc]; omega)) ?_
      have : v ≠ a := fun e => c e.symm
      simp [this]
  simp only [spec_l1Has.f]
  exact main xs [] 0 rfl rfl
theorem contains_ev (v : Int) (xs : List Int) (hn : xs.length ≤ 1048576) : Ev (fun k => slices_Contains_int_int.f k xs v) (decide (v ∈ xs)) := by
  have main : ∀ (rest pre : List Int) (i : Int), xs = pre ++ rest → i = pre.length → ∃ r : Int, Ev (fun k => slices_Index_int_int.l0 k xs v (xs.length : Int) i) r ∧ decide (r ≥ 0) = decide (v ∈ rest) := by
    intro rest
    induction rest with
    | nil =>
      intro pre i h hi
      have hl := len_nil h
      refine ⟨-1, evSucc ?_, by simp⟩
      simp only [slices_Index_int_int.l0]
      refine evNeg (by omega) ?_
      exact evSome rfl
    | cons a t ih =>
      intro pre i h hi
      have hl := len_cons h
      by_cases c : v = a
      · refine ⟨i, evSucc ?_, by simp [c]; omega⟩
        simp only [slices_Index_int_int.l0, rd_at h hi]
        refine evPos (by omega) ?_
        refine evPos (by omega) ?_
        refine evPos (by omega) ?_
        exact evPos c (Ev.now _)
      · obtain ⟨r, h1, h2⟩ := ih (pre ++ [a]) (wrap64 (i + 1)) (snoc h) (by rw [wrapId (by omega), len_snoc]; omega)
        refine ⟨r, evSucc ?_, by rw [h2]; simp [c]⟩
        simp only [slices_Index_int_int.l0, rd_at h hi]
        refine evPos (by omega) ?_
        refine evPos (by omega) ?_
        refine evPos (by omega) ?_
        exact evNeg c h1
  obtain ⟨r, h1, h2⟩ := main xs [] 0 rfl rfl
  simp only [slices_Contains_int_int.f, slices_Index_int_int.f]
  exact evBind h1 (evSome h2)
def openA (W H : List Int) (d : Int) : Bool := if decide (Int.tmod (wrap64 (d + 5)) 7 ∈ W) = true then false else !(decide (d ∈ H))
theorem open_ev (W H : List Int) (d : Int) (hw : W.length ≤ 1048576) (hh : H.length ≤ 1048576) : Ev (fun k => spec_l4Open.f k W H d) (openA W H d) := by
  simp only [spec_l4Open.f, spec_l3Weekday.f, Option.bind_some]
  refine evBind (specHas_ev _ W hw) ?_
  unfold openA
  refine evIte (fun c => by rw [if_pos c]; exact Ev.now _) (fun c => ?_)
  rw [if_neg c]
  exact evBind (specHas_ev d H hh) (Ev.now _)
theorem business_ev (W H : List Int) (d : Int) (hw : W.length ≤ 1048576) (hh : H.length ≤ 1048576) : Ev (fun k => impl_isBusiness.f k W H d) (openA W H d) := by
  simp only [impl_isBusiness.f, impl_weekday.f, Option.bind_some]
  refine evBind (contains_ev _ W hw) ?_
  unfold openA
  refine evIte (fun c => by rw [if_pos c]; exact Ev.now _) (fun c => ?_)
  rw [if_neg c]
  exact evBind (contains_ev d H hh) (Ev.now _)
theorem seek_ev (W H : List Int) (d st : Int) (hw : W.length ≤ 1048576) (hh : H.length ≤ 1048576) (hs : st = 1 ∨ st = -1) (hd : -1 ≤ d ∧ d ≤ 36525) : ∃ r : Int, Ev (fun k => spec_l4Seek.f k W H d st) r ∧ Ev (fun k => impl_nearBusiness.f k W H d st) r ∧ (r = -1 ∨ (0 ≤ r ∧ r ≤ 36524)) := by
  have main : ∀ (n : Nat) (d : Int), (-1 ≤ d ∧ d ≤ 36525) → (st = 1 → (36525 - d).toNat ≤ n) → (st = -1 → (d + 1).toNat ≤ n) → ∃ r : Int, Ev (fun k => spec_l4Seek.l0 k d st W H) r ∧ Ev (fun k => impl_nearBusiness.l0 k d st W H) r ∧ (r = -1 ∨ (0 ≤ r ∧ r ≤ 36524)) := by
    intro n
    induction n with
    | zero =>
      intro d hd h1 h2
      have hb : ¬ (0 ≤ d ∧ d ≤ 36524) := by rcases hs with e | e <;> (first | (have := h1 e; omega) | (have := h2 e; omega))
      refine ⟨-1, evSucc ?_, evSucc ?_, .inl rfl⟩
      · simp only [spec_l4Seek.l0, l3Good_eq, Option.bind_some, decide_eq_true_eq]; exact evNeg hb (Ev.now _)
      · simp only [impl_nearBusiness.l0, isDay_eq, Option.bind_some, decide_eq_true_eq]; exact evNeg hb (Ev.now _)
    | succ n ih =>
      intro d hd h1 h2
      by_cases hb : 0 ≤ d ∧ d ≤ 36524
      · by_cases c : openA W H d = true
        · refine ⟨d, evSucc ?_, evSucc ?_, .inr hb⟩
          · simp only [spec_l4Seek.l0, l3Good_eq, Option.bind_some, decide_eq_true_eq]
            exact evPos hb (evBind (open_ev W H d hw hh) (evPos c (Ev.now _)))
          · simp only [impl_nearBusiness.l0, isDay_eq, Option.bind_some, decide_eq_true_eq]
            exact evPos hb (evBind (business_ev W H d hw hh) (evPos c (Ev.now _)))
        · have hs' : wrap64 (d + st) = d + st := wrapId (by omega)
          obtain ⟨r, g1, g2, g3⟩ := ih (d + st) (by omega) (fun e => by have := h1 e; omega) (fun e => by have := h2 e; omega)
          refine ⟨r, evSucc ?_, evSucc ?_, g3⟩
          · simp only [spec_l4Seek.l0, l3Good_eq, Option.bind_some, decide_eq_true_eq]
            refine evPos hb (evBind (open_ev W H d hw hh) (evNeg c ?_))
            rw [hs']; exact g1
          · simp only [impl_nearBusiness.l0, isDay_eq, Option.bind_some, decide_eq_true_eq]
            refine evPos hb (evBind (business_ev W H d hw hh) (evNeg c ?_))
            rw [hs']; exact g2
      · refine ⟨-1, evSucc ?_, evSucc ?_, .inl rfl⟩
        · simp only [spec_l4Seek.l0, l3Good_eq, Option.bind_some, decide_eq_true_eq]; exact evNeg hb (Ev.now _)
        · simp only [impl_nearBusiness.l0, isDay_eq, Option.bind_some, decide_eq_true_eq]; exact evNeg hb (Ev.now _)
  simp only [spec_l4Seek.f, impl_nearBusiness.f]
  exact main 36526 d hd (fun _ => by omega) (fun _ => by omega)
theorem sameMonth_ev (a b : Int) (ha : 0 ≤ a ∧ a ≤ 36524) (hb : 0 ≤ b ∧ b ≤ 36524) : ∃ r : Bool, Ev (fun k => spec_l4SameMonth.f k a b) r ∧ Ev (fun k => impl_sameMonth.f k b a) r := by
  obtain ⟨y1, m1, d1, i1, e1⟩ := specDate_ev a ha
  obtain ⟨y2, m2, d2, i2, e2⟩ := specDate_ev b hb
  obtain ⟨y3, m3, d3, i3, e3⟩ := implDate_ev a ha
  obtain ⟨y4, m4, d4, i4, e4⟩ := implDate_ev b hb
  obtain ⟨rfl, rfl, rfl⟩ := isDate_unique i1 i3
  obtain ⟨rfl, rfl, rfl⟩ := isDate_unique i2 i4
  simp only [spec_l4SameMonth.f, impl_sameMonth.f]
  by_cases c : y1 = y2
  · refine ⟨m1 == m2, evBind e1 (evBind e2 (evPos c (Ev.now _))), evBind e4 (evBind e3 (evPos c.symm (evSome ?_)))⟩
    exact Bool.beq_comm
  · exact ⟨false, evBind e1 (evBind e2 (evNeg c (Ev.now _))), evBind e4 (evBind e3 (evNeg (fun e => c e.symm) (Ev.now _)))⟩
theorem roll_ev (W H : List Int) (d cv : Int) (hw : W.length ≤ 1048576) (hh : H.length ≤ 1048576) (hd : 0 ≤ d ∧ d ≤ 36524) : ∃ r : Int, Ev (fun k => spec_l4Roll.f k W H d cv) r ∧ Ev (fun k => impl_rollDay.f k W H d cv) r ∧ (r = -1 ∨ (0 ≤ r ∧ r ≤ 36524)) := by
  obtain ⟨n, a1, a2, a3⟩ := seek_ev W H d 1 hw hh (.inl rfl) (by omega)
  obtain ⟨p, b1, b2, b3⟩ := seek_ev W H d (-1) hw hh (.inr rfl) (by omega)
  simp only [spec_l4Roll.f, impl_rollDay.f]
  by_cases c1 : cv = 1
  · exact ⟨n, evBind a1 (evBind b1 (evPos c1 (Ev.now _))), evBind a2 (evBind b2 (evPos c1 (Ev.now _))), a3⟩
  by_cases c3 : cv = 3
  · exact ⟨p, evBind a1 (evBind b1 (evNeg c1 (evPos c3 (Ev.now _)))), evBind a2 (evBind b2 (evNeg c1 (evPos c3 (Ev.now _)))), b3⟩
  by_cases c2 : cv = 2
  · by_cases g : n ≥ 0
    · obtain ⟨s, s1, s2⟩ := sameMonth_ev d n hd (by omega)
      cases s with
      | true => exact ⟨n, evBind a1 (evBind b1 (evNeg c1 (evNeg c3 (evPos c2 (evPos g (evBind s1 (evSucc (Ev.now _)))))))), evBind a2 (evBind b2 (evNeg c1 (evNeg c3 (evPos c2 (evPos g (evBind s2 (evSucc (Ev.now _)))))))), a3⟩
      | false => exact ⟨p, evBind a1 (evBind b1 (evNeg c1 (evNeg c3 (evPos c2 (evPos g (evBind s1 (evSucc (Ev.now _)))))))), evBind a2 (evBind b2 (evNeg c1 (evNeg c3 (evPos c2 (evPos g (evBind s2 (evSucc (Ev.now _)))))))), b3⟩
    · exact ⟨p, evBind a1 (evBind b1 (evNeg c1 (evNeg c3 (evPos c2 (evNeg g (evSucc (Ev.now _))))))), evBind a2 (evBind b2 (evNeg c1 (evNeg c3 (evPos c2 (evNeg g (evSucc (Ev.now _))))))), b3⟩
  · by_cases g : p ≥ 0
    · obtain ⟨s, s1, s2⟩ := sameMonth_ev d p hd (by omega)
      cases s with
      | true => exact ⟨p, evBind a1 (evBind b1 (evNeg c1 (evNeg c3 (evNeg c2 (evPos g (evBind s1 (Ev.now _))))))), evBind a2 (evBind b2 (evNeg c1 (evNeg c3 (evNeg c2 (evPos g (evBind s2 (Ev.now _))))))), b3⟩
      | false => exact ⟨n, evBind a1 (evBind b1 (evNeg c1 (evNeg c3 (evNeg c2 (evPos g (evBind s1 (Ev.now _))))))), evBind a2 (evBind b2 (evNeg c1 (evNeg c3 (evNeg c2 (evPos g (evBind s2 (Ev.now _))))))), a3⟩
    · exact ⟨n, evBind a1 (evBind b1 (evNeg c1 (evNeg c3 (evNeg c2 (evNeg g (Ev.now _)))))), evBind a2 (evBind b2 (evNeg c1 (evNeg c3 (evNeg c2 (evNeg g (Ev.now _)))))), a3⟩
theorem rollDay_ev (W H : List Int) (d cv : Int) (hw : W.length ≤ 1048576) (hh : H.length ≤ 1048576) : ∃ r : Int × Bool, Ev (fun k => spec_RollDay.f k W H d cv) r ∧ Ev (fun k => impl_RollDay.f k W H d cv) r ∧ (goodCal W H = false → r.2 = false) ∧ (0 ≤ r.1 ∧ r.1 ≤ 36524) := by
  simp only [spec_RollDay.f, impl_RollDay.f, isDay_eq, l3Good_eq, within_eq, l1In_eq, Option.bind_some, decide_eq_true_eq]
  by_cases c : goodCal W H = true
  · by_cases hb : 0 ≤ d ∧ d ≤ 36524
    · by_cases cc : 1 ≤ cv ∧ cv ≤ 4
      · obtain ⟨r, r1, r2, r3⟩ := roll_ev W H d cv hw hh hb
        by_cases g : r < 0
        · have e : r = -1 := by omega
          refine ⟨(0, false), evBind (goodCal_ev W H hw hh) (evPos c (evPos hb (evSucc ?_))), evBind (validCal_ev W H hw hh) (evPos c (evPos hb (evPos cc ?_))), fun _ => rfl, by simp⟩
          · simp only [spec_RollDay.j0]
            refine evNeg (by simp [cc]) ?_
            exact evBind r1 (evPos g (Ev.now _))
          · exact evBind r2 (evSome (by subst e; rfl))
        · refine ⟨(r, true), evBind (goodCal_ev W H hw hh) (evPos c (evPos hb (evSucc ?_))), evBind (validCal_ev W H hw hh) (evPos c (evPos hb (evPos cc ?_))), fun (f : goodCal W H = false) => absurd (c.symm.trans f) (by decide), by dsimp only; omega⟩
          · simp only [spec_RollDay.j0]
            refine evNeg (by simp [cc]) ?_
            exact evBind r1 (evNeg g (Ev.now _))
          · refine evBind r2 (evSome ?_)
            have h1 : mx 0 r = r := by unfold mx; split <;> omega
            rw [h1, decide_eq_true (by omega)]
      · refine ⟨(0, false), evBind (goodCal_ev W H hw hh) (evPos c (evPos hb (evSucc ?_))), evBind (validCal_ev W H hw hh) (evPos c (evPos hb (evNeg cc (Ev.now _)))), fun _ => rfl, by simp⟩
        simp only [spec_RollDay.j0]
        exact evPos (by simp only [decide_eq_false cc, Bool.not_false]) (Ev.now _)
    · refine ⟨(0, false), evBind (goodCal_ev W H hw hh) (evPos c (evNeg hb (evSucc ?_))), evBind (validCal_ev W H hw hh) (evPos c (evNeg hb (Ev.now _))), fun _ => rfl, by simp⟩
      simp only [spec_RollDay.j0]
      first | exact evPos rfl (Ev.now _) | exact evPos True.intro (Ev.now _)
  · refine ⟨(0, false), evBind (goodCal_ev W H hw hh) (evNeg c (evSucc ?_)), evBind (validCal_ev W H hw hh) (evNeg c (Ev.now _)), fun _ => rfl, by simp⟩
    simp only [spec_RollDay.j0]
    first | exact evPos rfl (Ev.now _) | exact evPos True.intro (Ev.now _)
theorem addBus_ev (W H : List Int) (d n : Int) (hw : W.length ≤ 1048576) (hh : H.length ≤ 1048576) (hn : 0 ≤ n ∧ n ≤ 1000) : ∃ r : Int × Bool, Ev (fun k => spec_AddBusinessDays.f k W H d n) r ∧ Ev (fun k => impl_AddBusinessDays.f k W H d n) r := by
  have main : ∀ (m : Nat) (d i : Int), (0 ≤ d ∧ d ≤ 36524) → i + m = n → 0 ≤ i → ∃ r : Int × Bool, Ev (fun k => spec_AddBusinessDays.l0 k d m 1 W H) r ∧ Ev (fun k => impl_AddBusinessDays.l0 k d 1 n i W H) r := by
    intro m
    induction m with
    | zero =>
      intro d i hd h1 h2
      refine ⟨(d, true), evSucc ?_, evSucc ?_⟩
      · simp only [spec_AddBusinessDays.l0]; exact evNeg (by omega) (Ev.now _)
      · simp only [impl_AddBusinessDays.l0]; exact evNeg (by omega) (Ev.now _)
    | succ m ih =>
      intro d i hd h1 h2
      obtain ⟨s, s1, s2, s3⟩ := seek_ev W H (d + 1) 1 hw hh (.inl rfl) (by omega)
      have e1 : wrap64 (d + 1) = d + 1 := wrapId (by omega)
      have e2 : wrap64 (((m + 1 : Nat) : Int) - 1) = (m : Int) := by rw [wrapId (by omega)]; omega
      have e3 : wrap64 (i + 1) = i + 1 := wrapId (by omega)
      by_cases g : s < 0
      · refine ⟨(0, false), evSucc ?_, evSucc ?_⟩
        · simp only [spec_AddBusinessDays.l0, e1]; exact evPos (by omega) (evBind s1 (evPos g (Ev.now _)))
        · simp only [impl_AddBusinessDays.l0, e1]; exact evPos (by omega) (evBind s2 (evPos g (Ev.now _)))
      · obtain ⟨r, r1, r2⟩ := ih s (i + 1) (by omega) (by omega) (by omega)
        refine ⟨r, evSucc ?_, evSucc ?_⟩
        · simp only [spec_AddBusinessDays.l0, e1, e2]; exact evPos (by omega) (evBind s1 (evNeg g r1))
        · simp only [impl_AddBusinessDays.l0, e1, e3]; exact evPos (by omega) (evBind s2 (evNeg g r2))
  simp only [spec_AddBusinessDays.f, impl_AddBusinessDays.f, isDay_eq, l3Good_eq, within_eq, l1In_eq, Option.bind_some, decide_eq_true_eq]
  by_cases c : goodCal W H = true
  · by_cases hb : 0 ≤ d ∧ d ≤ 36524
    · obtain ⟨r, r1, r2⟩ := main n.toNat d 0 hb (by omega) (by omega)
      have en : (n.toNat : Int) = n := by omega
      rw [en] at r1
      have em : mx n (wrap64 (-n)) = n := by rw [wrapId (by omega)]; unfold mx; split <;> omega
      have hn' : -1000 ≤ n ∧ n ≤ 1000 := by omega
      refine ⟨r, evBind (goodCal_ev W H hw hh) (evPos c (evPos hb (evSucc ?_))), evBind (validCal_ev W H hw hh) (evPos c (evPos hb (evSucc ?_)))⟩
      · simp only [spec_AddBusinessDays.j0]
        refine evNeg (by simp [hn']) (evNeg (by omega) (evSucc ?_))
        simp only [spec_AddBusinessDays.j1]; exact r1
      · simp only [impl_AddBusinessDays.j0]
        refine evNeg (by simp [hn']) (evNeg (by omega) (evSucc ?_))
        simp only [impl_AddBusinessDays.j1, impl_size.f, Option.bind_some, em]; exact r2
    · refine ⟨(0, false), evBind (goodCal_ev W H hw hh) (evPos c (evNeg hb (evSucc ?_))), evBind (validCal_ev W H hw hh) (evPos c (evNeg hb (evSucc ?_)))⟩
      · simp only [spec_AddBusinessDays.j0]; first | exact evPos rfl (Ev.now _) | exact evPos True.intro (Ev.now _)
      · simp only [impl_AddBusinessDays.j0]; first | exact evPos rfl (Ev.now _) | exact evPos True.intro (Ev.now _)
  · refine ⟨(0, false), evBind (goodCal_ev W H hw hh) (evNeg c (evSucc ?_)), evBind (validCal_ev W H hw hh) (evNeg c (evSucc ?_))⟩
    · simp only [spec_AddBusinessDays.j0]; first | exact evPos rfl (Ev.now _) | exact evPos True.intro (Ev.now _)
    · simp only [impl_AddBusinessDays.j0]; first | exact evPos rfl (Ev.now _) | exact evPos True.intro (Ev.now _)

/-- One pay day. -/
theorem payDay_ev (W H : List Int) (hw : W.length ≤ 1048576) (hh : H.length ≤ 1048576) (d cv : Int) : ∃ r : Int × Bool, Ev (fun k => spec_RollDay.f k W H d cv) r ∧ Ev (fun k => impl_RollDay.f k W H d cv) r ∧ (goodCal W H = false → r.2 = false) := by
  obtain ⟨r, a, b, c, _⟩ := rollDay_ev W H d cv hw hh
  exact ⟨r, a, b, c⟩
theorem makeS_loop (W H : List Int) (hw : W.length ≤ 1048576) (hh : H.length ≤ 1048576) (cv dl : Int) (hd : 0 ≤ dl ∧ dl ≤ 20) (xs : List Int) (hn : xs.length ≤ 1048576) : ∀ (n : Nat) (i : Int) (out : List S60), i + n = xs.length → 1 ≤ i → (out.length : Int) = i - 1 → ∃ r : List S60 × Bool, Ev (fun k => spec_MakeSchedule.l0 k xs cv dl out i W H) r ∧ Ev (fun k => impl_MakeSchedule.l0 k xs cv dl out i W H) r ∧ (r.1.length ≤ 1048576) ∧ (1 ≤ n → goodCal W H = false → r = ([], false)) := by
  intro n
  induction n with
  | zero =>
    intro i out h1 h2 h3
    refine ⟨(out, true), evSucc ?_, evSucc ?_, by simp; omega, fun g => by omega⟩
    · simp only [spec_MakeSchedule.l0]; exact evNeg (by omega) (Ev.now _)
    · simp only [impl_MakeSchedule.l0]; exact evNeg (by omega) (Ev.now _)
  | succ n ih =>
    intro i out h1 h2 h3
    obtain ⟨q, q1, q2, q3⟩ := payDay_ev W H hw hh (rd xs i) cv
    have e1 : wrap64 (i - 1) = i - 1 := wrapId (by omega)
    have e2 : wrap64 (i + 1) = i + 1 := wrapId (by omega)
    by_cases c : q.2 = true
    · have good : goodCal W H = true := by
        cases g : goodCal W H with
        | true => rfl
        | false => have := q3 g; rw [c] at this; cases this
      by_cases g : dl > 0
      · obtain ⟨p, p1, p2⟩ := addBus_ev W H q.1 dl hw hh (by omega)
        by_cases c2 : p.2 = true
        · obtain ⟨r, r1, r2, r3, _⟩ := ih (i + 1) (out ++ [⟨rd xs (i - 1), rd xs i, p.1⟩]) (by omega) (by omega) (by simp; omega)
          refine ⟨r, evSucc ?_, evSucc ?_, r3, fun _ f => by rw [good] at f; cases f⟩
          · simp only [spec_MakeSchedule.l0]
            refine evPos (by omega) (evPos (by omega) (evBind q1 (evPos c (evSucc ?_))))
            simp only [spec_MakeSchedule.j2, e1, e2, decide_eq_true_eq]
            refine evPos g (evBind p1 (evPos c2 (evPos (by omega) (evPos (by omega) (evPos (by omega) (evPos (by omega) (evPos (by omega) r1)))))))
          · simp only [impl_MakeSchedule.l0]
            refine evPos (by omega) (evPos (by omega) (evBind q2 (evPos c (evSucc ?_))))
            simp only [impl_MakeSchedule.j2, e1, e2, decide_eq_true_eq]
            refine evPos g (evBind p2 (evPos c2 (evPos (by omega) (evPos (by omega) (evPos (by omega) (evPos (by omega) (evPos (by omega) r2)))))))
        · refine ⟨([], false), evSucc ?_, evSucc ?_, by simp, fun _ _ => rfl⟩
          · simp only [spec_MakeSchedule.l0]
            refine evPos (by omega) (evPos (by omega) (evBind q1 (evPos c (evSucc ?_))))
            simp only [spec_MakeSchedule.j2, decide_eq_true_eq]
            exact evPos g (evBind p1 (evNeg c2 (Ev.now _)))
          · simp only [impl_MakeSchedule.l0]
            refine evPos (by omega) (evPos (by omega) (evBind q2 (evPos c (evSucc ?_))))
            simp only [impl_MakeSchedule.j2, decide_eq_true_eq]
            exact evPos g (evBind p2 (evNeg c2 (Ev.now _)))
      · obtain ⟨r, r1, r2, r3, _⟩ := ih (i + 1) (out ++ [⟨rd xs (i - 1), rd xs i, q.1⟩]) (by omega) (by omega) (by simp; omega)
        refine ⟨r, evSucc ?_, evSucc ?_, r3, fun _ f => by rw [good] at f; cases f⟩
        · simp only [spec_MakeSchedule.l0]
          refine evPos (by omega) (evPos (by omega) (evBind q1 (evPos c (evSucc ?_))))
          simp only [spec_MakeSchedule.j2, e1, e2, decide_eq_true_eq]
          refine evNeg g (evPos c (evPos (by omega) (evPos (by omega) (evPos (by omega) (evPos (by omega) (evPos (by omega) r1))))))
        · simp only [impl_MakeSchedule.l0]
          refine evPos (by omega) (evPos (by omega) (evBind q2 (evPos c (evSucc ?_))))
          simp only [impl_MakeSchedule.j2, e1, e2, decide_eq_true_eq]
          refine evNeg g (evPos c (evPos (by omega) (evPos (by omega) (evPos (by omega) (evPos (by omega) (evPos (by omega) r2))))))
    · refine ⟨([], false), evSucc ?_, evSucc ?_, by simp, fun _ _ => rfl⟩
      · simp only [spec_MakeSchedule.l0]
        refine evPos (by omega) (evPos (by omega) (evBind q1 (evNeg c (evSucc ?_))))
        simp only [spec_MakeSchedule.j2]
        exact evNeg Bool.false_ne_true (evNeg c (Ev.now _))
      · simp only [impl_MakeSchedule.l0]
        refine evPos (by omega) (evPos (by omega) (evBind q2 (evNeg c (evSucc ?_))))
        simp only [impl_MakeSchedule.j2]
        exact evNeg Bool.false_ne_true (evNeg c (Ev.now _))
theorem makeS_ev (W H : List Int) (hw : W.length ≤ 1048576) (hh : H.length ≤ 1048576) (cv dl : Int) (xs : List Int) (hn : xs.length ≤ 1048576) : ∃ r : List S60 × Bool, Ev (fun k => spec_MakeSchedule.f k xs W H cv dl) r ∧ Ev (fun k => impl_MakeSchedule.f k xs W H cv dl) r ∧ (r.1.length ≤ 1048576) := by
  have sNo : Ev (fun k => spec_MakeSchedule.j0 k xs cv dl [] true W H) (([] : List S60), false) := by
    refine evSucc ?_
    simp only [spec_MakeSchedule.j0]
    first | exact evPos rfl (Ev.now _) | exact evPos True.intro (Ev.now _)
  have iNo : Ev (fun k => impl_MakeSchedule.j0 k xs cv dl true W H) (([] : List S60), false) := by
    refine evSucc ?_
    simp only [impl_MakeSchedule.j0]
    first | exact evPos rfl (Ev.now _) | exact evPos True.intro (Ev.now _)
  simp only [spec_MakeSchedule.f, impl_MakeSchedule.f, within_eq, l1In_eq, Option.bind_some, decide_eq_true_eq]
  by_cases c1 : 2 ≤ (xs.length : Int) ∧ (xs.length : Int) ≤ 41
  · by_cases c2 : chkI 0 36524 none xs = true
    · by_cases c3 : 0 ≤ dl ∧ dl ≤ 20
      · obtain ⟨r, r1, r2, r3, r4⟩ := makeS_loop W H hw hh cv dl c3 xs hn (xs.length - 1) 1 [] (by omega) (by omega) rfl
        have e3 : (!decide (0 ≤ dl ∧ dl ≤ 20)) = false := by rw [decide_eq_true c3]; rfl
        refine ⟨r, evPos c1 (evBind (specRising_ev 0 36524 xs hn) (evPos c2 (evSucc ?_))), ?_, r3⟩
        · simp only [spec_MakeSchedule.j0, e3]
          exact evNeg Bool.false_ne_true r1
        · refine evBind (validCal_ev W H hw hh) ?_
          refine evIte (fun c => ?_) (fun c => by rw [r4 (by omega) (Bool.eq_false_iff.mpr c)]; exact iNo)
          refine evNeg (by omega) (evBind (implRising_ev 0 36524 41 xs hn) (evPos (by rw [c2, decide_eq_true c1.2]; rfl) (evSucc ?_)))
          simp only [impl_MakeSchedule.j0, e3]
          exact evNeg Bool.false_ne_true r2
      · have e3 : (!decide (0 ≤ dl ∧ dl ≤ 20)) = true := by rw [decide_eq_false c3]; rfl
        refine ⟨([], false), evPos c1 (evBind (specRising_ev 0 36524 xs hn) (evPos c2 (by rw [e3]; exact sNo))), ?_, by simp⟩
        refine evBind (validCal_ev W H hw hh) (evIte (fun c => ?_) (fun c => iNo))
        refine evNeg (by omega) (evBind (implRising_ev 0 36524 41 xs hn) (evIte (fun _ => by rw [e3]; exact iNo) (fun _ => iNo)))
    · refine ⟨([], false), evPos c1 (evBind (specRising_ev 0 36524 xs hn) (evNeg c2 sNo)), ?_, by simp⟩
      refine evBind (validCal_ev W H hw hh) (evIte (fun c => ?_) (fun c => iNo))
      refine evNeg (by omega) (evBind (implRising_ev 0 36524 41 xs hn) (evNeg (by simp [c2]) iNo))
  · refine ⟨([], false), evNeg c1 sNo, ?_, by simp⟩
    refine evBind (validCal_ev W H hw hh) (evIte (fun c => ?_) (fun c => iNo))
    refine evIte (fun _ => iNo) (fun g => evBind (implRising_ev 0 36524 41 xs hn) (evNeg ?_ iNo))
    rw [Bool.and_eq_true, decide_eq_true_eq]; intro f; omega

theorem szCalendar_eq (W H : List Int) (hw : W.length ≤ 9223372036854775807) (hh : H.length ≤ 9223372036854775807) : laws_szCalendar.f W H 1048576 = some (if W.length ≤ 1048576 then (if H.length + W.length ≤ 1048576 then 1048576 - (W.length : Int) - H.length else -1) else -1) := by
  unfold laws_szCalendar.f laws_szIntS.f
  rw [wrapId (x := 1048576 - (W.length : Int)) (by omega)]
  by_cases c : (1048576 : Int) - W.length < 0
  · rw [if_pos c, if_neg (by omega)]; rfl
  · rw [if_neg c, if_pos (show W.length ≤ 1048576 by omega)]
    simp only [Option.bind_some]
    rw [if_neg c, wrapId (x := 1048576 - (W.length : Int) - (H.length : Int)) (by omega)]
    by_cases d : (1048576 : Int) - W.length - H.length < 0
    · rw [if_pos d, if_neg (show ¬ H.length + W.length ≤ 1048576 by omega)]; rfl
    · rw [if_neg d, if_pos (show H.length + W.length ≤ 1048576 by omega)]
      simp only [Option.bind_some]
      rw [if_neg d]
theorem FnExactMakeSchedule (l0 W H : List Int) (a2 a3 : Int) (ok0 : l0.length ≤ 9223372036854775807 ∧ ∀ y ∈ l0, KReads.InI y) (ok1 : (W.length ≤ 9223372036854775807 ∧ ∀ y ∈ W, KReads.InI y) ∧ (H.length ≤ 9223372036854775807 ∧ ∀ y ∈ H, KReads.InI y)) (h2 : -9223372036854775808 ≤ a2 ∧ a2 ≤ 9223372036854775807) (h3 : -9223372036854775808 ≤ a3 ∧ a3 ≤ 9223372036854775807) : ∃ k, laws_FnExactMakeSchedule.f k l0 W H a2 a3 = some true := by
  refine Ev.rounds ?_
  simp only [laws_FnExactMakeSchedule.f, szCalendar_eq W H ok1.1.1 ok1.2.1, Option.bind_some]
  refine evIte (fun _ => Ev.now true) (fun c0 => ?_)
  by_cases c : W.length ≤ 1048576
  · rw [if_pos c]
    by_cases d : H.length + W.length ≤ 1048576
    · rw [if_pos d]
      have hl : l0.length ≤ 1048576 := by omega
      have hh : H.length ≤ 1048576 := by omega
      obtain ⟨⟨out, b⟩, r1, r2, r3⟩ := makeS_ev W H c hh a2 a3 l0 hl
      dsimp only at r3
      have t0 := toIntS_ev l0 hl
      have tc : Ev (fun k => laws_toCalendar.f k W H) (W, H) := by
        simp only [laws_toCalendar.f]
        exact evBind (toIntS_ev W c) (evBind (toIntS_ev H hh) (Ev.now _))
      have q0 := eqIntS_ev l0 (by omega)
      have qc : Ev (fun k => laws_eqCalendar.f k W H W H) true := by
        simp only [laws_eqCalendar.f]
        exact evBind (eqIntS_ev W (by omega)) (evPos rfl (evBind (eqIntS_ev H (by omega)) (evPos rfl (Ev.now _))))
      have m0 := markIntS_ev l0 1 (by omega) (by omega) (by omega)
      have mc : Ev (fun k => laws_markCalendar.f k W H (1 + l0.length)) (1 + l0.length + W.length + H.length, upFrom W.length (1 + l0.length), upFrom H.length (1 + l0.length + W.length)) := by
        simp only [laws_markCalendar.f]
        exact evBind (markIntS_ev W (1 + l0.length) (by omega) (by omega) (by omega)) (evBind (markIntS_ev H (1 + l0.length + W.length) (by omega) (by omega) (by omega)) (Ev.now _))
      have e3 := eqPeriodS_ev out (by omega)
      have e4 := markPeriodS_ev out 1 (by omega) (by omega) (by omega)
      have e7 := heldPeriodS_ev out.length 1 (by omega) (by omega) (by omega)
      repeat (first
        | dsimp only
        | exact Ev.now _
        | (refine evBind (by with_reducible assumption) ?_)
        | (refine evBindS (by with_reducible assumption) ?_)
        | (refine evPos (by with_reducible rfl) ?_)
        | (refine evPos True.intro ?_)
        | (refine evNeg not_false ?_)
        | (refine evNeg (by rw [bne_self_eq_false]; exact Bool.false_ne_true) ?_)
        | (refine evNeg Bool.false_ne_true ?_)
        | (refine evPos (by omega) ?_)
        | (refine evNeg (by omega) ?_)
        | (refine evSucc ?_; simp only [laws_FnExactMakeSchedule.j0, laws_FnExactMakeSchedule.j1, laws_FnExactMakeSchedule.j2]))
    · rw [if_neg d]
      exact evPos (by omega) (Ev.now true)
  · rw [if_neg c]
    exact evPos (by omega) (Ev.now true)
end Go.Proofs.Ytlmdghcpcohamaa.Pure
