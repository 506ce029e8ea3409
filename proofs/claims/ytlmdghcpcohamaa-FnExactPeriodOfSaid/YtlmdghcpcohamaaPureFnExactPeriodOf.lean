/- The plain law of FnExactPeriodOf: the printed functions that it uses answer as plain Lean functions do. No other condition. -/
import Derived.Test.YtlmdghcpcohamaaPFnExactPeriodOfx0
import Derived.Test.YtlmdghcpcohamaaPFnExactPeriodOfx1
import Derived.Test.YtlmdghcpcohamaaPFnExactPeriodOfx2
import Derived.Test.YtlmdghcpcohamaaPFnExactPeriodOfx3
import Derived.Test.YtlmdghcpcohamaaPFnExactPeriodOfx4
import Derived.Test.YtlmdghcpcohamaaPFnExactPeriodOfx5
import Derived.Test.YtlmdghcpcohamaaEvKit
import Derived.Test.YtlmdghcpcohamaaKReads
import Derived.Lib.SlBy
namespace Go.Proofs.Ytlmdghcpcohamaa.Pure
open Go.RowKit Go.Proofs.YtlmdghcpcohamaaW.PrintWords Go.Proofs.YtlmdghcpcohamaaW.PrintLast Go.Proofs.YtlmdghcpcohamaaW.PrintMore Go.Proofs.Ytlmdghcpcohamaa.PFnExactPeriodOf Go.Proofs.Ytlmdghcpcohamaa.EvKit
set_option linter.unusedVariables false
set_option linter.unusedSimpArgs false

theorem rd_T60_at {xs pre t : List S60} {a : S60} (h : xs = pre ++ a :: t) {i : Int} (hi : i = pre.length) : rd_T60 xs i = a := getD_at h hi


theorem rd_T74_at {xs pre t : List S74} {a : S74} (h : xs = pre ++ a :: t) {i : Int} (hi : i = pre.length) : rd_T74 xs i = a := getD_at h hi


def cv_Period (x : S74) : S60 := ⟨x.f0, x.f1, x.f2⟩
theorem toPeriodS_l0 (xs : List S74) (hn : xs.length ≤ 1048576) : ∀ (rest pre : List S74) (cur : List S60) (i : Int), xs = pre ++ rest → i = pre.length → (∃ tl : List S60, tl.length = rest.length ∧ cur = pre.map cv_Period ++ tl) →
    Ev (fun k => laws_toPeriodS.l0 k xs cur i) (xs.map cv_Period) := by
  intro rest
  induction rest with
  | nil =>
    intro pre cur i h hi hc
    obtain ⟨tl, ht, rfl⟩ := hc
    have hl := len_nil h
    refine evSucc ?_
    simp only [laws_toPeriodS.l0]
    refine evNeg (by omega) ?_
    refine evSome ?_
    have : tl = [] := List.length_eq_zero_iff.mp ht
    subst this
    rw [h]; simp
  | cons a t ih =>
    intro pre cur i h hi hc
    obtain ⟨tl, ht, hcur⟩ := hc
    have hl := len_cons h
    obtain ⟨b, tl, rfl⟩ : ∃ b tl', tl = b :: tl' := by
      cases tl with
      | nil => simp at ht
      | cons b tl => exact ⟨b, tl, rfl⟩
    have hcl := len_cons hcur
    simp at hcl
    refine evSucc ?_
    simp only [laws_toPeriodS.l0]
    refine evPos (by omega) ?_
    refine evPos (by omega) ?_
    simp only [laws_toPeriod.f, rd_T74_at h hi, Option.bind_some]
    refine evPos (by omega) ?_
    refine ih (pre ++ [a]) _ _ (snoc h) ?_ ⟨tl, by simpa using ht, ?_⟩
    · rw [wrapId (by omega), len_snoc]; omega
    · rw [set_at hcur (by simpa using hi)]; simp [cv_Period]
theorem toPeriodS_ev (xs : List S74) (hn : xs.length ≤ 1048576) : Ev (fun k => laws_toPeriodS.f k xs) (xs.map cv_Period) := by
  simp only [laws_toPeriodS.f]
  refine evPos (by omega) ?_
  refine evPos (by omega) ?_
  exact toPeriodS_l0 xs hn xs [] _ 0 rfl rfl ⟨List.replicate xs.length z60, by simp, by simp⟩
theorem szPeriodS_eq (xs : List S74) (h : xs.length ≤ 9223372036854775807) : laws_szPeriodS.f xs 1048576 = some (if xs.length ≤ 1048576 then 1048576 - (xs.length : Int) else -1) := by
  simp only [laws_szPeriodS.f]
  rw [wrapId (by omega)]
  by_cases c : xs.length ≤ 1048576
  · rw [if_neg (by omega), if_pos c]
  · rw [if_pos (by omega), if_neg c]


theorem eqPeriodS_l0 (xs : List S60) (hn : xs.length ≤ 9223372036854775806) : ∀ (rest pre : List S60) (i : Int), xs = pre ++ rest → i = pre.length → Ev (fun k => laws_eqPeriodS.l0 k xs xs i) true := by
  intro rest
  induction rest with
  | nil =>
    intro pre i h hi
    have hl := len_nil h
    refine evSucc ?_
    simp only [laws_eqPeriodS.l0]
    refine evNeg (by omega) ?_
    exact evSome rfl
  | cons a t ih =>
    intro pre i h hi
    have hl := len_cons h
    refine evSucc ?_
    simp only [laws_eqPeriodS.l0]
    refine evPos (by omega) ?_
    refine evPos (by omega) ?_
    refine evPos (by omega) ?_
    refine evBindS (a := true) (by simp [laws_eqPeriod.f]) ?_
    refine evPos (by trivial) ?_
    exact ih (pre ++ [a]) _ (snoc h) (by rw [wrapId (by omega), len_snoc]; omega)
theorem eqPeriodS_ev (xs : List S60) (hn : xs.length ≤ 9223372036854775806) : Ev (fun k => laws_eqPeriodS.f k xs xs) true := by
  simp only [laws_eqPeriodS.f]
  exact evPos (by trivial) (eqPeriodS_l0 xs hn xs [] 0 rfl rfl)

theorem within_eq (a b c : Int) : impl_within.f a b c = some (decide (b ≤ a ∧ a ≤ c)) := by
  unfold impl_within.f
  by_cases h : a ≥ b
  · rw [if_pos h]; exact congrArg some (decide_eq_decide.mpr ⟨fun g => ⟨h, g⟩, fun g => g.2⟩)
  · rw [if_neg h]; exact congrArg some (decide_eq_false (fun g => h g.1)).symm
theorem l1In_eq (a b c : Int) : spec_l1In.f a b c = some (decide (b ≤ a ∧ a ≤ c)) := by
  unfold spec_l1In.f
  by_cases h : a ≥ b
  · rw [if_pos h]; exact congrArg some (decide_eq_decide.mpr ⟨fun g => ⟨h, g⟩, fun g => g.2⟩)
  · rw [if_neg h]; exact congrArg some (decide_eq_false (fun g => h g.1)).symm

theorem isDay_eq (a : Int) : impl_isDay.f a = some (decide (0 ≤ a ∧ a ≤ 36524)) := by
  unfold impl_isDay.f; rw [within_eq]; rfl
theorem l3Good_eq (a : Int) : spec_l3Good.f a = some (decide (0 ≤ a ∧ a ≤ 36524)) := by
  unfold spec_l3Good.f; rw [l1In_eq]; rfl

def okP (a : S60) : Prop := (0 ≤ a.f0 ∧ a.f0 ≤ 36524) ∧ (0 ≤ a.f1 ∧ a.f1 ≤ 36524) ∧ (0 ≤ a.f2 ∧ a.f2 ≤ 36524) ∧ a.f0 < a.f1
instance (a : S60) : Decidable (okP a) := by unfold okP; infer_instance
def joinP (p : Option Int) (a : S60) : Prop := ∀ q, p = some q → a.f0 = q
instance (p : Option Int) (a : S60) : Decidable (joinP p a) := by
  cases p with
  | none => exact isTrue (fun q h => by cases h)
  | some q =>
    by_cases h : a.f0 = q
    · exact isTrue (fun q' e => by cases e; exact h)
    · exact isFalse (fun g => h (g q rfl))
/-- The periods are in order; p: where the one before them ends. -/
def chkP : Option Int → List S60 → Bool
  | _, [] => true
  | p, a :: t => decide (okP a) && decide (joinP p a) && chkP (some a.f1) t
def goodP (xs : List S60) : Bool := chkP none xs && decide (xs.length ≤ 40)
def endP (pre : List S60) (p : Option Int) : Prop := (pre = [] ∧ p = none) ∨ ∃ q b, pre = q ++ [b] ∧ p = some b.f1
theorem endP_snoc (pre : List S60) (a : S60) : endP (pre ++ [a]) (some a.f1) := .inr ⟨pre, a, rfl, rfl⟩
theorem chkP_bad {p : Option Int} {a : S60} {t : List S60} (b : Bool) (h : ¬ (okP a ∧ joinP p a)) : false = (chkP p (a :: t) && b) := by
  rw [chkP]
  by_cases h1 : okP a
  · rw [decide_eq_false (fun g => h ⟨h1, g⟩)]; simp
  · rw [decide_eq_false h1]; simp
theorem chkP_step {p : Option Int} {a : S60} (t : List S60) (b : Bool) (h1 : okP a) (h2 : joinP p a) : (chkP (some a.f1) t && b) = (chkP p (a :: t) && b) := by
  rw [chkP, decide_eq_true h1, decide_eq_true h2]; simp
theorem implValidP_l0 (xs : List S60) (hn : xs.length ≤ 1048576) : ∀ (rest pre : List S60) (i : Int) (p : Option Int), xs = pre ++ rest → i = pre.length → endP pre p → Ev (fun k => impl_IsValidSchedule.l0 k xs xs (xs.length : Int) i) (chkP p rest && decide (xs.length ≤ 40)) := by
  intro rest
  induction rest with
  | nil =>
    intro pre i p h hi hp
    have hl := len_nil h
    refine evSucc ?_
    simp only [impl_IsValidSchedule.l0]
    refine evNeg (by omega) ?_
    refine evSome ?_
    rw [chkP, Bool.true_and, decide_eq_decide]; omega
  | cons a t ih =>
    intro pre i p h hi hp
    have hl := len_cons h
    refine evSucc ?_
    simp only [impl_IsValidSchedule.l0, isDay_eq, Option.bind_some, decide_eq_true_eq, rd_T60_at h hi]
    refine evPos (by omega) ?_
    refine evPos (by omega) ?_
    refine evPos (by omega) ?_
    refine evIte (fun c1 => evSome (chkP_bad _ (fun g => by have := g.1.1; omega))) (fun c1 => ?_)
    refine evIte (fun c2 => evSome (chkP_bad _ (fun g => by have := g.1.2.2.2; omega))) (fun c2 => ?_)
    refine evIte (fun c3 => evSome (chkP_bad _ (fun g => by have := g.1.2.1; omega))) (fun c3 => ?_)
    refine evIte (fun c4 => ?_) (fun c4 => evSome (chkP_bad _ (fun g => c4 g.1.2.2.1)))
    have hok : okP a := ⟨by omega, by omega, c4, by omega⟩
    have go : joinP p a → Ev (fun k => impl_IsValidSchedule.l0 k xs xs (xs.length : Int) (wrap64 (i + 1))) (chkP p (a :: t) && decide (xs.length ≤ 40)) := by
      intro hj
      rw [← chkP_step t _ hok hj]
      exact ih (pre ++ [a]) _ (some a.f1) (snoc h) (by rw [wrapId (by omega), len_snoc]; omega) (endP_snoc pre a)
    rcases hp with ⟨rfl, rfl⟩ | ⟨q, b, rfl, rfl⟩
    · refine evNeg (by simp at hi; omega) ?_
      exact go (fun q e => by cases e)
    · have hq : ((q ++ [b]).length : Int) = q.length + 1 := len_snoc q b
      have h' : xs = q ++ b :: (a :: t) := by rw [h]; simp
      rw [rd_T60_at h' (i := wrap64 (i - 1)) (by rw [wrapId (by omega)]; omega)]
      refine evPos (by omega) ?_
      refine evPos (by rw [wrapId (by omega)]; omega) ?_
      refine evPos (by rw [wrapId (by omega)]; omega) ?_
      refine evIte (fun c5 => go (fun q' e => by cases e; exact c5)) (fun c5 => evSome (chkP_bad _ (fun g => c5 (g.2 _ rfl))))
theorem implValidP_ev (xs : List S60) (hn : xs.length ≤ 1048576) : Ev (fun k => impl_IsValidSchedule.f k xs) (goodP xs) := by
  simp only [impl_IsValidSchedule.f]
  exact implValidP_l0 xs hn xs [] 0 none rfl rfl (.inl ⟨rfl, rfl⟩)
theorem specGoodP_l0 (xs : List S60) (hn : xs.length ≤ 1048576) : ∀ (rest pre : List S60) (i : Int) (p : Option Int), xs = pre ++ rest → i = pre.length → endP pre p → Ev (fun k => spec_l14Good.l0 k xs i) (chkP p rest && decide (xs.length ≤ 40)) := by
  intro rest
  induction rest with
  | nil =>
    intro pre i p h hi hp
    have hl := len_nil h
    refine evSucc ?_
    simp only [spec_l14Good.l0]
    refine evNeg (by omega) ?_
    refine evSucc ?_
    simp only [spec_l14Good.j1]
    refine evNeg (by simp) ?_
    refine evSome ?_
    rw [chkP, Bool.true_and, decide_eq_decide]; omega
  | cons a t ih =>
    intro pre i p h hi hp
    have hl := len_cons h
    refine evSucc ?_
    simp only [spec_l14Good.l0]
    refine evPos (by omega) ?_
    refine evSucc ?_
    simp only [spec_l14Good.j1, l3Good_eq, Option.bind_some, decide_eq_true_eq, rd_T60_at h hi]
    refine evIte (fun c0 => ?_) (fun c0 => ?_)
    · refine evPos (by omega) ?_
      refine evPos (by omega) ?_
      refine evIte (fun c1 => ?_) (fun c1 => evSome (chkP_bad _ (fun g => c1 g.1.1)))
      refine evIte (fun c2 => ?_) (fun c2 => evSome (chkP_bad _ (fun g => c2 g.1.2.1)))
      refine evIte (fun c3 => ?_) (fun c3 => evSome (chkP_bad _ (fun g => c3 g.1.2.2.1)))
      refine evIte (fun c4 => evSome (chkP_bad _ (fun g => by have := g.1.2.2.2; omega))) (fun c4 => ?_)
      have hok : okP a := ⟨c1, c2, c3, by omega⟩
      have go : joinP p a → Ev (fun k => spec_l14Good.l0 k xs (wrap64 (i + 1))) (chkP p (a :: t) && decide (xs.length ≤ 40)) := by
        intro hj
        rw [← chkP_step t _ hok hj]
        exact ih (pre ++ [a]) _ (some a.f1) (snoc h) (by rw [wrapId (by omega), len_snoc]; omega) (endP_snoc pre a)
      rcases hp with ⟨rfl, rfl⟩ | ⟨q, b, rfl, rfl⟩
      · refine evNeg (by simp at hi; omega) ?_
        exact go (fun q e => by cases e)
      · have hq : ((q ++ [b]).length : Int) = q.length + 1 := len_snoc q b
        have h' : xs = q ++ b :: (a :: t) := by rw [h]; simp
        rw [rd_T60_at h' (i := wrap64 (i - 1)) (by rw [wrapId (by omega)]; omega)]
        refine evPos (by omega) ?_
        refine evPos (by rw [wrapId (by omega)]; omega) ?_
        refine evPos (by rw [wrapId (by omega)]; omega) ?_
        refine evIte (fun c5 => go (fun q' e => by cases e; exact c5.symm)) (fun c5 => evSome (chkP_bad _ (fun g => c5 (g.2 _ rfl).symm)))
    · refine evSome ?_
      have : decide (xs.length ≤ 40) = false := decide_eq_false (by omega)
      rw [this, Bool.and_false, decide_eq_false (by omega)]
theorem specGoodP_ev (xs : List S60) (hn : xs.length ≤ 1048576) : Ev (fun k => spec_l14Good.f k xs) (goodP xs) := by
  simp only [spec_l14Good.f]
  exact specGoodP_l0 xs hn xs [] 0 none rfl rfl (.inl ⟨rfl, rfl⟩)

instance : Inhabited S60 := ⟨z60⟩
def inP (day : Int) (y : S60) : Bool := decide (y.f0 ≤ day) && decide (day < y.f1)
def ixP (xs : List S60) (day : Int) : Int := Lib.idxBy (fun _ y => inP day y) xs default
def perA (xs : List S60) (day : Int) : Int × Bool := if goodP xs = true ∧ 0 ≤ ixP xs day then (ixP xs day, true) else (0, false)
theorem idxFrom_none (day : Int) : ∀ (xs : List S60) (i : Nat), (∀ b ∈ xs, inP day b = false) → Lib.idxByFrom (fun _ y => inP day y) default xs i = -1
  | [], _, _ => rfl
  | a :: t, i, h => by
    rw [Lib.idxByFrom, if_neg (by rw [h a List.mem_cons_self]; exact Bool.false_ne_true)]
    exact idxFrom_none day t (i + 1) (fun b hb => h b (List.mem_cons_of_mem _ hb))
theorem idxFrom_hit (day : Int) (a : S60) (t : List S60) (ha : inP day a = true) : ∀ (pre : List S60) (i : Nat), (∀ b ∈ pre, inP day b = false) → Lib.idxByFrom (fun _ y => inP day y) default (pre ++ a :: t) i = ((i + pre.length : Nat) : Int)
  | [], i, _ => by rw [List.nil_append, Lib.idxByFrom, if_pos ha]; simp
  | b :: q, i, h => by
    rw [List.cons_append, Lib.idxByFrom, if_neg (by rw [h b List.mem_cons_self]; exact Bool.false_ne_true), idxFrom_hit day a t ha q (i + 1) (fun b hb => h b (List.mem_cons_of_mem _ hb)), List.length_cons]
    omega
theorem goodP_mem {xs : List S60} (h : goodP xs = true) : ∀ a ∈ xs, okP a := by
  unfold goodP at h
  simp only [Bool.and_eq_true] at h
  have key : ∀ (xs : List S60) (p : Option Int), chkP p xs = true → ∀ a ∈ xs, okP a := by
    intro xs
    induction xs with
    | nil => intro p _ a ha; simp at ha
    | cons b t ih =>
      intro p hc a ha
      by_cases c : okP b ∧ joinP p b
      · rcases List.mem_cons.mp ha with rfl | ha
        · exact c.1
        · have := chkP_step t true c.1 c.2
          rw [Bool.and_true, Bool.and_true, hc] at this
          exact ih _ this a ha
      · have := chkP_bad (t := t) true c
        rw [Bool.and_true, hc] at this
        cases this
  exact key xs none h.1
theorem specPer_l0 (xs : List S60) (day : Int) (hn : xs.length ≤ 1048576) (hg : goodP xs = true) : ∀ (rest pre : List S60) (i : Int), xs = pre ++ rest → i = pre.length → (∀ b ∈ pre, inP day b = false) → Ev (fun k => spec_PeriodOf.l0 k xs day i) (perA xs day) := by
  intro rest
  induction rest with
  | nil =>
    intro pre i h hi hp
    have hl := len_nil h
    refine evSucc ?_
    simp only [spec_PeriodOf.l0]
    refine evNeg (by omega) ?_
    refine evSucc ?_
    simp only [spec_PeriodOf.j1]
    refine evNeg Bool.false_ne_true (evSome ?_)
    unfold perA ixP Lib.idxBy
    rw [idxFrom_none day xs 0 (by rw [h]; simpa using hp)]
    rw [if_neg (by omega)]
  | cons a t ih =>
    intro pre i h hi hp
    have hl := len_cons h
    have ha := goodP_mem hg a (by rw [h]; simp)
    refine evSucc ?_
    simp only [spec_PeriodOf.l0]
    refine evPos (by omega) ?_
    refine evBind (specGoodP_ev xs hn) ?_
    rw [hg]
    refine evSucc ?_
    simp only [spec_PeriodOf.j1, rd_T60_at h hi, l1In_eq, Option.bind_some, decide_eq_true_eq]
    refine evPos True.intro ?_
    refine evPos (by omega) ?_
    refine evPos (by omega) ?_
    unfold okP at ha
    have e : wrap64 (a.f1 - 1) = a.f1 - 1 := wrapId (by omega)
    rw [e]
    refine evIte (fun c => ?_) (fun c => ?_)
    · refine evSome ?_
      have hin : inP day a = true := by unfold inP; rw [decide_eq_true c.1, decide_eq_true (show day < a.f1 by omega)]; rfl
      have hx : ixP xs day = i := by
        unfold ixP Lib.idxBy
        rw [h, idxFrom_hit day a t hin pre 0 hp, hi]
        omega
      unfold perA
      rw [hx, if_pos ⟨hg, by omega⟩]
    · refine ih (pre ++ [a]) _ (snoc h) (by rw [wrapId (by omega), len_snoc]; omega) ?_
      intro b hb
      rcases List.mem_append.mp hb with q | q
      · exact hp b q
      · rw [List.mem_singleton.mp q]
        unfold inP
        by_cases c1 : a.f0 ≤ day
        · rw [decide_eq_true c1, decide_eq_false (fun c2 => c ⟨c1, by omega⟩)]; rfl
        · rw [decide_eq_false c1]; rfl
theorem specPer_ev (xs : List S60) (day : Int) (hn : xs.length ≤ 1048576) : Ev (fun k => spec_PeriodOf.f k xs day) (perA xs day) := by
  simp only [spec_PeriodOf.f]
  by_cases hg : goodP xs = true
  · exact specPer_l0 xs day hn hg xs [] 0 rfl rfl (by simp)
  · have hg' : goodP xs = false := by simpa using hg
    have e : perA xs day = (0, false) := by unfold perA; rw [if_neg (fun g => hg g.1)]
    rw [e]
    refine evSucc ?_
    simp only [spec_PeriodOf.l0]
    have last : Ev (fun k => spec_PeriodOf.j1 k xs day 0 false) (0, false) := by
      refine evSucc ?_
      simp only [spec_PeriodOf.j1]
      exact evNeg Bool.false_ne_true (evSome rfl)
    refine evIte (fun _ => ?_) (fun _ => last)
    refine evBind (specGoodP_ev xs hn) ?_
    rw [hg']
    exact last
end Go.Proofs.Ytlmdghcpcohamaa.Pure
