/- The plain law of FnMargin: the printed functions that it uses answer as plain Lean functions do, and what holds of a call. No other condition. -/
import Derived.Test.YtiaakolalhdelaaPL17Mx0
import Derived.Test.YtiaakolalhdelaaPL17Mx1
import Derived.Test.YtiaakolalhdelaaPL17Mx2
import Derived.Test.YtiaakolalhdelaaPL17Mx3
import Derived.Test.YtiaakolalhdelaaPL17Mx4
import Derived.Test.YtiaakolalhdelaaPL17Mx5
import Derived.Test.YtiaakolalhdelaaPL17Mx6
import Derived.Test.YtiaakolalhdelaaPL17Mx7
import Derived.Test.YtiaakolalhdelaaEvKit
import Derived.Test.YtiaakolalhdelaaKReads
namespace Go.Proofs.Ytiaakolalhdelaa.Pure
open Go.RowKit Go.Proofs.YtiaakolalhdelaaW.PrintWords Go.Proofs.YtiaakolalhdelaaW.PrintLast Go.Proofs.YtiaakolalhdelaaW.PrintMore Go.Proofs.Ytiaakolalhdelaa.PL17M Go.Proofs.Ytiaakolalhdelaa.EvKit
set_option linter.unusedVariables false
set_option linter.unusedSimpArgs false

theorem toIntS_l0 (xs : List Int) (hn : xs.length ≤ 1048576) : ∀ (rest pre : List Int) (cur : List Int) (i : Int), xs = pre ++ rest → i = pre.length → (∃ tl : List Int, tl.length = rest.length ∧ cur = pre ++ tl) →
    Ev (fun k => laws_toIntS.l0 k xs cur i) xs := by
  intro rest
  induction rest with
  | nil =>
    intro pre cur i h hi hc
    obtain ⟨tl, ht, rfl⟩ := hc
    have hl := len_nil h
    refine evSucc ?_
    simp only [laws_toIntS.l0]
    refine evNeg (by omega) ?_
    refine evSome ?_
    have : tl = [] := List.length_eq_zero_iff.mp ht
    subst this
    rw [h]
  | cons a t ih =>
    intro pre cur i h hi hc
    obtain ⟨tl, ht, hcur⟩ := hc
    have hl := len_cons h
    obtain ⟨b, tl, rfl⟩ : ∃ b tl', tl = b :: tl' := by
      cases tl with
      | nil => simp at ht
      | cons b tl => exact ⟨b, tl, rfl⟩
    have hcl := len_cons hcur
    refine evSucc ?_
    simp only [laws_toIntS.l0]
    refine evPos (by omega) ?_
    refine evPos (by omega) ?_
    simp only [rd_at h hi]
    refine evPos (by omega) ?_
    refine ih (pre ++ [a]) _ _ (snoc h) ?_ ⟨tl, by simpa using ht, ?_⟩
    · rw [wrapId (by omega), len_snoc]; omega
    · rw [set_at hcur hi]; simp
theorem toIntS_ev (xs : List Int) (hn : xs.length ≤ 1048576) : Ev (fun k => laws_toIntS.f k xs) xs := by
  simp only [laws_toIntS.f]
  refine evPos (by omega) ?_
  refine evPos (by omega) ?_
  exact toIntS_l0 xs hn xs [] _ 0 rfl rfl ⟨List.replicate xs.length 0, by simp, by simp⟩


theorem eqIntS_l0 (xs : List Int) (hn : xs.length ≤ 9223372036854775806) : ∀ (rest pre : List Int) (i : Int), xs = pre ++ rest → i = pre.length → Ev (fun k => laws_eqIntS.l0 k xs xs i) true := by
  intro rest
  induction rest with
  | nil =>
    intro pre i h hi
    have hl := len_nil h
    refine evSucc ?_
    simp only [laws_eqIntS.l0]
    refine evNeg (by omega) ?_
    exact evSome rfl
  | cons a t ih =>
    intro pre i h hi
    have hl := len_cons h
    refine evSucc ?_
    simp only [laws_eqIntS.l0]
    refine evPos (by omega) ?_
    refine evPos (by omega) ?_
    refine evPos (by omega) ?_
    refine evPos (by trivial) ?_
    exact ih (pre ++ [a]) _ (snoc h) (by rw [wrapId (by omega), len_snoc]; omega)
theorem eqIntS_ev (xs : List Int) (hn : xs.length ≤ 9223372036854775806) : Ev (fun k => laws_eqIntS.f k xs xs) true := by
  simp only [laws_eqIntS.f]
  exact evPos (by trivial) (eqIntS_l0 xs hn xs [] 0 rfl rfl)


theorem vInts_l0 (xs : List Int) (hn : xs.length ≤ 9223372036854775806) : ∀ (rest pre : List Int) (i : Int), xs = pre ++ rest → i = pre.length → Ev (fun k => laws_vInts.l0 k xs xs i) true := by
  intro rest
  induction rest with
  | nil =>
    intro pre i h hi
    have hl := len_nil h
    refine evSucc ?_
    simp only [laws_vInts.l0]
    refine evNeg (by omega) ?_
    exact evSome rfl
  | cons a t ih =>
    intro pre i h hi
    have hl := len_cons h
    refine evSucc ?_
    simp only [laws_vInts.l0]
    refine evPos (by omega) ?_
    refine evPos (by omega) ?_
    refine evPos (by omega) ?_
    refine evPos (by trivial) ?_
    exact ih (pre ++ [a]) _ (snoc h) (by rw [wrapId (by omega), len_snoc]; omega)
theorem vInts_ev (xs : List Int) (hn : xs.length ≤ 9223372036854775806) : Ev (fun k => laws_vInts.f k xs xs) true := by
  simp only [laws_vInts.f]
  exact evPos (by trivial) (vInts_l0 xs hn xs [] 0 rfl rfl)


def upFrom : Nat → Int → List Int
  | 0, _ => []
  | n + 1, m => m :: upFrom n (m + 1)
theorem upFrom_length : ∀ (n : Nat) (m : Int), (upFrom n m).length = n
  | 0, _ => rfl
  | n + 1, m => by simp [upFrom, upFrom_length n]
theorem markIntS_l0 : ∀ (rest pre : List Int) (xs : List Int) (m i : Int), xs = pre ++ rest → i = pre.length → 0 ≤ m → m + rest.length ≤ 9223372036854775807 → pre.length + rest.length ≤ 9223372036854775806 →
    Ev (fun k => laws_markIntS.l0 k xs m i) (m + rest.length, pre ++ upFrom rest.length m) := by
  intro rest
  induction rest with
  | nil =>
    intro pre xs m i h hi h0 h1 h2
    have hl := len_nil h
    refine evSucc ?_
    simp only [laws_markIntS.l0]
    refine evNeg (by omega) ?_
    exact evSome (by simp [h, upFrom])
  | cons a t ih =>
    intro pre xs m i h hi h0 h1 h2
    have hl := len_cons h
    simp only [List.length_cons] at h1 h2
    refine evSucc ?_
    simp only [laws_markIntS.l0]
    refine evPos (by omega) ?_
    refine evPos (by omega) ?_
    refine evEq (ih (pre ++ [m]) _ (wrap64 (m + 1)) _ ?_ ?_ ?_ ?_ ?_) ?_
    · rw [set_at h hi]; simp
    · rw [wrapId (by omega), len_snoc]; omega
    · rw [wrapId (by omega)]; omega
    · rw [wrapId (by omega)]; omega
    · simp; omega
    · rw [wrapId (by omega)]; simp [upFrom]; omega
theorem markIntS_ev (xs : List Int) (m : Int) (h0 : 0 ≤ m) (h1 : m + xs.length ≤ 9223372036854775807) (h2 : xs.length ≤ 9223372036854775806) : Ev (fun k => laws_markIntS.f k xs m) (m + xs.length, upFrom xs.length m) := by
  simp only [laws_markIntS.f]
  exact evEq (markIntS_l0 xs [] xs m 0 rfl rfl h0 h1 (by simpa using h2)) (by simp)


theorem heldIntS_l0 : ∀ (n : Nat) (pre : List Int) (xs : List Int) (m i : Int), xs = pre ++ upFrom n m → i = pre.length → 0 ≤ m → m + n ≤ 9223372036854775807 → pre.length + n ≤ 9223372036854775806 →
    Ev (fun k => laws_heldIntS.l0 k xs m i) (m + n) := by
  intro n
  induction n with
  | zero =>
    intro pre xs m i h hi h0 h1 h2
    have hl := len_nil h
    refine evSucc ?_
    simp only [laws_heldIntS.l0]
    refine evNeg (by omega) ?_
    exact evSome (by simp)
  | succ n ih =>
    intro pre xs m i h hi h0 h1 h2
    have h' : xs = pre ++ m :: upFrom n (m + 1) := h
    have hl := len_cons h'
    rw [upFrom_length] at hl
    refine evSucc ?_
    simp only [laws_heldIntS.l0, rd_at h' hi]
    refine evPos (by omega) ?_
    refine evPos (by omega) ?_
    refine evPos (by trivial) ?_
    refine evEq (ih (pre ++ [m]) _ (wrap64 (m + 1)) _ ?_ ?_ ?_ ?_ ?_) ?_
    · rw [wrapId (by omega)]; exact snoc h'
    · rw [wrapId (by omega), len_snoc]; omega
    · rw [wrapId (by omega)]; omega
    · rw [wrapId (by omega)]; omega
    · simp; omega
    · rw [wrapId (by omega)]; omega
theorem heldIntS_ev (n : Nat) (m : Int) (h0 : 0 ≤ m) (h1 : m + n ≤ 9223372036854775807) (h2 : n ≤ 9223372036854775806) : Ev (fun k => laws_heldIntS.f k (upFrom n m) m) (m + n) := by
  simp only [laws_heldIntS.f]
  exact heldIntS_l0 n [] _ m 0 rfl rfl h0 h1 (by simpa using h2)

theorem within_eq (a b c : Int) : impl_within.f a b c = some (decide (b ≤ a ∧ a ≤ c)) := by
  unfold impl_within.f
  by_cases h : a ≥ b
  · rw [if_pos h]; exact congrArg some (decide_eq_decide.mpr ⟨fun g => ⟨h, g⟩, fun g => g.2⟩)
  · rw [if_neg h]; exact congrArg some (decide_eq_false (fun g => h g.1)).symm
theorem l1In_eq (a b c : Int) : spec_l1In.f a b c = some (decide (b ≤ a ∧ a ≤ c)) := by
  unfold spec_l1In.f
  by_cases h : a ≥ b
  · rw [if_pos h]; exact congrArg some (decide_eq_decide.mpr ⟨fun g => ⟨h, g⟩, fun g => g.2⟩)
  · rw [if_neg h]; exact congrArg some (decide_eq_false (fun g => h g.1)).symm

theorem isAmount_eq (a : Int) : impl_isAmount.f a = some (decide (-1000000000 ≤ a ∧ a ≤ 1000000000)) := by
  unfold impl_isAmount.f; rw [within_eq]; rfl

theorem l2Amount_eq (a : Int) : spec_l2Amount.f a = some (decide (-1000000000 ≤ a ∧ a ≤ 1000000000)) := by
  unfold spec_l2Amount.f; rw [l1In_eq]; rfl

def max0 (x : Int) : Int := if 0 < x then x else 0
theorem max0_bd (x : Int) : 0 ≤ max0 x ∧ (x ≤ 1000000000 → max0 x ≤ 1000000000) ∧ (max0 x ≤ 1000000000 → x ≤ 1000000000) := by unfold max0; split <;> omega

def okT (i t m r : Int) : Prop := (0 ≤ i ∧ i ≤ 1000000000) ∧ (0 ≤ t ∧ t ≤ 1000000000) ∧ (0 ≤ m ∧ m ≤ 1000000000) ∧ (1 ≤ r ∧ r ≤ 1000000000)
instance (i t m r : Int) : Decidable (okT i t m r) := by unfold okT; infer_instance
theorem l17Terms_eq (i t m r : Int) : spec_l17Terms.f i t m r = some (decide (okT i t m r)) := by
  simp only [spec_l17Terms.f, l1In_eq, Option.bind_some, decide_eq_true_eq]
  split
  · rename_i c1
    split
    · rename_i c2
      split
      · rename_i c3; exact congrArg some (decide_eq_decide.mpr ⟨fun g => ⟨c1, c2, c3, g⟩, fun g => g.2.2.2⟩)
      · rename_i c3; exact congrArg some (decide_eq_false (fun g => c3 g.2.2.1)).symm
    · rename_i c2; exact congrArg some (decide_eq_false (fun g => c2 g.2.1)).symm
  · rename_i c1; exact congrArg some (decide_eq_false (fun g => c1 g.1)).symm
theorem isMargin_eq (i t m r : Int) : impl_isMargin.f i t m r = some (decide (okT i t m r)) := by
  simp only [impl_isMargin.f, within_eq, Option.bind_some, decide_eq_true_eq]
  split
  · rename_i c1
    split
    · rename_i c2
      split
      · rename_i c3; exact congrArg some (decide_eq_decide.mpr ⟨fun g => ⟨c1, c2, c3, g⟩, fun g => g.2.2.2⟩)
      · rename_i c3; exact congrArg some (decide_eq_false (fun g => c3 g.2.2.1)).symm
    · rename_i c2; exact congrArg some (decide_eq_false (fun g => c2 g.2.1)).symm
  · rename_i c1; exact congrArg some (decide_eq_false (fun g => c1 g.1)).symm
def reqOk (e i t m r : Int) : Prop := (-1000000000 ≤ e ∧ e ≤ 1000000000) ∧ okT i t m r ∧ e + i - t ≤ 1000000000
instance (e i t m r : Int) : Decidable (reqOk e i t m r) := by unfold reqOk; infer_instance
def reqA (e i t m r : Int) : Int × Bool := if reqOk e i t m r then (max0 (e + i - t), true) else (0, false)
theorem reqA_no {e i t m r : Int} (h : ¬ reqOk e i t m r) : reqA e i t m r = (0, false) := if_neg h
theorem reqA_yes {e i t m r : Int} (h : reqOk e i t m r) : reqA e i t m r = (max0 (e + i - t), true) := if_pos h
theorem specRequired_eq (e i t m r : Int) : spec_RequiredAmount.f e i t m r = some (reqA e i t m r) := by
  simp only [spec_RequiredAmount.f, l2Amount_eq, l17Terms_eq, Option.bind_some, decide_eq_true_eq]
  split
  · rename_i c1
    split
    · rename_i c2
      have hw : wrap64 (wrap64 (e + i) - t) = e + i - t := by
        have := c2.1; have := c2.2.1
        rw [wrapId (x := e + i) (by omega), wrapId (by omega)]
      have hr : spec_l17Required.f e i t m r = some (max0 (e + i - t)) := by
        simp only [spec_l17Required.f, spec_l1Most.f, hw, max0]
        split <;> rfl
      simp only [hr, l2Amount_eq, Option.bind_some, decide_eq_true_eq]
      have hb := max0_bd (e + i - t)
      split
      · rw [reqA_yes ⟨c1, c2, by omega⟩]
      · rename_i c3; rw [reqA_no (fun g => by have := g.2.2; omega)]
    · rename_i c2; rw [reqA_no (fun g => c2 g.2.1)]
  · rename_i c1; rw [reqA_no (fun g => c1 g.1)]
theorem implRequired_ev (e i t m r : Int) : Ev (fun k => impl_RequiredAmount.f k e i t m r) (reqA e i t m r) := by
  simp only [impl_RequiredAmount.f, isAmount_eq, isMargin_eq, Option.bind_some, decide_eq_true_eq]
  refine evIte (fun c1 => ?_) (fun c1 => ?_)
  · refine evSucc ?_
    simp only [impl_RequiredAmount.j0, isAmount_eq, Option.bind_some, decide_eq_true_eq]
    by_cases c2 : okT i t m r
    · refine evNeg (by simp [c2]) ?_
      have hw : wrap64 (wrap64 (e + i) - t) = e + i - t := by
        have := c2.1; have := c2.2.1
        rw [wrapId (x := e + i) (by omega), wrapId (by omega)]
      have hm : mx 0 (e + i - t) = max0 (e + i - t) := rfl
      simp only [hw, hm]
      have hb := max0_bd (e + i - t)
      refine evIte (fun c3 => ?_) (fun c3 => ?_)
      · exact evSome (reqA_yes ⟨c1, c2, by omega⟩).symm
      · exact evSome (reqA_no (fun g => by have := g.2.2; omega)).symm
    · refine evPos (by simp [c2]) ?_
      exact evSome (reqA_no (fun g => c2 g.2.1)).symm
  · refine evSucc ?_
    simp only [impl_RequiredAmount.j0]
    refine evPos (by trivial) ?_
    exact evSome (reqA_no (fun g => c1 g.1)).symm

def callN (d r : Int) : Int := if d < 0 then -(-d / r * r) else (d + r - 1) / r * r
def absI (n : Int) : Int := if n < 0 then -n else n
def callOk (e h i t m r : Int) : Prop := reqOk e i t m r ∧ 0 ≤ h ∧ h ≤ 1000000000
instance (e h i t m r : Int) : Decidable (callOk e h i t m r) := by unfold callOk; infer_instance
def callEnd (n m : Int) : Int × Bool := if absI n < m then (0, true) else if -1000000000 ≤ n ∧ n ≤ 1000000000 then (n, true) else (0, false)
def callA (e h i t m r : Int) : Int × Bool := if callOk e h i t m r then callEnd (callN (max0 (e + i - t) - h) r) m else (0, false)
theorem ediv_facts (a r : Int) (ha : 0 ≤ a) (hr : 1 ≤ r) : 0 ≤ a / r ∧ a / r ≤ a ∧ 0 ≤ a / r * r ∧ a / r * r ≤ a ∧ a < a / r * r + r := by
  have h1 : 0 ≤ a / r := Int.ediv_nonneg ha (by omega)
  have h2 : a / r * r ≤ a := Int.ediv_mul_le a (by omega)
  have h3 : a < (a / r + 1) * r := Int.lt_ediv_add_one_mul_self a (by omega)
  have h4 : 0 ≤ a / r * r := Int.mul_nonneg h1 (by omega)
  have h5 : a / r ≤ a := Int.ediv_le_self r ha
  rw [Int.add_mul, Int.one_mul] at h3
  exact ⟨h1, h5, h4, h2, h3⟩
/-- What the two ways of computing a call meet on their way. -/
theorem call_parts (d m r : Int) (hd : -1000000000 ≤ d ∧ d ≤ 1000000000) (hr : 1 ≤ r ∧ r ≤ 1000000000) : ∃ q1 n1 q2 n2 : Int, (Int.tdiv (d + r - 1) r = q1 ∧ q1 * r = n1 ∧ -4000000000 ≤ n1 ∧ n1 ≤ 4000000000 ∧ -4000000000 ≤ q1 ∧ q1 ≤ 4000000000) ∧ (d ≤ 0 → Int.tdiv (-d) r = q2 ∧ q2 * r = n2 ∧ 0 ≤ n2 ∧ n2 ≤ 1000000000 ∧ 0 ≤ q2 ∧ q2 ≤ 1000000000) ∧ (d < 0 → callN d r = -n2) ∧ (0 ≤ d → callN d r = n1 ∧ 0 ≤ n1) ∧ (d = 0 → n1 = 0 ∧ n2 = 0) := by
  refine ⟨Int.tdiv (d + r - 1) r, Int.tdiv (d + r - 1) r * r, Int.tdiv (-d) r, Int.tdiv (-d) r * r, ⟨rfl, rfl, ?_⟩, fun h => ⟨rfl, rfl, ?_⟩, fun h => ?_, fun h => ?_, fun h => ?_⟩
  · have f1 := Int.natAbs_tdiv_le_natAbs (d + r - 1) r
    rcases Int.lt_or_le (d + r - 1) 0 with g | g
    · have f := ediv_facts (-(d + r - 1)) r (by omega) hr.1
      have e1 : Int.tdiv (d + r - 1) r = -((-(d + r - 1)) / r) := by
        rw [show d + r - 1 = -(-(d + r - 1)) by omega, Int.neg_tdiv, Int.tdiv_eq_ediv_of_nonneg (by omega)]
        congr 2; omega
      rw [e1, Int.neg_mul]; omega
    · have f := ediv_facts (d + r - 1) r g hr.1
      rw [Int.tdiv_eq_ediv_of_nonneg g]; omega
  · have f := ediv_facts (-d) r (by omega) hr.1
    rw [Int.tdiv_eq_ediv_of_nonneg (by omega)]; omega
  · unfold callN; rw [if_pos h, Int.tdiv_eq_ediv_of_nonneg (by omega)]
  · have f := ediv_facts (d + r - 1) r (by omega) hr.1
    unfold callN; rw [if_neg (by omega), Int.tdiv_eq_ediv_of_nonneg (by omega)]; exact ⟨rfl, f.2.2.1⟩
  · subst h
    have f := ediv_facts (r - 1) r (by omega) hr.1
    have f0 : (r - 1) / r = 0 := Int.ediv_eq_zero_of_lt (by omega) (by omega)
    rw [show (0 : Int) + r - 1 = r - 1 by omega, Int.tdiv_eq_ediv_of_nonneg (by omega), f0]
    simp
theorem l1Most_eq (n : Int) (h : -4000000000 ≤ n ∧ n ≤ 4000000000) : spec_l1Most.f n (-n) = some (absI n) := by
  unfold spec_l1Most.f absI
  split <;> split <;> first | rfl | (congr 1; omega) | omega

def okAm (xs : List Int) : Prop := xs.length ≤ 20 ∧ ∀ x ∈ xs, -1000000000 ≤ x ∧ x ≤ 1000000000
instance (xs : List Int) : Decidable (okAm xs) := by unfold okAm; infer_instance
theorem specAms_l0 (xs : List Int) (hn : xs.length ≤ 1048576) : ∀ (rest pre : List Int) (i : Int), xs = pre ++ rest → i = pre.length → (∀ x ∈ pre, -1000000000 ≤ x ∧ x ≤ 1000000000) → Ev (fun k => spec_l2Amounts.l0 k xs i) (decide (okAm xs)) := by
  intro rest
  induction rest with
  | nil =>
    intro pre i h hi hok
    have hl := len_nil h
    have hx : xs = pre := by simpa using h
    refine evSucc ?_
    simp only [spec_l2Amounts.l0]
    refine evNeg (by omega) ?_
    refine evSucc ?_
    simp only [spec_l2Amounts.j1]
    refine evNeg (by simp) (evSome ?_)
    refine decide_eq_decide.mpr ⟨fun g => ⟨by omega, by rw [hx]; exact hok⟩, fun g => by have := g.1; omega⟩
  | cons a t ih =>
    intro pre i h hi hok
    have hl := len_cons h
    have ha : rd xs i = a := rd_at h hi
    refine evSucc ?_
    simp only [spec_l2Amounts.l0]
    refine evPos (by omega) ?_
    refine evSucc ?_
    simp only [spec_l2Amounts.j1, ha, l2Amount_eq, Option.bind_some, decide_eq_true_eq]
    refine evIte (fun c => ?_) (fun c => ?_)
    · refine evPos (by omega) ?_
      refine evPos (by omega) ?_
      refine evIte (fun c2 => ?_) (fun c2 => evSome (decide_eq_false (fun g => c2 (g.2 a (by rw [h]; simp)))).symm)
      exact ih (pre ++ [a]) _ (snoc h) (by rw [wrapId (by omega), len_snoc]; omega) (fun x hx => by
        rcases List.mem_append.mp hx with q | q
        · exact hok x q
        · rw [List.mem_singleton.mp q]; exact c2)
    · refine evSome (decide_eq_decide.mpr ⟨fun g => absurd g (by omega), fun g => by have := g.1; omega⟩)
theorem specAms_ev (xs : List Int) (hn : xs.length ≤ 1048576) : Ev (fun k => spec_l2Amounts.f k xs) (decide (okAm xs)) := by
  simp only [spec_l2Amounts.f]
  exact specAms_l0 xs hn xs [] 0 rfl rfl (by simp)
theorem okAm_any {xs : List Int} (h : xs.length ≤ 20) : decide (okAm xs) = !(xs.any (fun x => !decide (-1000000000 ≤ x ∧ x ≤ 1000000000))) := by
  cases hq : xs.any (fun x => !decide (-1000000000 ≤ x ∧ x ≤ 1000000000)) with
  | true =>
    obtain ⟨x, hx, hx2⟩ := List.any_eq_true.mp hq
    refine decide_eq_false (fun g => ?_)
    rw [decide_eq_true (g.2 x hx)] at hx2
    cases hx2
  | false =>
    refine decide_eq_true ⟨h, fun x hx => ?_⟩
    have h1 := List.any_eq_false.mp hq x hx
    have h2 : decide (-1000000000 ≤ x ∧ x ≤ 1000000000) = true := by simpa using h1
    exact of_decide_eq_true h2
theorem drop_at (xs : List Int) {i : Nat} (h : i < xs.length) : xs.drop i = xs.getD i 0 :: xs.drop (i + 1) := by
  rw [List.drop_eq_getElem_cons h, List.getD_eq_getElem?_getD, List.getElem?_eq_getElem h]
  rfl

theorem callEnd_bd (n m : Int) : -1000000000 ≤ (callEnd n m).1 ∧ (callEnd n m).1 ≤ 1000000000 := by
  unfold callEnd
  split
  · decide
  · split
    · assumption
    · decide
theorem callA_bd (e h i t m r : Int) : -1000000000 ≤ (callA e h i t m r).1 ∧ (callA e h i t m r).1 ≤ 1000000000 := by
  unfold callA
  split
  · exact callEnd_bd _ _
  · decide
theorem callA_ok {e h i t m r : Int} (q : (callA e h i t m r).2 = true) : 0 ≤ h ∧ h ≤ 1000000000 := by
  unfold callA at q
  split at q
  · rename_i c; exact c.2
  · cases q
def histL (i t m r : Int) : List Int → Int → List Int → List Int × Bool
  | [], _, out => (out, true)
  | x :: xs, h, out => if (callA x h i t m r).2 = true then histL i t m r xs (h + (callA x h i t m r).1) (out ++ [(callA x h i t m r).1]) else ([], false)
def histA (xs : List Int) (i t m r : Int) : List Int × Bool := if okAm xs ∧ okT i t m r then histL i t m r xs 0 [] else ([], false)
theorem histL_len (i t m r : Int) : ∀ (xs : List Int) (h : Int) (out : List Int), (histL i t m r xs h out).1.length ≤ out.length + xs.length
  | [], h, out => by simp [histL]
  | x :: xs, h, out => by
    unfold histL
    split
    · have := histL_len i t m r xs (h + (callA x h i t m r).1) (out ++ [(callA x h i t m r).1])
      simp only [List.length_append, List.length_cons, List.length_nil] at this ⊢
      omega
    · simp
theorem histA_len (xs : List Int) (i t m r : Int) : (histA xs i t m r).1.length ≤ 20 := by
  unfold histA
  split
  · rename_i c
    have h1 := histL_len i t m r xs 0 []
    have h2 := c.1.1
    simp only [List.length_nil] at h1
    omega
  · simp
theorem histL_at {i t m r : Int} {xs : List Int} {k : Nat} (hk : k < xs.length) (hd : Int) (out : List Int) {x n : Int} {ok : Bool} (hx : xs.getD k 0 = x) (hc : callA x hd i t m r = (n, ok)) : histL i t m r (xs.drop k) hd out = if ok = true then histL i t m r (xs.drop (k + 1)) (hd + n) (out ++ [n]) else ([], false) := by
  rw [drop_at xs hk, hx, histL, hc]
theorem histL_end {i t m r : Int} {xs : List Int} {k : Nat} (hk : ¬ k < xs.length) (hd : Int) (out : List Int) : histL i t m r (xs.drop k) hd out = (out, true) := by
  rw [List.drop_eq_nil_of_le (by omega), histL]

theorem call_facts {e h i t m r n : Int} (g : callA e h i t m r = (n, true)) : ∃ need, reqA e i t m r = (need, true) ∧ (0 ≤ need ∧ need ≤ 1000000000) ∧ (0 ≤ h ∧ h ≤ 1000000000) ∧ (0 ≤ m ∧ m ≤ 1000000000) ∧ (1 ≤ r ∧ r ≤ 1000000000) ∧ (-1000000000 ≤ n ∧ n ≤ 1000000000) ∧ n.tmod r = 0 ∧ 0 ≤ h + n ∧ (n = 0 → 0 < need - h - n → need - h - n < m) ∧ (n ≠ 0 → need - h - n ≤ 0 ∧ -(need - h - n) < r ∧ (0 < n → m ≤ n) ∧ (n < 0 → m ≤ -n)) := by
  unfold callA at g
  by_cases c : callOk e h i t m r
  · rw [if_pos c] at g
    obtain ⟨c1, h0, h1⟩ := c
    have c2 := c1.2.1
    obtain ⟨_, _, hm, hr⟩ := c2
    have hb := max0_bd (e + i - t)
    have hn := hb.2.1 c1.2.2
    refine ⟨max0 (e + i - t), reqA_yes c1, ⟨hb.1, hn⟩, ⟨h0, h1⟩, hm, hr, ?_⟩
    have hb1 := hb.1
    generalize max0 (e + i - t) = need at *
    obtain ⟨d, hd⟩ : ∃ d, d = need - h := ⟨_, rfl⟩
    rw [← hd] at g ⊢
    have hN : (callN d r).tmod r = 0 ∧ 0 ≤ h + callN d r ∧ d ≤ callN d r ∧ callN d r - d < r ∧ (d < 0 → callN d r ≤ 0) ∧ (0 ≤ d → 0 ≤ callN d r) := by
      unfold callN
      split
      · rename_i q
        have f := ediv_facts (-d) r (by omega) hr.1
        refine ⟨by rw [← Int.neg_mul, Int.mul_tmod_left], ?_⟩
        generalize -d / r * r = z at f ⊢
        omega
      · rename_i q
        have f := ediv_facts (d + r - 1) r (by omega) hr.1
        refine ⟨by rw [Int.mul_tmod_left], ?_⟩
        generalize (d + r - 1) / r * r = z at f ⊢
        omega
    generalize callN d r = z at g hN
    unfold callEnd absI at g
    obtain ⟨z1, z2, z3, z4, z5, z6⟩ := hN
    by_cases q : (if z < 0 then -z else z) < m
    · rw [if_pos q] at g
      obtain rfl : 0 = n := congrArg Prod.fst g
      refine ⟨by omega, by simp, by omega, fun _ hp => ?_, fun h => absurd rfl h⟩
      split at q <;> omega
    · rw [if_neg q] at g
      split at g
      · obtain rfl : z = n := congrArg Prod.fst g
        refine ⟨by omega, z1, z2, fun _ _ => ?_, fun _ => ⟨by omega, by omega, fun _ => ?_, fun _ => ?_⟩⟩
        · omega
        · split at q <;> omega
        · split at q <;> omega
      · have := congrArg Prod.snd g
        simp at this
  · rw [if_neg c] at g
    have := congrArg Prod.snd g
    simp at this
end Go.Proofs.Ytiaakolalhdelaa.Pure
