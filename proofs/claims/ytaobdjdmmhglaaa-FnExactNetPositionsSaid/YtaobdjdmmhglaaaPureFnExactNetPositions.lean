/- The plain law of FnExactNetPositions: the printed functions that it uses answer as plain Lean functions do. No other condition. -/
import Derived.Test.YtaobdjdmmhglaaaPFnExactSettleInOrderx0
import Derived.Test.YtaobdjdmmhglaaaPFnExactSettleInOrderx1
import Derived.Test.YtaobdjdmmhglaaaPFnExactSettleInOrderx2
import Derived.Test.YtaobdjdmmhglaaaPFnExactSettleInOrderx3
import Derived.Test.YtaobdjdmmhglaaaPFnExactSettleInOrderx5
import Derived.Test.YtaobdjdmmhglaaaEvKit
import Derived.Test.YtaobdjdmmhglaaaKReads
namespace Go.Proofs.Ytaobdjdmmhglaaa.Pure
open Go.RowKit Go.Proofs.YtaobdjdmmhglaaaW.PrintWords Go.Proofs.YtaobdjdmmhglaaaW.PrintLast Go.Proofs.YtaobdjdmmhglaaaW.PrintMore Go.Proofs.Ytaobdjdmmhglaaa.PFnExactSettleInOrder Go.Proofs.Ytaobdjdmmhglaaa.EvKit
set_option linter.unusedVariables false
set_option linter.unusedSimpArgs false

theorem toIntS_l0 (xs : List Int) (hn : xs.length ≤ 1048576) : ∀ (rest pre : List Int) (cur : List Int) (i : Int), xs = pre ++ rest → i = pre.length → (∃ tl : List Int, tl.length = rest.length ∧ cur = pre ++ tl) →
    Ev (fun k => laws_toIntS.l0 k xs cur i) xs := by
  intro rest
  induction rest with
  | nil =>
    intro pre cur i h hi hc
    obtain ⟨tl, ht, rfl⟩ := hc
    have hl := len_nil h
    refine evSucc ?_
    simp only [laws_toIntS.l0]
    refine evNeg (by omega) ?_
    refine evSome ?_
    have : tl = [] := List.length_eq_zero_iff.mp ht
    subst this
    rw [h]
  | cons a t ih =>
    intro pre cur i h hi hc
    obtain ⟨tl, ht, hcur⟩ := hc
    have hl := len_cons h
    obtain ⟨b, tl, rfl⟩ : ∃ b tl', tl = b :: tl' := by
      cases tl with
      | nil => simp at ht
      | cons b tl => exact ⟨b, tl, rfl⟩
    have hcl := len_cons hcur
    refine evSucc ?_
    simp only [laws_toIntS.l0]
    refine evPos (by omega) ?_
    refine evPos (by omega) ?_
    simp only [rd_at h hi]
    refine evPos (by omega) ?_
    refine ih (pre ++ [a]) _ _ (snoc h) ?_ ⟨tl, by simpa using ht, ?_⟩
    · rw [wrapId (by omega), len_snoc]; omega
    · rw [set_at hcur hi]; simp
theorem toIntS_ev (xs : List Int) (hn : xs.length ≤ 1048576) : Ev (fun k => laws_toIntS.f k xs) xs := by
  simp only [laws_toIntS.f]
  refine evPos (by omega) ?_
  refine evPos (by omega) ?_
  exact toIntS_l0 xs hn xs [] _ 0 rfl rfl ⟨List.replicate xs.length 0, by simp, by simp⟩


theorem eqIntS_l0 (xs : List Int) (hn : xs.length ≤ 9223372036854775806) : ∀ (rest pre : List Int) (i : Int), xs = pre ++ rest → i = pre.length → Ev (fun k => laws_eqIntS.l0 k xs xs i) true := by
  intro rest
  induction rest with
  | nil =>
    intro pre i h hi
    have hl := len_nil h
    refine evSucc ?_
    simp only [laws_eqIntS.l0]
    refine evNeg (by omega) ?_
    exact evSome rfl
  | cons a t ih =>
    intro pre i h hi
    have hl := len_cons h
    refine evSucc ?_
    simp only [laws_eqIntS.l0]
    refine evPos (by omega) ?_
    refine evPos (by omega) ?_
    refine evPos (by omega) ?_
    refine evPos (by trivial) ?_
    exact ih (pre ++ [a]) _ (snoc h) (by rw [wrapId (by omega), len_snoc]; omega)
theorem eqIntS_ev (xs : List Int) (hn : xs.length ≤ 9223372036854775806) : Ev (fun k => laws_eqIntS.f k xs xs) true := by
  simp only [laws_eqIntS.f]
  exact evPos (by trivial) (eqIntS_l0 xs hn xs [] 0 rfl rfl)


def upFrom : Nat → Int → List Int
  | 0, _ => []
  | n + 1, m => m :: upFrom n (m + 1)
theorem upFrom_length : ∀ (n : Nat) (m : Int), (upFrom n m).length = n
  | 0, _ => rfl
  | n + 1, m => by simp [upFrom, upFrom_length n]
theorem markIntS_l0 : ∀ (rest pre : List Int) (xs : List Int) (m i : Int), xs = pre ++ rest → i = pre.length → 0 ≤ m → m + rest.length ≤ 9223372036854775807 → pre.length + rest.length ≤ 9223372036854775806 →
    Ev (fun k => laws_markIntS.l0 k xs m i) (m + rest.length, pre ++ upFrom rest.length m) := by
  intro rest
  induction rest with
  | nil =>
    intro pre xs m i h hi h0 h1 h2
    have hl := len_nil h
    refine evSucc ?_
    simp only [laws_markIntS.l0]
    refine evNeg (by omega) ?_
    exact evSome (by simp [h, upFrom])
  | cons a t ih =>
    intro pre xs m i h hi h0 h1 h2
    have hl := len_cons h
    simp only [List.length_cons] at h1 h2
    refine evSucc ?_
    simp only [laws_markIntS.l0]
    refine evPos (by omega) ?_
    refine evPos (by omega) ?_
    refine evEq (ih (pre ++ [m]) _ (wrap64 (m + 1)) _ ?_ ?_ ?_ ?_ ?_) ?_
    · rw [set_at h hi]; simp
    · rw [wrapId (by omega), len_snoc]; omega
    · rw [wrapId (by omega)]; omega
    · rw [wrapId (by omega)]; omega
    · simp; omega
    · rw [wrapId (by omega)]; simp [upFrom]; omega
theorem markIntS_ev (xs : List Int) (m : Int) (h0 : 0 ≤ m) (h1 : m + xs.length ≤ 9223372036854775807) (h2 : xs.length ≤ 9223372036854775806) : Ev (fun k => laws_markIntS.f k xs m) (m + xs.length, upFrom xs.length m) := by
  simp only [laws_markIntS.f]
  exact evEq (markIntS_l0 xs [] xs m 0 rfl rfl h0 h1 (by simpa using h2)) (by simp)


theorem heldIntS_l0 : ∀ (n : Nat) (pre : List Int) (xs : List Int) (m i : Int), xs = pre ++ upFrom n m → i = pre.length → 0 ≤ m → m + n ≤ 9223372036854775807 → pre.length + n ≤ 9223372036854775806 →
    Ev (fun k => laws_heldIntS.l0 k xs m i) (m + n) := by
  intro n
  induction n with
  | zero =>
    intro pre xs m i h hi h0 h1 h2
    have hl := len_nil h
    refine evSucc ?_
    simp only [laws_heldIntS.l0]
    refine evNeg (by omega) ?_
    exact evSome (by simp)
  | succ n ih =>
    intro pre xs m i h hi h0 h1 h2
    have h' : xs = pre ++ m :: upFrom n (m + 1) := h
    have hl := len_cons h'
    rw [upFrom_length] at hl
    refine evSucc ?_
    simp only [laws_heldIntS.l0, rd_at h' hi]
    refine evPos (by omega) ?_
    refine evPos (by omega) ?_
    refine evPos (by trivial) ?_
    refine evEq (ih (pre ++ [m]) _ (wrap64 (m + 1)) _ ?_ ?_ ?_ ?_ ?_) ?_
    · rw [wrapId (by omega)]; exact snoc h'
    · rw [wrapId (by omega), len_snoc]; omega
    · rw [wrapId (by omega)]; omega
    · rw [wrapId (by omega)]; omega
    · simp; omega
    · rw [wrapId (by omega)]; omega
theorem heldIntS_ev (n : Nat) (m : Int) (h0 : 0 ≤ m) (h1 : m + n ≤ 9223372036854775807) (h2 : n ≤ 9223372036854775806) : Ev (fun k => laws_heldIntS.f k (upFrom n m) m) (m + n) := by
  simp only [laws_heldIntS.f]
  exact heldIntS_l0 n [] _ m 0 rfl rfl h0 h1 (by simpa using h2)


theorem rd_T54_at {xs pre t : List S54} {a : S54} (h : xs = pre ++ a :: t) {i : Int} (hi : i = pre.length) : rd_T54 xs i = a := getD_at h hi


theorem rd_T56_at {xs pre t : List S56} {a : S56} (h : xs = pre ++ a :: t) {i : Int} (hi : i = pre.length) : rd_T56 xs i = a := getD_at h hi


def cv_Claim (x : S56) : S54 := ⟨x.f0, x.f1, x.f2⟩
theorem toClaimS_l0 (xs : List S56) (hn : xs.length ≤ 1048576) : ∀ (rest pre : List S56) (cur : List S54) (i : Int), xs = pre ++ rest → i = pre.length → (∃ tl : List S54, tl.length = rest.length ∧ cur = pre.map cv_Claim ++ tl) →
    Ev (fun k => laws_toClaimS.l0 k xs cur i) (xs.map cv_Claim) := by
  intro rest
  induction rest with
  | nil =>
    intro pre cur i h hi hc
    obtain ⟨tl, ht, rfl⟩ := hc
    have hl := len_nil h
    refine evSucc ?_
    simp only [laws_toClaimS.l0]
    refine evNeg (by omega) ?_
    refine evSome ?_
    have : tl = [] := List.length_eq_zero_iff.mp ht
    subst this
    rw [h]; simp
  | cons a t ih =>
    intro pre cur i h hi hc
    obtain ⟨tl, ht, hcur⟩ := hc
    have hl := len_cons h
    obtain ⟨b, tl, rfl⟩ : ∃ b tl', tl = b :: tl' := by
      cases tl with
      | nil => simp at ht
      | cons b tl => exact ⟨b, tl, rfl⟩
    have hcl := len_cons hcur
    simp at hcl
    refine evSucc ?_
    simp only [laws_toClaimS.l0]
    refine evPos (by omega) ?_
    refine evPos (by omega) ?_
    simp only [laws_toClaim.f, rd_T56_at h hi, Option.bind_some]
    refine evPos (by omega) ?_
    refine ih (pre ++ [a]) _ _ (snoc h) ?_ ⟨tl, by simpa using ht, ?_⟩
    · rw [wrapId (by omega), len_snoc]; omega
    · rw [set_at hcur (by simpa using hi)]; simp [cv_Claim]
theorem toClaimS_ev (xs : List S56) (hn : xs.length ≤ 1048576) : Ev (fun k => laws_toClaimS.f k xs) (xs.map cv_Claim) := by
  simp only [laws_toClaimS.f]
  refine evPos (by omega) ?_
  refine evPos (by omega) ?_
  exact toClaimS_l0 xs hn xs [] _ 0 rfl rfl ⟨List.replicate xs.length z54, by simp, by simp⟩
theorem szClaimS_eq (xs : List S56) (h : xs.length ≤ 9223372036854775807) : laws_szClaimS.f xs 1048576 = some (if xs.length ≤ 1048576 then 1048576 - (xs.length : Int) else -1) := by
  simp only [laws_szClaimS.f]
  rw [wrapId (by omega)]
  by_cases c : xs.length ≤ 1048576
  · rw [if_neg (by omega), if_pos c]
  · rw [if_pos (by omega), if_neg c]


theorem eqClaimS_l0 (xs : List S54) (hn : xs.length ≤ 9223372036854775806) : ∀ (rest pre : List S54) (i : Int), xs = pre ++ rest → i = pre.length → Ev (fun k => laws_eqClaimS.l0 k xs xs i) true := by
  intro rest
  induction rest with
  | nil =>
    intro pre i h hi
    have hl := len_nil h
    refine evSucc ?_
    simp only [laws_eqClaimS.l0]
    refine evNeg (by omega) ?_
    exact evSome rfl
  | cons a t ih =>
    intro pre i h hi
    have hl := len_cons h
    refine evSucc ?_
    simp only [laws_eqClaimS.l0]
    refine evPos (by omega) ?_
    refine evPos (by omega) ?_
    refine evPos (by omega) ?_
    refine evBindS (a := true) (by simp [laws_eqClaim.f]) ?_
    refine evPos (by trivial) ?_
    exact ih (pre ++ [a]) _ (snoc h) (by rw [wrapId (by omega), len_snoc]; omega)
theorem eqClaimS_ev (xs : List S54) (hn : xs.length ≤ 9223372036854775806) : Ev (fun k => laws_eqClaimS.f k xs xs) true := by
  simp only [laws_eqClaimS.f]
  exact evPos (by trivial) (eqClaimS_l0 xs hn xs [] 0 rfl rfl)


def upS_Claim : Nat → Int → List S54
  | 0, _ => []
  | c + 1, m => ⟨m, m + 1, m + 2⟩ :: upS_Claim c (m + 3)
theorem upS_Claim_length : ∀ (c : Nat) (m : Int), (upS_Claim c m).length = c
  | 0, _ => rfl
  | c + 1, m => by simp [upS_Claim, upS_Claim_length c]
theorem markClaimS_l0 : ∀ (rest pre : List S54) (xs : List S54) (m i : Int), xs = pre ++ rest → i = pre.length → 0 ≤ m → m + 3 * rest.length ≤ 9223372036854775807 → pre.length + rest.length ≤ 9223372036854775806 →
    Ev (fun k => laws_markClaimS.l0 k xs m i) (m + 3 * rest.length, pre ++ upS_Claim rest.length m) := by
  intro rest
  induction rest with
  | nil =>
    intro pre xs m i h hi h0 h1 h2
    have hl := len_nil h
    refine evSucc ?_
    simp only [laws_markClaimS.l0]
    refine evNeg (by omega) ?_
    exact evSome (by simp [h, upS_Claim])
  | cons a t ih =>
    intro pre xs m i h hi h0 h1 h2
    have hl := len_cons h
    subst h
    simp only [List.length_cons] at h1 h2
    have hrd : ∀ b : S54, rd_T54 (pre ++ b :: t) i = b := fun b => rd_T54_at rfl hi
    have hset : ∀ b c : S54, (pre ++ b :: t).set i.toNat c = pre ++ c :: t := fun b c => set_at rfl hi
    have w1 : wrap64 (m + 1) = m + 1 := (wrapId (by omega)).trans (by omega)
    have w2 : wrap64 (m + 1 + 1) = m + 2 := (wrapId (by omega)).trans (by omega)
    have w3 : wrap64 (m + 2 + 1) = m + 3 := (wrapId (by omega)).trans (by omega)
    refine evSucc ?_
    simp only [laws_markClaimS.l0, Option.bind_some, hrd, hset, w1, w2, w3]
    refine evPos (by omega) ?_
    refine evPos (by omega) ?_
    refine evEq (ih (pre ++ [⟨m, m + 1, m + 2⟩]) _ (m + 3) _ (by simp) ?_ ?_ ?_ ?_) ?_
    · rw [wrapId (by omega), len_snoc]; omega
    · omega
    · omega
    · simp; omega
    · simp [upS_Claim]; omega
theorem markClaimS_ev (xs : List S54) (m : Int) (h0 : 0 ≤ m) (h1 : m + 3 * xs.length ≤ 9223372036854775807) (h2 : xs.length ≤ 9223372036854775806) : Ev (fun k => laws_markClaimS.f k xs m) (m + 3 * xs.length, upS_Claim xs.length m) := by
  simp only [laws_markClaimS.f]
  exact evEq (markClaimS_l0 xs [] xs m 0 rfl rfl h0 h1 (by simpa using h2)) (by simp)

theorem within_eq (a b c : Int) : impl_within.f a b c = some (decide (b ≤ a ∧ a ≤ c)) := by
  unfold impl_within.f
  by_cases h : a ≥ b
  · rw [if_pos h]; exact congrArg some (decide_eq_decide.mpr ⟨fun g => ⟨h, g⟩, fun g => g.2⟩)
  · rw [if_neg h]; exact congrArg some (decide_eq_false (fun g => h g.1)).symm
theorem l1In_eq (a b c : Int) : spec_l1In.f a b c = some (decide (b ≤ a ∧ a ≤ c)) := by
  unfold spec_l1In.f
  by_cases h : a ≥ b
  · rw [if_pos h]; exact congrArg some (decide_eq_decide.mpr ⟨fun g => ⟨h, g⟩, fun g => g.2⟩)
  · rw [if_neg h]; exact congrArg some (decide_eq_false (fun g => h g.1)).symm

theorem isAmount_eq (a : Int) : impl_isAmount.f a = some (decide (-1000000000 ≤ a ∧ a ≤ 1000000000)) := by
  unfold impl_isAmount.f; rw [within_eq]; rfl

def okC (p : Int) (a : S54) : Prop := (0 ≤ a.f0 ∧ a.f0 ≤ p - 1) ∧ (0 ≤ a.f1 ∧ a.f1 ≤ p - 1) ∧ a.f0 ≠ a.f1 ∧ (1 ≤ a.f2 ∧ a.f2 ≤ 1000000000)
instance (p : Int) (a : S54) : Decidable (okC p a) := by unfold okC; infer_instance
def sumC : List S54 → Int
  | [] => 0
  | a :: t => a.f2 + sumC t
theorem sumC_snoc (p : List S54) (a : S54) : sumC (p ++ [a]) = sumC p + a.f2 := by
  induction p with
  | nil => simp [sumC]
  | cons b t ih => simp only [List.cons_append, sumC, ih]; omega
theorem sumC_append (p q : List S54) : sumC (p ++ q) = sumC p + sumC q := by
  induction p with
  | nil => simp [sumC]
  | cons b t ih => simp only [List.cons_append, sumC, ih]; omega
theorem sumC_bd {n : Int} (p : List S54) (h : ∀ a ∈ p, okC n a) : 0 ≤ sumC p ∧ sumC p ≤ 1000000000 * p.length := by
  induction p with
  | nil => simp [sumC]
  | cons b t ih =>
    have h1 := ih (fun a ha => h a (List.mem_cons_of_mem _ ha))
    have h2 := (h b List.mem_cons_self).2.2.2
    simp only [sumC, List.length_cons]
    omega
def goodC (xs : List S54) (p : Int) : Bool := decide ((2 ≤ p ∧ p ≤ 8) ∧ xs.length ≤ 20 ∧ (∀ a ∈ xs, okC p a) ∧ sumC xs ≤ 1000000000)
theorem okC_snoc {n : Int} {pre : List S54} {a : S54} (hok : ∀ b ∈ pre, okC n b) (ha : okC n a) : ∀ b ∈ pre ++ [a], okC n b := by
  intro b hb
  rcases List.mem_append.mp hb with g | g
  · exact hok b g
  · rw [List.mem_singleton.mp g]; exact ha
theorem implValidC_l0 (p : Int) (hp : 2 ≤ p ∧ p ≤ 8) (xs : List S54) (hn : xs.length ≤ 20) : ∀ (rest pre : List S54) (i : Int), xs = pre ++ rest → i = pre.length → (∀ a ∈ pre, okC p a) → Ev (fun k => impl_IsValidClaims.l0 k p (sumC pre) xs (xs.length : Int) i) (goodC xs p) := by
  have hw : wrap64 (p - 1) = p - 1 := wrapId (by omega)
  intro rest
  induction rest with
  | nil =>
    intro pre i h hi hok
    have hl := len_nil h
    have hx : xs = pre := by simpa using h
    have hb := sumC_bd pre hok
    refine evSucc ?_
    simp only [impl_IsValidClaims.l0, isAmount_eq, Option.bind_some]
    refine evNeg (by omega) ?_
    refine evSome ?_
    unfold goodC
    rw [decide_eq_decide, hx]
    exact ⟨fun g => ⟨hp, by rw [← hx]; exact hn, hok, g.2⟩, fun g => ⟨by omega, g.2.2.2⟩⟩
  | cons a t ih =>
    intro pre i h hi hok
    have hl := len_cons h
    have hb := sumC_bd pre hok
    have ha : a ∈ xs := by rw [h]; simp
    refine evSucc ?_
    simp only [impl_IsValidClaims.l0, within_eq, Option.bind_some, decide_eq_true_eq, rd_T54_at h hi, hw]
    refine evPos (by omega) ?_
    refine evPos (by omega) ?_
    refine evPos (by omega) ?_
    have bad : ¬ okC p a → false = goodC xs p := fun n => (decide_eq_false (fun g => n (g.2.2.1 a ha))).symm
    refine evIte (fun c1 => ?_) (fun c1 => evSome (bad (fun g => c1 g.1)))
    refine evIte (fun c2 => ?_) (fun c2 => evSome (bad (fun g => c2 g.2.1)))
    refine evIte (fun c3 => evSome (bad (fun g => g.2.2.1 c3))) (fun c3 => ?_)
    refine evIte (fun c4 => ?_) (fun c4 => evSome (bad (fun g => c4 g.2.2.2)))
    have e : wrap64 (sumC pre + a.f2) = sumC (pre ++ [a]) := by rw [sumC_snoc, wrapId (by omega)]
    rw [e]
    exact ih (pre ++ [a]) _ (snoc h) (by rw [wrapId (by omega), len_snoc]; omega) (okC_snoc hok ⟨c1, c2, c3, c4⟩)
theorem implValidC_ev (xs : List S54) (p : Int) (hn : xs.length ≤ 1048576) : Ev (fun k => impl_IsValidClaims.f k xs p) (goodC xs p) := by
  simp only [impl_IsValidClaims.f, within_eq, Option.bind_some, decide_eq_true_eq]
  refine evIte (fun c1 => ?_) (fun c1 => ?_)
  · refine evSucc ?_
    simp only [impl_IsValidClaims.j0, decide_eq_true_eq]
    refine evIte (fun c2 => ?_) (fun c2 => ?_)
    · exact evSome (decide_eq_false (fun g => by have := g.2.1; omega)).symm
    · exact implValidC_l0 p c1 xs (by omega) xs [] 0 rfl rfl (by simp)
  · refine evSucc ?_
    simp only [impl_IsValidClaims.j0]
    exact evPos (by trivial) (evSome (decide_eq_false (fun g => c1 g.1)).symm)
theorem specGross_l0 (p : Int) (xs : List S54) (hn : xs.length ≤ 20) (hok : ∀ a ∈ xs, okC p a) : ∀ (rest pre : List S54) (i : Int), xs = pre ++ rest → i = pre.length → Ev (fun k => spec_l16Gross.l0 k xs (sumC pre) i) (sumC xs) := by
  intro rest
  induction rest with
  | nil =>
    intro pre i h hi
    have hl := len_nil h
    refine evSucc ?_
    simp only [spec_l16Gross.l0]
    refine evNeg (by omega) ?_
    exact evSome (by rw [h]; simp)
  | cons a t ih =>
    intro pre i h hi
    have hl := len_cons h
    have hp : ∀ b ∈ pre, okC p b := fun b hb => hok b (by rw [h]; simp [hb])
    have hb := sumC_bd pre hp
    have ha := (hok a (by rw [h]; simp)).2.2.2
    refine evSucc ?_
    simp only [spec_l16Gross.l0, rd_T54_at h hi]
    refine evPos (by omega) ?_
    refine evPos (by omega) ?_
    have e : wrap64 (sumC pre + a.f2) = sumC (pre ++ [a]) := by rw [sumC_snoc, wrapId (by omega)]
    rw [e]
    exact ih (pre ++ [a]) _ (snoc h) (by rw [wrapId (by omega), len_snoc]; omega)
theorem specGross_ev (p : Int) (xs : List S54) (hn : xs.length ≤ 20) (hok : ∀ a ∈ xs, okC p a) : Ev (fun k => spec_l16Gross.f k xs) (sumC xs) := by
  simp only [spec_l16Gross.f]
  exact specGross_l0 p xs hn hok xs [] 0 rfl rfl
theorem specGoodC_l0 (p : Int) (hp : 2 ≤ p ∧ p ≤ 8) (xs : List S54) (hn : xs.length ≤ 20) : ∀ (rest pre : List S54) (i : Int), xs = pre ++ rest → i = pre.length → (∀ a ∈ pre, okC p a) → Ev (fun k => spec_l16Good.l0 k xs p i) (goodC xs p) := by
  have hw : wrap64 (p - 1) = p - 1 := wrapId (by omega)
  intro rest
  induction rest with
  | nil =>
    intro pre i h hi hok
    have hl := len_nil h
    have hx : xs = pre := by simpa using h
    refine evSucc ?_
    simp only [spec_l16Good.l0]
    refine evNeg (by omega) ?_
    refine evBind (specGross_ev p xs hn (by rw [hx]; exact hok)) (evSome ?_)
    unfold goodC
    rw [decide_eq_decide]
    exact ⟨fun g => ⟨hp, hn, by rw [hx]; exact hok, g⟩, fun g => g.2.2.2⟩
  | cons a t ih =>
    intro pre i h hi hok
    have hl := len_cons h
    have ha : a ∈ xs := by rw [h]; simp
    refine evSucc ?_
    simp only [spec_l16Good.l0, l1In_eq, Option.bind_some, decide_eq_true_eq, rd_T54_at h hi, hw]
    refine evPos (by omega) ?_
    refine evPos (by omega) ?_
    have bad : ¬ okC p a → false = goodC xs p := fun n => (decide_eq_false (fun g => n (g.2.2.1 a ha))).symm
    refine evIte (fun c1 => ?_) (fun c1 => evSome (bad (fun g => c1 g.1)))
    refine evIte (fun c2 => ?_) (fun c2 => evSome (bad (fun g => c2 g.2.1)))
    refine evIte (fun c3 => evSome (bad (fun g => g.2.2.1 c3))) (fun c3 => ?_)
    refine evIte (fun c4 => ?_) (fun c4 => evSome (bad (fun g => c4 g.2.2.2)))
    exact ih (pre ++ [a]) _ (snoc h) (by rw [wrapId (by omega), len_snoc]; omega) (okC_snoc hok ⟨c1, c2, c3, c4⟩)
theorem specGoodC_ev (xs : List S54) (p : Int) (hn : xs.length ≤ 1048576) : Ev (fun k => spec_l16Good.f k xs p) (goodC xs p) := by
  simp only [spec_l16Good.f, l1In_eq, Option.bind_some, decide_eq_true_eq]
  refine evIte (fun c1 => ?_) (fun c1 => ?_)
  · refine evSucc ?_
    simp only [spec_l16Good.j0, decide_eq_true_eq]
    refine evIte (fun c2 => ?_) (fun c2 => ?_)
    · exact evSome (decide_eq_false (fun g => by have := g.2.1; omega)).symm
    · exact specGoodC_l0 p c1 xs (by omega) xs [] 0 rfl rfl (by simp)
  · refine evSucc ?_
    simp only [spec_l16Good.j0]
    exact evPos (by trivial) (evSome (decide_eq_false (fun g => c1 g.1)).symm)

def posStep (out : List Int) (a : S54) : List Int :=
  (out.set a.f0.toNat (wrap64 (rd out a.f0 - a.f2))).set a.f1.toNat (wrap64 (rd (out.set a.f0.toNat (wrap64 (rd out a.f0 - a.f2))) a.f1 + a.f2))
def posFold : List Int → List S54 → List Int
  | out, [] => out
  | out, a :: t => posFold (posStep out a) t
theorem posStep_length (out : List Int) (a : S54) : (posStep out a).length = out.length := by simp [posStep]
theorem posFold_length : ∀ (xs : List S54) (out : List Int), (posFold out xs).length = out.length
  | [], _ => rfl
  | a :: t, out => by rw [posFold, posFold_length t, posStep_length]
def lsum : List Int → Int
  | [] => 0
  | x :: t => x + lsum t
theorem lsum_set : ∀ (l : List Int) (i : Nat) (v : Int), i < l.length → lsum (l.set i v) = lsum l - l.getD i 0 + v
  | [], _, _, h => by simp at h
  | x :: t, 0, v, _ => by simp [lsum]; omega
  | x :: t, i + 1, v, h => by
    have := lsum_set t i v (by simpa using h)
    simp only [List.set_cons_succ, lsum, this, List.getD_cons_succ]
    omega
theorem lsum_replicate : ∀ m : Nat, lsum (List.replicate m 0) = 0
  | 0 => rfl
  | m + 1 => by rw [List.replicate_succ, lsum, lsum_replicate m]; rfl
theorem mem_set_or {l : List Int} {i : Nat} {v x : Int} (h : x ∈ l.set i v) : x ∈ l ∨ x = v := by
  rcases List.mem_or_eq_of_mem_set h with h | h
  · exact .inl h
  · exact .inr h
theorem rd_mem {l : List Int} {i : Int} (h0 : 0 ≤ i) (h1 : i < l.length) : rd l i ∈ l := by
  rw [rd, List.getD_eq_getElem?_getD, List.getElem?_eq_getElem (by omega)]
  exact List.getElem_mem _
/-- Positions add up to nothing, and none is greater than the sum of all claims. -/
theorem posFold_facts (m : Nat) (xs : List S54) (hok : ∀ a ∈ xs, okC m a) (hs : sumC xs ≤ 1000000000) : ∀ (rest pre : List S54) (out : List Int), xs = pre ++ rest → out.length = m → lsum out = 0 → (∀ x ∈ out, -sumC pre ≤ x ∧ x ≤ sumC pre) →
    lsum (posFold out rest) = 0 ∧ (∀ x ∈ posFold out rest, -1000000000 ≤ x ∧ x ≤ 1000000000) := by
  intro rest
  induction rest with
  | nil =>
    intro pre out h ho hl hb
    have e : xs = pre := by simpa using h
    refine ⟨hl, fun x hx => ?_⟩
    have := hb x hx
    rw [← e] at this
    omega
  | cons a t ih =>
    intro pre out h ho hl hb
    have ha := hok a (by rw [h]; simp)
    have h1 := ha.1
    have h2 := ha.2.1
    have h3 := ha.2.2.1
    have h4 := ha.2.2.2
    have hp : 0 ≤ sumC pre := (sumC_bd pre (fun b hb => hok b (by rw [h]; simp [hb]))).1
    have ht : 0 ≤ sumC t := (sumC_bd t (fun b hb => hok b (by rw [h]; simp [hb]))).1
    have hall : sumC pre + a.f2 + sumC t = sumC xs := by rw [h, sumC_append, sumC]; omega
    have b0 := hb _ (rd_mem (l := out) (i := a.f0) (by omega) (by omega))
    have e0 : wrap64 (rd out a.f0 - a.f2) = rd out a.f0 - a.f2 := wrapId (by omega)
    obtain ⟨o1, ho1⟩ : ∃ o, o = out.set a.f0.toNat (rd out a.f0 - a.f2) := ⟨_, rfl⟩
    have l1 : o1.length = m := by rw [ho1, List.length_set]; exact ho
    have m1 : ∀ x ∈ o1, -(sumC pre + a.f2) ≤ x ∧ x ≤ sumC pre + a.f2 := by
      intro x hx
      rw [ho1] at hx
      rcases mem_set_or hx with g | g
      · have := hb x g; omega
      · omega
    have q1 : rd o1 a.f1 = rd out a.f1 := by
      rw [ho1]
      simp only [rd, List.getD_eq_getElem?_getD]
      rw [List.getElem?_set_ne (by omega)]
    have b1 := hb _ (rd_mem (l := out) (i := a.f1) (by omega) (by omega))
    have e1 : wrap64 (rd o1 a.f1 + a.f2) = rd o1 a.f1 + a.f2 := by rw [q1]; exact wrapId (by omega)
    have hstep : posStep out a = o1.set a.f1.toNat (rd o1 a.f1 + a.f2) := by
      unfold posStep
      rw [e0, ← ho1, e1]
    unfold posFold
    rw [hstep]
    refine ih (pre ++ [a]) _ (snoc h) (by rw [List.length_set]; exact l1) ?_ ?_
    · have z1 : lsum o1 = lsum out - rd out a.f0 + (rd out a.f0 - a.f2) := by rw [ho1]; exact lsum_set out a.f0.toNat _ (by omega)
      have z2 := lsum_set o1 a.f1.toNat (rd o1 a.f1 + a.f2) (by omega)
      have z3 : o1.getD a.f1.toNat 0 = rd o1 a.f1 := rfl
      omega
    · intro x hx
      rw [sumC_snoc]
      rcases mem_set_or hx with g | g
      · exact m1 x g
      · rw [q1] at g; omega

def netA (xs : List S54) (p : Int) : List Int × Bool := if goodC xs p = true then (posFold (List.replicate p.toNat 0) xs, true) else ([], false)
theorem netA_len (xs : List S54) (p : Int) : (netA xs p).1.length ≤ 8 := by
  unfold netA
  split
  · rename_i c
    have g := of_decide_eq_true c
    simp only [posFold_length, List.length_replicate]; omega
  · simp
end Go.Proofs.Ytaobdjdmmhglaaa.Pure
