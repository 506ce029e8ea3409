/- The plain law of FnExactSettleTogether: the printed functions that it uses answer as plain Lean functions do. No other condition. -/
import Derived.Test.YtaobdjdmmhglaaaPFnExactSettleInOrderx0
import Derived.Test.YtaobdjdmmhglaaaPFnExactSettleInOrderx1
import Derived.Test.YtaobdjdmmhglaaaPFnExactSettleInOrderx2
import Derived.Test.YtaobdjdmmhglaaaPFnExactSettleInOrderx3
import Derived.Test.YtaobdjdmmhglaaaPFnExactSettleInOrderx5
import Derived.Test.YtaobdjdmmhglaaaEvKit
import Derived.Test.YtaobdjdmmhglaaaKReads
import Derived.Lib.Slices
namespace Go.Proofs.Ytaobdjdmmhglaaa.Pure
open Go.RowKit Go.Proofs.YtaobdjdmmhglaaaW.PrintWords Go.Proofs.YtaobdjdmmhglaaaW.PrintLast Go.Proofs.YtaobdjdmmhglaaaW.PrintMore Go.Proofs.Ytaobdjdmmhglaaa.PFnExactSettleInOrder Go.Proofs.Ytaobdjdmmhglaaa.EvKit
set_option linter.unusedVariables false
set_option linter.unusedSimpArgs false

theorem toIntS_l0 (xs : List Int) (hn : xs.length ≤ 1048576) : ∀ (rest pre : List Int) (cur : List Int) (i : Int), xs = pre ++ rest → i = pre.length → (∃ tl : List Int, tl.length = rest.length ∧ cur = pre ++ tl) →
    Ev (fun k => laws_toIntS.l0 k xs cur i) xs := by
  intro rest
  induction rest with
  | nil =>
    intro pre cur i h hi hc
    obtain ⟨tl, ht, rfl⟩ := hc
    have hl := len_nil h
    refine evSucc ?_
    simp only [laws_toIntS.l0]
    refine evNeg (by omega) ?_
    refine evSome ?_
    have : tl = [] := List.length_eq_zero_iff.mp ht
    subst this
    rw [h]
  | cons a t ih =>
    intro pre cur i h hi hc
    obtain ⟨tl, ht, hcur⟩ := hc
    have hl := len_cons h
    obtain ⟨b, tl, rfl⟩ : ∃ b tl', tl = b :: tl' := by
      cases tl with
      | nil => simp at ht
      | cons b tl => exact ⟨b, tl, rfl⟩
    have hcl := len_cons hcur
    refine evSucc ?_
    simp only [laws_toIntS.l0]
    refine evPos (by omega) ?_
    refine evPos (by omega) ?_
    simp only [rd_at h hi]
    refine evPos (by omega) ?_
    refine ih (pre ++ [a]) _ _ (snoc h) ?_ ⟨tl, by simpa using ht, ?_⟩
    · rw [wrapId (by omega), len_snoc]; omega
    · rw [set_at hcur hi]; simp
theorem toIntS_ev (xs : List Int) (hn : xs.length ≤ 1048576) : Ev (fun k => laws_toIntS.f k xs) xs := by
  simp only [laws_toIntS.f]
  refine evPos (by omega) ?_
  refine evPos (by omega) ?_
  exact toIntS_l0 xs hn xs [] _ 0 rfl rfl ⟨List.replicate xs.length 0, by simp, by simp⟩


theorem eqIntS_l0 (xs : List Int) (hn : xs.length ≤ 9223372036854775806) : ∀ (rest pre : List Int) (i : Int), xs = pre ++ rest → i = pre.length → Ev (fun k => laws_eqIntS.l0 k xs xs i) true := by
  intro rest
  induction rest with
  | nil =>
    intro pre i h hi
    have hl := len_nil h
    refine evSucc ?_
    simp only [laws_eqIntS.l0]
    refine evNeg (by omega) ?_
    exact evSome rfl
  | cons a t ih =>
    intro pre i h hi
    have hl := len_cons h
    refine evSucc ?_
    simp only [laws_eqIntS.l0]
    refine evPos (by omega) ?_
    refine evPos (by omega) ?_
    refine evPos (by omega) ?_
    refine evPos (by trivial) ?_
    exact ih (pre ++ [a]) _ (snoc h) (by rw [wrapId (by omega), len_snoc]; omega)
theorem eqIntS_ev (xs : List Int) (hn : xs.length ≤ 9223372036854775806) : Ev (fun k => laws_eqIntS.f k xs xs) true := by
  simp only [laws_eqIntS.f]
  exact evPos (by trivial) (eqIntS_l0 xs hn xs [] 0 rfl rfl)


def upFrom : Nat → Int → List Int
  | 0, _ => []
  | n + 1, m => m :: upFrom n (m + 1)
theorem upFrom_length : ∀ (n : Nat) (m : Int), (upFrom n m).length = n
  | 0, _ => rfl
  | n + 1, m => by simp [upFrom, upFrom_length n]
theorem markIntS_l0 : ∀ (rest pre : List Int) (xs : List Int) (m i : Int), xs = pre ++ rest → i = pre.length → 0 ≤ m → m + rest.length ≤ 9223372036854775807 → pre.length + rest.length ≤ 9223372036854775806 →
    Ev (fun k => laws_markIntS.l0 k xs m i) (m + rest.length, pre ++ upFrom rest.length m) := by
  intro rest
  induction rest with
  | nil =>
    intro pre xs m i h hi h0 h1 h2
    have hl := len_nil h
    refine evSucc ?_
    simp only [laws_markIntS.l0]
    refine evNeg (by omega) ?_
    exact evSome (by simp [h, upFrom])
  | cons a t ih =>
    intro pre xs m i h hi h0 h1 h2
    have hl := len_cons h
    simp only [List.length_cons] at h1 h2
    refine evSucc ?_
    simp only [laws_markIntS.l0]
    refine evPos (by omega) ?_
    refine evPos (by omega) ?_
    refine evEq (ih (pre ++ [m]) _ (wrap64 (m + 1)) _ ?_ ?_ ?_ ?_ ?_) ?_
    · rw [set_at h hi]; simp
    · rw [wrapId (by omega), len_snoc]; omega
    · rw [wrapId (by omega)]; omega
    · rw [wrapId (by omega)]; omega
    · simp; omega
    · rw [wrapId (by omega)]; simp [upFrom]; omega
theorem markIntS_ev (xs : List Int) (m : Int) (h0 : 0 ≤ m) (h1 : m + xs.length ≤ 9223372036854775807) (h2 : xs.length ≤ 9223372036854775806) : Ev (fun k => laws_markIntS.f k xs m) (m + xs.length, upFrom xs.length m) := by
  simp only [laws_markIntS.f]
  exact evEq (markIntS_l0 xs [] xs m 0 rfl rfl h0 h1 (by simpa using h2)) (by simp)


theorem heldIntS_l0 : ∀ (n : Nat) (pre : List Int) (xs : List Int) (m i : Int), xs = pre ++ upFrom n m → i = pre.length → 0 ≤ m → m + n ≤ 9223372036854775807 → pre.length + n ≤ 9223372036854775806 →
    Ev (fun k => laws_heldIntS.l0 k xs m i) (m + n) := by
  intro n
  induction n with
  | zero =>
    intro pre xs m i h hi h0 h1 h2
    have hl := len_nil h
    refine evSucc ?_
    simp only [laws_heldIntS.l0]
    refine evNeg (by omega) ?_
    exact evSome (by simp)
  | succ n ih =>
    intro pre xs m i h hi h0 h1 h2
    have h' : xs = pre ++ m :: upFrom n (m + 1) := h
    have hl := len_cons h'
    rw [upFrom_length] at hl
    refine evSucc ?_
    simp only [laws_heldIntS.l0, rd_at h' hi]
    refine evPos (by omega) ?_
    refine evPos (by omega) ?_
    refine evPos (by trivial) ?_
    refine evEq (ih (pre ++ [m]) _ (wrap64 (m + 1)) _ ?_ ?_ ?_ ?_ ?_) ?_
    · rw [wrapId (by omega)]; exact snoc h'
    · rw [wrapId (by omega), len_snoc]; omega
    · rw [wrapId (by omega)]; omega
    · rw [wrapId (by omega)]; omega
    · simp; omega
    · rw [wrapId (by omega)]; omega
theorem heldIntS_ev (n : Nat) (m : Int) (h0 : 0 ≤ m) (h1 : m + n ≤ 9223372036854775807) (h2 : n ≤ 9223372036854775806) : Ev (fun k => laws_heldIntS.f k (upFrom n m) m) (m + n) := by
  simp only [laws_heldIntS.f]
  exact heldIntS_l0 n [] _ m 0 rfl rfl h0 h1 (by simpa using h2)


theorem rd_T54_at {xs pre t : List S54} {a : S54} (h : xs = pre ++ a :: t) {i : Int} (hi : i = pre.length) : rd_T54 xs i = a := getD_at h hi


theorem rd_T56_at {xs pre t : List S56} {a : S56} (h : xs = pre ++ a :: t) {i : Int} (hi : i = pre.length) : rd_T56 xs i = a := getD_at h hi


def cv_Claim (x : S56) : S54 := ⟨x.f0, x.f1, x.f2⟩
theorem toClaimS_l0 (xs : List S56) (hn : xs.length ≤ 1048576) : ∀ (rest pre : List S56) (cur : List S54) (i : Int), xs = pre ++ rest → i = pre.length → (∃ tl : List S54, tl.length = rest.length ∧ cur = pre.map cv_Claim ++ tl) →
    Ev (fun k => laws_toClaimS.l0 k xs cur i) (xs.map cv_Claim) := by
  intro rest
  induction rest with
  | nil =>
    intro pre cur i h hi hc
    obtain ⟨tl, ht, rfl⟩ := hc
    have hl := len_nil h
    refine evSucc ?_
    simp only [laws_toClaimS.l0]
    refine evNeg (by omega) ?_
    refine evSome ?_
    have : tl = [] := List.length_eq_zero_iff.mp ht
    subst this
    rw [h]; simp
  | cons a t ih =>
    intro pre cur i h hi hc
    obtain ⟨tl, ht, hcur⟩ := hc
    have hl := len_cons h
    obtain ⟨b, tl, rfl⟩ : ∃ b tl', tl = b :: tl' := by
      cases tl with
      | nil => simp at ht
      | cons b tl => exact ⟨b, tl, rfl⟩
    have hcl := len_cons hcur
    simp at hcl
    refine evSucc ?_
    simp only [laws_toClaimS.l0]
    refine evPos (by omega) ?_
    refine evPos (by omega) ?_
    simp only [laws_toClaim.f, rd_T56_at h hi, Option.bind_some]
    refine evPos (by omega) ?_
    refine ih (pre ++ [a]) _ _ (snoc h) ?_ ⟨tl, by simpa using ht, ?_⟩
    · rw [wrapId (by omega), len_snoc]; omega
    · rw [set_at hcur (by simpa using hi)]; simp [cv_Claim]
theorem toClaimS_ev (xs : List S56) (hn : xs.length ≤ 1048576) : Ev (fun k => laws_toClaimS.f k xs) (xs.map cv_Claim) := by
  simp only [laws_toClaimS.f]
  refine evPos (by omega) ?_
  refine evPos (by omega) ?_
  exact toClaimS_l0 xs hn xs [] _ 0 rfl rfl ⟨List.replicate xs.length z54, by simp, by simp⟩
theorem szClaimS_eq (xs : List S56) (h : xs.length ≤ 9223372036854775807) : laws_szClaimS.f xs 1048576 = some (if xs.length ≤ 1048576 then 1048576 - (xs.length : Int) else -1) := by
  simp only [laws_szClaimS.f]
  rw [wrapId (by omega)]
  by_cases c : xs.length ≤ 1048576
  · rw [if_neg (by omega), if_pos c]
  · rw [if_pos (by omega), if_neg c]


theorem eqClaimS_l0 (xs : List S54) (hn : xs.length ≤ 9223372036854775806) : ∀ (rest pre : List S54) (i : Int), xs = pre ++ rest → i = pre.length → Ev (fun k => laws_eqClaimS.l0 k xs xs i) true := by
  intro rest
  induction rest with
  | nil =>
    intro pre i h hi
    have hl := len_nil h
    refine evSucc ?_
    simp only [laws_eqClaimS.l0]
    refine evNeg (by omega) ?_
    exact evSome rfl
  | cons a t ih =>
    intro pre i h hi
    have hl := len_cons h
    refine evSucc ?_
    simp only [laws_eqClaimS.l0]
    refine evPos (by omega) ?_
    refine evPos (by omega) ?_
    refine evPos (by omega) ?_
    refine evBindS (a := true) (by simp [laws_eqClaim.f]) ?_
    refine evPos (by trivial) ?_
    exact ih (pre ++ [a]) _ (snoc h) (by rw [wrapId (by omega), len_snoc]; omega)
theorem eqClaimS_ev (xs : List S54) (hn : xs.length ≤ 9223372036854775806) : Ev (fun k => laws_eqClaimS.f k xs xs) true := by
  simp only [laws_eqClaimS.f]
  exact evPos (by trivial) (eqClaimS_l0 xs hn xs [] 0 rfl rfl)


def upS_Claim : Nat → Int → List S54
  | 0, _ => []
  | c + 1, m => ⟨m, m + 1, m + 2⟩ :: upS_Claim c (m + 3)
theorem upS_Claim_length : ∀ (c : Nat) (m : Int), (upS_Claim c m).length = c
  | 0, _ => rfl
  | c + 1, m => by simp [upS_Claim, upS_Claim_length c]
theorem markClaimS_l0 : ∀ (rest pre : List S54) (xs : List S54) (m i : Int), xs = pre ++ rest → i = pre.length → 0 ≤ m → m + 3 * rest.length ≤ 9223372036854775807 → pre.length + rest.length ≤ 9223372036854775806 →
    Ev (fun k => laws_markClaimS.l0 k xs m i) (m + 3 * rest.length, pre ++ upS_Claim rest.length m) := by
  intro rest
  induction rest with
  | nil =>
    intro pre xs m i h hi h0 h1 h2
    have hl := len_nil h
    refine evSucc ?_
    simp only [laws_markClaimS.l0]
    refine evNeg (by omega) ?_
    exact evSome (by simp [h, upS_Claim])
  | cons a t ih =>
    intro pre xs m i h hi h0 h1 h2
    have hl := len_cons h
    subst h
    simp only [List.length_cons] at h1 h2
    have hrd : ∀ b : S54, rd_T54 (pre ++ b :: t) i = b := fun b => rd_T54_at rfl hi
    have hset : ∀ b c : S54, (pre ++ b :: t).set i.toNat c = pre ++ c :: t := fun b c => set_at rfl hi
    have w1 : wrap64 (m + 1) = m + 1 := (wrapId (by omega)).trans (by omega)
    have w2 : wrap64 (m + 1 + 1) = m + 2 := (wrapId (by omega)).trans (by omega)
    have w3 : wrap64 (m + 2 + 1) = m + 3 := (wrapId (by omega)).trans (by omega)
    refine evSucc ?_
    simp only [laws_markClaimS.l0, Option.bind_some, hrd, hset, w1, w2, w3]
    refine evPos (by omega) ?_
    refine evPos (by omega) ?_
    refine evEq (ih (pre ++ [⟨m, m + 1, m + 2⟩]) _ (m + 3) _ (by simp) ?_ ?_ ?_ ?_) ?_
    · rw [wrapId (by omega), len_snoc]; omega
    · omega
    · omega
    · simp; omega
    · simp [upS_Claim]; omega
theorem markClaimS_ev (xs : List S54) (m : Int) (h0 : 0 ≤ m) (h1 : m + 3 * xs.length ≤ 9223372036854775807) (h2 : xs.length ≤ 9223372036854775806) : Ev (fun k => laws_markClaimS.f k xs m) (m + 3 * xs.length, upS_Claim xs.length m) := by
  simp only [laws_markClaimS.f]
  exact evEq (markClaimS_l0 xs [] xs m 0 rfl rfl h0 h1 (by simpa using h2)) (by simp)

theorem within_eq (a b c : Int) : impl_within.f a b c = some (decide (b ≤ a ∧ a ≤ c)) := by
  unfold impl_within.f
  by_cases h : a ≥ b
  · rw [if_pos h]; exact congrArg some (decide_eq_decide.mpr ⟨fun g => ⟨h, g⟩, fun g => g.2⟩)
  · rw [if_neg h]; exact congrArg some (decide_eq_false (fun g => h g.1)).symm
theorem l1In_eq (a b c : Int) : spec_l1In.f a b c = some (decide (b ≤ a ∧ a ≤ c)) := by
  unfold spec_l1In.f
  by_cases h : a ≥ b
  · rw [if_pos h]; exact congrArg some (decide_eq_decide.mpr ⟨fun g => ⟨h, g⟩, fun g => g.2⟩)
  · rw [if_neg h]; exact congrArg some (decide_eq_false (fun g => h g.1)).symm

theorem isAmount_eq (a : Int) : impl_isAmount.f a = some (decide (-1000000000 ≤ a ∧ a ≤ 1000000000)) := by
  unfold impl_isAmount.f; rw [within_eq]; rfl

def okC (p : Int) (a : S54) : Prop := (0 ≤ a.f0 ∧ a.f0 ≤ p - 1) ∧ (0 ≤ a.f1 ∧ a.f1 ≤ p - 1) ∧ a.f0 ≠ a.f1 ∧ (1 ≤ a.f2 ∧ a.f2 ≤ 1000000000)
instance (p : Int) (a : S54) : Decidable (okC p a) := by unfold okC; infer_instance
def sumC : List S54 → Int
  | [] => 0
  | a :: t => a.f2 + sumC t
theorem sumC_snoc (p : List S54) (a : S54) : sumC (p ++ [a]) = sumC p + a.f2 := by
  induction p with
  | nil => simp [sumC]
  | cons b t ih => simp only [List.cons_append, sumC, ih]; omega
theorem sumC_append (p q : List S54) : sumC (p ++ q) = sumC p + sumC q := by
  induction p with
  | nil => simp [sumC]
  | cons b t ih => simp only [List.cons_append, sumC, ih]; omega
theorem sumC_bd {n : Int} (p : List S54) (h : ∀ a ∈ p, okC n a) : 0 ≤ sumC p ∧ sumC p ≤ 1000000000 * p.length := by
  induction p with
  | nil => simp [sumC]
  | cons b t ih =>
    have h1 := ih (fun a ha => h a (List.mem_cons_of_mem _ ha))
    have h2 := (h b List.mem_cons_self).2.2.2
    simp only [sumC, List.length_cons]
    omega
def goodC (xs : List S54) (p : Int) : Bool := decide ((2 ≤ p ∧ p ≤ 8) ∧ xs.length ≤ 20 ∧ (∀ a ∈ xs, okC p a) ∧ sumC xs ≤ 1000000000)
theorem okC_snoc {n : Int} {pre : List S54} {a : S54} (hok : ∀ b ∈ pre, okC n b) (ha : okC n a) : ∀ b ∈ pre ++ [a], okC n b := by
  intro b hb
  rcases List.mem_append.mp hb with g | g
  · exact hok b g
  · rw [List.mem_singleton.mp g]; exact ha
theorem implValidC_l0 (p : Int) (hp : 2 ≤ p ∧ p ≤ 8) (xs : List S54) (hn : xs.length ≤ 20) : ∀ (rest pre : List S54) (i : Int), xs = pre ++ rest → i = pre.length → (∀ a ∈ pre, okC p a) → Ev (fun k => impl_IsValidClaims.l0 k p (sumC pre) xs (xs.length : Int) i) (goodC xs p) := by
  have hw : wrap64 (p - 1) = p - 1 := wrapId (by omega)
  intro rest
  induction rest with
  | nil =>
    intro pre i h hi hok
    have hl := len_nil h
    have hx : xs = pre := by simpa using h
    have hb := sumC_bd pre hok
    refine evSucc ?_
    simp only [impl_IsValidClaims.l0, isAmount_eq, Option.bind_some]
    refine evNeg (by omega) ?_
    refine evSome ?_
    unfold goodC
    rw [decide_eq_decide, hx]
    exact ⟨fun g => ⟨hp, by rw [← hx]; exact hn, hok, g.2⟩, fun g => ⟨by omega, g.2.2.2⟩⟩
  | cons a t ih =>
    intro pre i h hi hok
    have hl := len_cons h
    have hb := sumC_bd pre hok
    have ha : a ∈ xs := by rw [h]; simp
    refine evSucc ?_
    simp only [impl_IsValidClaims.l0, within_eq, Option.bind_some, decide_eq_true_eq, rd_T54_at h hi, hw]
    refine evPos (by omega) ?_
    refine evPos (by omega) ?_
    refine evPos (by omega) ?_
    have bad : ¬ okC p a → false = goodC xs p := fun n => (decide_eq_false (fun g => n (g.2.2.1 a ha))).symm
    refine evIte (fun c1 => ?_) (fun c1 => evSome (bad (fun g => c1 g.1)))
    refine evIte (fun c2 => ?_) (fun c2 => evSome (bad (fun g => c2 g.2.1)))
    refine evIte (fun c3 => evSome (bad (fun g => g.2.2.1 c3))) (fun c3 => ?_)
    refine evIte (fun c4 => ?_) (fun c4 => evSome (bad (fun g => c4 g.2.2.2)))
    have e : wrap64 (sumC pre + a.f2) = sumC (pre ++ [a]) := by rw [sumC_snoc, wrapId (by omega)]
    rw [e]
    exact ih (pre ++ [a]) _ (snoc h) (by rw [wrapId (by omega), len_snoc]; omega) (okC_snoc hok ⟨c1, c2, c3, c4⟩)
theorem implValidC_ev (xs : List S54) (p : Int) (hn : xs.length ≤ 1048576) : Ev (fun k => impl_IsValidClaims.f k xs p) (goodC xs p) := by
  simp only [impl_IsValidClaims.f, within_eq, Option.bind_some, decide_eq_true_eq]
  refine evIte (fun c1 => ?_) (fun c1 => ?_)
  · refine evSucc ?_
    simp only [impl_IsValidClaims.j0, decide_eq_true_eq]
    refine evIte (fun c2 => ?_) (fun c2 => ?_)
    · exact evSome (decide_eq_false (fun g => by have := g.2.1; omega)).symm
    · exact implValidC_l0 p c1 xs (by omega) xs [] 0 rfl rfl (by simp)
  · refine evSucc ?_
    simp only [impl_IsValidClaims.j0]
    exact evPos (by trivial) (evSome (decide_eq_false (fun g => c1 g.1)).symm)
theorem specGross_l0 (p : Int) (xs : List S54) (hn : xs.length ≤ 20) (hok : ∀ a ∈ xs, okC p a) : ∀ (rest pre : List S54) (i : Int), xs = pre ++ rest → i = pre.length → Ev (fun k => spec_l16Gross.l0 k xs (sumC pre) i) (sumC xs) := by
  intro rest
  induction rest with
  | nil =>
    intro pre i h hi
    have hl := len_nil h
    refine evSucc ?_
    simp only [spec_l16Gross.l0]
    refine evNeg (by omega) ?_
    exact evSome (by rw [h]; simp)
  | cons a t ih =>
    intro pre i h hi
    have hl := len_cons h
    have hp : ∀ b ∈ pre, okC p b := fun b hb => hok b (by rw [h]; simp [hb])
    have hb := sumC_bd pre hp
    have ha := (hok a (by rw [h]; simp)).2.2.2
    refine evSucc ?_
    simp only [spec_l16Gross.l0, rd_T54_at h hi]
    refine evPos (by omega) ?_
    refine evPos (by omega) ?_
    have e : wrap64 (sumC pre + a.f2) = sumC (pre ++ [a]) := by rw [sumC_snoc, wrapId (by omega)]
    rw [e]
    exact ih (pre ++ [a]) _ (snoc h) (by rw [wrapId (by omega), len_snoc]; omega)
theorem specGross_ev (p : Int) (xs : List S54) (hn : xs.length ≤ 20) (hok : ∀ a ∈ xs, okC p a) : Ev (fun k => spec_l16Gross.f k xs) (sumC xs) := by
  simp only [spec_l16Gross.f]
  exact specGross_l0 p xs hn hok xs [] 0 rfl rfl
theorem specGoodC_l0 (p : Int) (hp : 2 ≤ p ∧ p ≤ 8) (xs : List S54) (hn : xs.length ≤ 20) : ∀ (rest pre : List S54) (i : Int), xs = pre ++ rest → i = pre.length → (∀ a ∈ pre, okC p a) → Ev (fun k => spec_l16Good.l0 k xs p i) (goodC xs p) := by
  have hw : wrap64 (p - 1) = p - 1 := wrapId (by omega)
  intro rest
  induction rest with
  | nil =>
    intro pre i h hi hok
    have hl := len_nil h
    have hx : xs = pre := by simpa using h
    refine evSucc ?_
    simp only [spec_l16Good.l0]
    refine evNeg (by omega) ?_
    refine evBind (specGross_ev p xs hn (by rw [hx]; exact hok)) (evSome ?_)
    unfold goodC
    rw [decide_eq_decide]
    exact ⟨fun g => ⟨hp, hn, by rw [hx]; exact hok, g⟩, fun g => g.2.2.2⟩
  | cons a t ih =>
    intro pre i h hi hok
    have hl := len_cons h
    have ha : a ∈ xs := by rw [h]; simp
    refine evSucc ?_
    simp only [spec_l16Good.l0, l1In_eq, Option.bind_some, decide_eq_true_eq, rd_T54_at h hi, hw]
    refine evPos (by omega) ?_
    refine evPos (by omega) ?_
    have bad : ¬ okC p a → false = goodC xs p := fun n => (decide_eq_false (fun g => n (g.2.2.1 a ha))).symm
    refine evIte (fun c1 => ?_) (fun c1 => evSome (bad (fun g => c1 g.1)))
    refine evIte (fun c2 => ?_) (fun c2 => evSome (bad (fun g => c2 g.2.1)))
    refine evIte (fun c3 => evSome (bad (fun g => g.2.2.1 c3))) (fun c3 => ?_)
    refine evIte (fun c4 => ?_) (fun c4 => evSome (bad (fun g => c4 g.2.2.2)))
    exact ih (pre ++ [a]) _ (snoc h) (by rw [wrapId (by omega), len_snoc]; omega) (okC_snoc hok ⟨c1, c2, c3, c4⟩)
theorem specGoodC_ev (xs : List S54) (p : Int) (hn : xs.length ≤ 1048576) : Ev (fun k => spec_l16Good.f k xs p) (goodC xs p) := by
  simp only [spec_l16Good.f, l1In_eq, Option.bind_some, decide_eq_true_eq]
  refine evIte (fun c1 => ?_) (fun c1 => ?_)
  · refine evSucc ?_
    simp only [spec_l16Good.j0, decide_eq_true_eq]
    refine evIte (fun c2 => ?_) (fun c2 => ?_)
    · exact evSome (decide_eq_false (fun g => by have := g.2.1; omega)).symm
    · exact specGoodC_l0 p c1 xs (by omega) xs [] 0 rfl rfl (by simp)
  · refine evSucc ?_
    simp only [spec_l16Good.j0]
    exact evPos (by trivial) (evSome (decide_eq_false (fun g => c1 g.1)).symm)

def posStep (out : List Int) (a : S54) : List Int :=
  (out.set a.f0.toNat (wrap64 (rd out a.f0 - a.f2))).set a.f1.toNat (wrap64 (rd (out.set a.f0.toNat (wrap64 (rd out a.f0 - a.f2))) a.f1 + a.f2))
def posFold : List Int → List S54 → List Int
  | out, [] => out
  | out, a :: t => posFold (posStep out a) t
theorem posStep_length (out : List Int) (a : S54) : (posStep out a).length = out.length := by simp [posStep]
theorem posFold_length : ∀ (xs : List S54) (out : List Int), (posFold out xs).length = out.length
  | [], _ => rfl
  | a :: t, out => by rw [posFold, posFold_length t, posStep_length]
def lsum : List Int → Int
  | [] => 0
  | x :: t => x + lsum t
theorem lsum_set : ∀ (l : List Int) (i : Nat) (v : Int), i < l.length → lsum (l.set i v) = lsum l - l.getD i 0 + v
  | [], _, _, h => by simp at h
  | x :: t, 0, v, _ => by simp [lsum]; omega
  | x :: t, i + 1, v, h => by
    have := lsum_set t i v (by simpa using h)
    simp only [List.set_cons_succ, lsum, this, List.getD_cons_succ]
    omega
theorem lsum_replicate : ∀ m : Nat, lsum (List.replicate m 0) = 0
  | 0 => rfl
  | m + 1 => by rw [List.replicate_succ, lsum, lsum_replicate m]; rfl
theorem mem_set_or {l : List Int} {i : Nat} {v x : Int} (h : x ∈ l.set i v) : x ∈ l ∨ x = v := by
  rcases List.mem_or_eq_of_mem_set h with h | h
  · exact .inl h
  · exact .inr h
theorem rd_mem {l : List Int} {i : Int} (h0 : 0 ≤ i) (h1 : i < l.length) : rd l i ∈ l := by
  rw [rd, List.getD_eq_getElem?_getD, List.getElem?_eq_getElem (by omega)]
  exact List.getElem_mem _
/-- Positions add up to nothing, and none is greater than the sum of all claims. -/
theorem posFold_facts (m : Nat) (xs : List S54) (hok : ∀ a ∈ xs, okC m a) (hs : sumC xs ≤ 1000000000) : ∀ (rest pre : List S54) (out : List Int), xs = pre ++ rest → out.length = m → lsum out = 0 → (∀ x ∈ out, -sumC pre ≤ x ∧ x ≤ sumC pre) →
    lsum (posFold out rest) = 0 ∧ (∀ x ∈ posFold out rest, -1000000000 ≤ x ∧ x ≤ 1000000000) := by
  intro rest
  induction rest with
  | nil =>
    intro pre out h ho hl hb
    have e : xs = pre := by simpa using h
    refine ⟨hl, fun x hx => ?_⟩
    have := hb x hx
    rw [← e] at this
    omega
  | cons a t ih =>
    intro pre out h ho hl hb
    have ha := hok a (by rw [h]; simp)
    have h1 := ha.1
    have h2 := ha.2.1
    have h3 := ha.2.2.1
    have h4 := ha.2.2.2
    have hp : 0 ≤ sumC pre := (sumC_bd pre (fun b hb => hok b (by rw [h]; simp [hb]))).1
    have ht : 0 ≤ sumC t := (sumC_bd t (fun b hb => hok b (by rw [h]; simp [hb]))).1
    have hall : sumC pre + a.f2 + sumC t = sumC xs := by rw [h, sumC_append, sumC]; omega
    have b0 := hb _ (rd_mem (l := out) (i := a.f0) (by omega) (by omega))
    have e0 : wrap64 (rd out a.f0 - a.f2) = rd out a.f0 - a.f2 := wrapId (by omega)
    obtain ⟨o1, ho1⟩ : ∃ o, o = out.set a.f0.toNat (rd out a.f0 - a.f2) := ⟨_, rfl⟩
    have l1 : o1.length = m := by rw [ho1, List.length_set]; exact ho
    have m1 : ∀ x ∈ o1, -(sumC pre + a.f2) ≤ x ∧ x ≤ sumC pre + a.f2 := by
      intro x hx
      rw [ho1] at hx
      rcases mem_set_or hx with g | g
      · have := hb x g; omega
      · omega
    have q1 : rd o1 a.f1 = rd out a.f1 := by
      rw [ho1]
      simp only [rd, List.getD_eq_getElem?_getD]
      rw [List.getElem?_set_ne (by omega)]
    have b1 := hb _ (rd_mem (l := out) (i := a.f1) (by omega) (by omega))
    have e1 : wrap64 (rd o1 a.f1 + a.f2) = rd o1 a.f1 + a.f2 := by rw [q1]; exact wrapId (by omega)
    have hstep : posStep out a = o1.set a.f1.toNat (rd o1 a.f1 + a.f2) := by
      unfold posStep
      rw [e0, ← ho1, e1]
    unfold posFold
    rw [hstep]
    refine ih (pre ++ [a]) _ (snoc h) (by rw [List.length_set]; exact l1) ?_ ?_
    · have z1 : lsum o1 = lsum out - rd out a.f0 + (rd out a.f0 - a.f2) := by rw [ho1]; exact lsum_set out a.f0.toNat _ (by omega)
      have z2 := lsum_set o1 a.f1.toNat (rd o1 a.f1 + a.f2) (by omega)
      have z3 : o1.getD a.f1.toNat 0 = rd o1 a.f1 := rfl
      omega
    · intro x hx
      rw [sumC_snoc]
      rcases mem_set_or hx with g | g
      · exact m1 x g
      · rw [q1] at g; omega

def goodB (bal : List Int) (p : Int) : Bool := decide ((bal.length : Int) = p ∧ ∀ x ∈ bal, 0 ≤ x ∧ x ≤ 1000000000)
theorem specBal_l0 (p : Int) (xs : List Int) (hn : xs.length ≤ 1048576) : ∀ (rest pre : List Int) (i : Int), xs = pre ++ rest → i = pre.length → (∀ x ∈ pre, 0 ≤ x ∧ x ≤ 1000000000) → Ev (fun k => spec_l16Balances.l0 k xs p i) (goodB xs p) := by
  intro rest
  induction rest with
  | nil =>
    intro pre i h hi hok
    have hl := len_nil h
    have hx : xs = pre := by simpa using h
    refine evSucc ?_
    simp only [spec_l16Balances.l0]
    refine evNeg (by omega) (evSome ?_)
    unfold goodB
    rw [Bool.eq_iff_iff, beq_iff_eq, decide_eq_true_iff, hx]
    exact ⟨fun g => ⟨g, hok⟩, fun g => g.1⟩
  | cons a t ih =>
    intro pre i h hi hok
    have hl := len_cons h
    have ha : rd xs i = a := rd_at h hi
    have hm : a ∈ xs := by rw [h]; simp
    refine evSucc ?_
    simp only [spec_l16Balances.l0, l1In_eq, Option.bind_some, decide_eq_true_eq, ha]
    refine evPos (by omega) ?_
    refine evPos (by omega) ?_
    refine evIte (fun c => ?_) (fun c => evSome (decide_eq_false (fun g => c (g.2 a hm))).symm)
    exact ih (pre ++ [a]) _ (snoc h) (by rw [wrapId (by omega), len_snoc]; omega) (fun x hx => by
      rcases List.mem_append.mp hx with q | q
      · exact hok x q
      · rw [List.mem_singleton.mp q]; exact c)
theorem specBal_ev (xs : List Int) (p : Int) (hn : xs.length ≤ 1048576) : Ev (fun k => spec_l16Balances.f k xs p) (goodB xs p) := by
  simp only [spec_l16Balances.f]
  exact specBal_l0 p xs hn xs [] 0 rfl rfl (by simp)
theorem specHas_l0 (x : Int) (xs : List Int) (hn : xs.length ≤ 1048576) : ∀ (rest pre : List Int) (i : Int), xs = pre ++ rest → i = pre.length → x ∉ pre → Ev (fun k => spec_l1Has.l0 k xs x i) (decide (x ∈ xs)) := by
  intro rest
  induction rest with
  | nil =>
    intro pre i h hi hok
    have hl := len_nil h
    have hx : xs = pre := by simpa using h
    refine evSucc ?_
    simp only [spec_l1Has.l0]
    refine evNeg (by omega) (evSome ?_)
    exact (decide_eq_false (by rw [hx]; exact hok)).symm
  | cons a t ih =>
    intro pre i h hi hok
    have hl := len_cons h
    have ha : rd xs i = a := rd_at h hi
    refine evSucc ?_
    simp only [spec_l1Has.l0, ha]
    refine evPos (by omega) ?_
    refine evPos (by omega) ?_
    refine evIte (fun c => evSome (decide_eq_true (by rw [h, ← c]; simp)).symm) (fun c => ?_)
    exact ih (pre ++ [a]) _ (snoc h) (by rw [wrapId (by omega), len_snoc]; omega) (fun q => by
      rcases List.mem_append.mp q with q | q
      · exact hok q
      · exact c (List.mem_singleton.mp q).symm)
theorem specHas_ev (xs : List Int) (x : Int) (hn : xs.length ≤ 1048576) : Ev (fun k => spec_l1Has.f k xs x) (decide (x ∈ xs)) := by
  simp only [spec_l1Has.f]
  exact specHas_l0 x xs hn xs [] 0 rfl rfl (by simp)
theorem ixOf_l0 (x : Int) (xs : List Int) (hn : xs.length ≤ 1048576) : ∀ (rest pre : List Int) (i : Int), xs = pre ++ rest → i = pre.length → x ∉ pre → ∃ r, Ev (fun k => slices_Index_int_int.l0 k xs x (xs.length : Int) i) r ∧ (0 ≤ r ↔ x ∈ xs) := by
  intro rest
  induction rest with
  | nil =>
    intro pre i h hi hok
    have hl := len_nil h
    have hx : xs = pre := by simpa using h
    refine ⟨-1, evSucc ?_, ⟨fun g => absurd g (by decide), fun g => absurd g (by rw [hx]; exact hok)⟩⟩
    simp only [slices_Index_int_int.l0]
    exact evNeg (by omega) (evSome rfl)
  | cons a t ih =>
    intro pre i h hi hok
    have hl := len_cons h
    have ha : rd xs i = a := rd_at h hi
    by_cases c : x = a
    · refine ⟨i, evSucc ?_, ⟨fun _ => by rw [h, c]; simp, fun _ => by omega⟩⟩
      simp only [slices_Index_int_int.l0, ha]
      refine evPos (by omega) ?_
      refine evPos (by omega) ?_
      refine evPos (by omega) ?_
      exact evPos c (evSome rfl)
    · obtain ⟨r, h1, h2⟩ := ih (pre ++ [a]) (wrap64 (i + 1)) (snoc h) (by rw [wrapId (by omega), len_snoc]; omega) (fun q => by
        rcases List.mem_append.mp q with q | q
        · exact hok q
        · exact c (List.mem_singleton.mp q))
      refine ⟨r, evSucc ?_, h2⟩
      simp only [slices_Index_int_int.l0, ha]
      refine evPos (by omega) ?_
      refine evPos (by omega) ?_
      refine evPos (by omega) ?_
      exact evNeg c h1
theorem contains_ev (xs : List Int) (x : Int) (hn : xs.length ≤ 1048576) : Ev (fun k => slices_Contains_int_int.f k xs x) (decide (x ∈ xs)) := by
  obtain ⟨r, h1, h2⟩ := ixOf_l0 x xs hn xs [] 0 rfl rfl (by simp)
  simp only [slices_Contains_int_int.f, slices_Index_int_int.f]
  exact evBind h1 (evSome (decide_eq_decide.mpr h2))
theorem own_eq (l : List Int) (h : l.length ≤ 1048576) : spec_l1Own.f l = some l := by
  unfold spec_l1Own.f
  simp only [Option.bind_some, List.nil_append, List.length_nil]
  rw [if_pos (by omega)]
/-- How many of the first n numbers are not in a list. -/
def miss : Nat → List Int → Nat
  | 0, _ => 0
  | n + 1, l => (if (n : Int) ∈ l then 0 else 1) + miss n l
theorem miss_nil : ∀ n, miss n [] = n
  | 0 => rfl
  | n + 1 => by rw [miss, miss_nil n]; simp; omega
theorem miss_ge (l : List Int) (i : Nat) : ∀ n, n ≤ i → miss n (l ++ [(i : Int)]) = miss n l
  | 0, _ => rfl
  | n + 1, h => by
    rw [miss, miss, miss_ge l i n (by omega)]
    congr 1
    by_cases c : (n : Int) ∈ l
    · rw [if_pos c, if_pos (by simp [c])]
    · rw [if_neg c, if_neg (by rw [List.mem_append, List.mem_singleton]; exact fun q => q.elim c (fun e => by omega))]
theorem miss_add {l : List Int} {i : Nat} (hi : (i : Int) ∉ l) : ∀ n, i < n → miss n (l ++ [(i : Int)]) + 1 = miss n l
  | 0, h => absurd h (Nat.not_lt_zero _)
  | n + 1, h => by
    by_cases e : n = i
    · subst e
      rw [miss, miss, miss_ge l n n (Nat.le_refl _), if_pos (by simp), if_neg hi]
      omega
    · have ih := miss_add hi n (by omega)
      rw [miss, miss]
      by_cases c : (n : Int) ∈ l
      · rw [if_pos c, if_pos (by simp [c])]; omega
      · rw [if_neg c, if_neg (by rw [List.mem_append, List.mem_singleton]; exact fun q => q.elim c (fun e => by omega))]; omega
/-- One pass over the claims. -/
def passS : List S54 → Int → List Int → List Int → Bool → Option (List Int × List Int × Bool)
  | [], _, out, bal, more => some (out, bal, more)
  | a :: t, i, out, bal, more => if i ∈ out ∨ rd bal a.f0 < a.f2 then passS t (i + 1) out bal more else if 1000000000 < rd (posStep bal a) a.f1 then none else passS t (i + 1) (out ++ [i]) (posStep bal a) true
def settleK (xs : List S54) : Nat → List Int → List Int → List Int × List Int × Bool
  | 0, _, _ => ([], [], false)
  | k + 1, out, bal => match passS xs 0 out bal false with
    | none => ([], [], false)
    | some (o, b, more) => if more = true then settleK xs k o b else (o, b, true)
def setA (xs : List S54) (p : Int) (bal : List Int) : List Int × List Int × Bool := if goodC xs p = true ∧ goodB bal p = true then settleK xs (xs.length + 1) [] bal else ([], [], false)
theorem posStep_ok {m : Nat} {bal : List Int} {a : S54} (ha : okC m a) (hl : bal.length = m) (hb : ∀ x ∈ bal, 0 ≤ x ∧ x ≤ 1000000000) (hc : ¬ rd bal a.f0 < a.f2) (hd : ¬ 1000000000 < rd (posStep bal a) a.f1) : ∀ x ∈ posStep bal a, 0 ≤ x ∧ x ≤ 1000000000 := by
  have h0 := ha.1
  have h1 := ha.2.1
  have hne := ha.2.2.1
  have h3 := ha.2.2.2
  have b0 := hb _ (rd_mem (l := bal) (i := a.f0) (by omega) (by omega))
  have e0 : wrap64 (rd bal a.f0 - a.f2) = rd bal a.f0 - a.f2 := wrapId (by omega)
  have b1 := hb _ (rd_mem (l := bal) (i := a.f1) (by omega) (by omega))
  have r1 : rd (bal.set a.f0.toNat (rd bal a.f0 - a.f2)) a.f1 = rd bal a.f1 := by
    rw [rd, rd, List.getD_eq_getElem?_getD, List.getElem?_set_ne (by omega), ← List.getD_eq_getElem?_getD]
    rfl
  have e1 : wrap64 (rd bal a.f1 + a.f2) = rd bal a.f1 + a.f2 := wrapId (by omega)
  have r2 : rd (posStep bal a) a.f1 = rd bal a.f1 + a.f2 := by
    unfold posStep
    rw [e0, r1, e1, rd, List.getD_eq_getElem?_getD, List.getElem?_set_self (by rw [List.length_set]; omega)]
    rfl
  rw [r2] at hd
  intro x hx
  unfold posStep at hx
  rw [e0, r1, e1] at hx
  rcases mem_set_or hx with g | g
  · rcases mem_set_or g with q | q
    · exact hb x q
    · omega
  · omega
theorem rd_posStep1 {m : Nat} {bal : List Int} {a : S54} (ha : okC m a) (hl : bal.length = m) (hb : ∀ x ∈ bal, 0 ≤ x ∧ x ≤ 1000000000) (hc : ¬ rd bal a.f0 < a.f2) : posStep bal a = (bal.set a.f0.toNat (rd bal a.f0 - a.f2)).set a.f1.toNat (rd bal a.f1 + a.f2) ∧ rd (bal.set a.f0.toNat (rd bal a.f0 - a.f2)) a.f1 = rd bal a.f1 ∧ rd (posStep bal a) a.f1 = rd bal a.f1 + a.f2 ∧ (0 ≤ rd bal a.f0 ∧ rd bal a.f0 ≤ 1000000000) ∧ (0 ≤ rd bal a.f1 ∧ rd bal a.f1 ≤ 1000000000) := by
  have h0 := ha.1
  have h1 := ha.2.1
  have hne := ha.2.2.1
  have h3 := ha.2.2.2
  have b0 := hb _ (rd_mem (l := bal) (i := a.f0) (by omega) (by omega))
  have e0 : wrap64 (rd bal a.f0 - a.f2) = rd bal a.f0 - a.f2 := wrapId (by omega)
  have b1 := hb _ (rd_mem (l := bal) (i := a.f1) (by omega) (by omega))
  have r1 : rd (bal.set a.f0.toNat (rd bal a.f0 - a.f2)) a.f1 = rd bal a.f1 := by
    rw [rd, rd, List.getD_eq_getElem?_getD, List.getElem?_set_ne (by omega), ← List.getD_eq_getElem?_getD]
    rfl
  have e1 : wrap64 (rd bal a.f1 + a.f2) = rd bal a.f1 + a.f2 := wrapId (by omega)
  have p1 : posStep bal a = (bal.set a.f0.toNat (rd bal a.f0 - a.f2)).set a.f1.toNat (rd bal a.f1 + a.f2) := by unfold posStep; rw [e0, r1, e1]
  refine ⟨p1, r1, ?_, b0, b1⟩
  rw [p1, rd, List.getD_eq_getElem?_getD, List.getElem?_set_self (by rw [List.length_set]; omega)]
  rfl
/-- What a pass and all passes keep short. -/
theorem passS_len : ∀ (t : List S54) (i : Nat) (out bal : List Int) (more : Bool) (o b : List Int) (m' : Bool), passS t i out bal more = some (o, b, m') → o.length ≤ out.length + t.length ∧ b.length = bal.length
  | [], i, out, bal, more, o, b, m', h => by
    simp only [passS, Option.some.injEq, Prod.mk.injEq] at h
    rw [← h.1, ← h.2.1]
    exact ⟨Nat.le_refl _, rfl⟩
  | a :: t, i, out, bal, more, o, b, m', h => by
    rw [passS] at h
    split at h
    · have := passS_len t (i + 1) out bal more o b m' h
      exact ⟨by rw [List.length_cons]; omega, this.2⟩
    · split at h
      · cases h
      · have := passS_len t (i + 1) _ _ _ o b m' h
        rw [List.length_append, List.length_singleton, posStep_length] at this
        exact ⟨by rw [List.length_cons]; omega, this.2⟩
theorem settle_len (xs : List S54) : ∀ (k : Nat) (out bal : List Int), (settleK xs k out bal).1.length ≤ out.length + k * xs.length ∧ (settleK xs k out bal).2.1.length ≤ bal.length
  | 0, out, bal => by simp [settleK]
  | k + 1, out, bal => by
    rw [settleK]
    cases hp : passS xs 0 out bal false with
    | none => simp
    | some q =>
      obtain ⟨o, b, more⟩ := q
      have h1 := passS_len xs 0 out bal false o b more (by exact_mod_cast hp)
      have h2 := settle_len xs k o b
      rw [Nat.succ_mul]
      by_cases c : more = true
      · simp only [c, if_true]; omega
      · simp only [if_neg c]; omega
theorem setA_len (xs : List S54) (p : Int) (bal : List Int) : (setA xs p bal).1.length ≤ 420 ∧ (setA xs p bal).2.1.length ≤ 8 := by
  unfold setA
  split
  · rename_i g
    have g1 := of_decide_eq_true g.1
    have g2 := of_decide_eq_true g.2
    have h := settle_len xs (xs.length + 1) [] bal
    have hmm : (xs.length + 1) * xs.length ≤ 21 * 20 := Nat.mul_le_mul (by omega) (by omega)
    simp only [List.length_nil, Nat.zero_add] at h
    omega
  · simp
theorem passS_skip {a : S54} {t : List S54} {n : Nat} {out bal : List Int} {more : Bool} (h : (n : Int) ∈ out ∨ rd bal a.f0 < a.f2) : passS (a :: t) n out bal more = passS t ((n + 1 : Nat) : Int) out bal more := by
  rw [passS, if_pos h]
  rfl
theorem passS_over {a : S54} {t : List S54} {n : Nat} {out bal : List Int} {more : Bool} (h : ¬ (n : Int) ∈ out) (h1 : ¬ rd bal a.f0 < a.f2) (h2 : 1000000000 < rd (posStep bal a) a.f1) : passS (a :: t) n out bal more = none := by
  rw [passS, if_neg (fun q => q.elim h h1), if_pos h2]
theorem passS_take {a : S54} {t : List S54} {n : Nat} {out bal : List Int} {more : Bool} (h : ¬ (n : Int) ∈ out) (h1 : ¬ rd bal a.f0 < a.f2) (h2 : ¬ 1000000000 < rd (posStep bal a) a.f1) : passS (a :: t) n out bal more = passS t ((n + 1 : Nat) : Int) (out ++ [(n : Int)]) (posStep bal a) true := by
  rw [passS, if_neg (fun q => q.elim h h1), if_neg h2]
  rfl
theorem settleK_none {xs : List S54} {k : Nat} {out bal : List Int} (h : passS xs 0 out bal false = none) : settleK xs (k + 1) out bal = ([], [], false) := by rw [settleK, h]
theorem settleK_more {xs : List S54} {k : Nat} {out bal o b : List Int} (h : passS xs 0 out bal false = some (o, b, true)) : settleK xs (k + 1) out bal = settleK xs k o b := by rw [settleK, h]; rfl
theorem settleK_done {xs : List S54} {k : Nat} {out bal o b : List Int} (h : passS xs 0 out bal false = some (o, b, false)) : settleK xs (k + 1) out bal = (o, b, true) := by rw [settleK, h]; rfl

theorem i64_and1 (x : Int) (h0 : 0 ≤ x) (h1 : x < 4611686018427387904) : Go.bits .and .i64 x 1 = x % 2 :=
  bits_mask .i64 62 (by decide) (fun n a b => by rw [IntKind.wrap_i64]; omega) 1 (by decide) x h0 h1
theorem shr_nat (v i : Nat) (hi : i ≤ 62) : shr .i64 (v : Int) (i : Int) = ((v / 2 ^ i : Nat) : Int) := by
  unfold shr
  rw [show min (i : Int).toNat (IntKind.i64).bits = i from Nat.min_eq_left (by simp [IntKind.bits]; omega)]
  simp
theorem u64_small (x : Int) (h0 : 0 ≤ x) (h1 : x ≤ 9223372036854775807) : IntKind.u64.wrap x = x := by
  simp only [IntKind.wrap, IntKind.bits, IntKind.signed]; simp; omega
theorem bit_at (v i : Nat) (hi : i ≤ 62) (hv : v < 1048576) : Go.bits .and .i64 (shr .i64 (v : Int) (i : Int)) 1 = ((v / 2 ^ i % 2 : Nat) : Int) := by
  rw [shr_nat v i hi]
  have h := Nat.div_le_self v (2 ^ i)
  generalize v / 2 ^ i = q at h ⊢
  rw [i64_and1 _ (by omega) (by omega)]
  omega
theorem div_pow_succ (v i : Nat) : v / 2 ^ (i + 1) = v / 2 ^ i / 2 := by rw [Nat.pow_succ, Nat.div_div_eq_div_mul]
/-- The places of v's bits that are 1, counted from i; n places at most. -/
def blF : Nat → Nat → Int → List Int
  | 0, _, _ => []
  | n + 1, v, i => (if v % 2 = 1 then [i] else []) ++ blF n (v / 2) (i + 1)
theorem blF_zero : ∀ (n : Nat) (i : Int), blF n 0 i = []
  | 0, _ => rfl
  | n + 1, i => by simp [blF, blF_zero n]
theorem blF_length : ∀ (n v : Nat) (i : Int), (blF n v i).length ≤ n
  | 0, _, _ => by simp [blF]
  | n + 1, v, i => by
    have := blF_length n (v / 2) (i + 1)
    unfold blF
    split <;> simp <;> omega

theorem getD_memT {l : List Int} {i : Nat} (h : i < l.length) : l.getD i 0 ∈ l := by
  rw [List.getD_eq_getElem?_getD, List.getElem?_eq_getElem h]
  exact List.getElem_mem _
/-- The claims of a set. -/
def pickF : List S54 → Nat → List S54
  | [], _ => []
  | a :: t, v => (if v % 2 = 1 then [a] else []) ++ pickF t (v / 2)
theorem pickF_zero : ∀ xs : List S54, pickF xs 0 = []
  | [] => rfl
  | a :: t => by simp [pickF, pickF_zero t]
theorem pickF_mem : ∀ (xs : List S54) (v : Nat) (a : S54), a ∈ pickF xs v → a ∈ xs
  | [], _, _, h => by simp [pickF] at h
  | b :: t, v, a, h => by
    rw [pickF] at h
    rcases List.mem_append.mp h with g | g
    · split at g
      · rw [List.mem_singleton.mp g]; exact List.mem_cons_self
      · simp at g
    · exact List.mem_cons_of_mem _ (pickF_mem t _ a g)
theorem pickF_len : ∀ (xs : List S54) (v : Nat), (pickF xs v).length ≤ xs.length
  | [], _ => by simp [pickF]
  | b :: t, v => by
    have := pickF_len t (v / 2)
    rw [pickF]
    split <;> simp <;> omega
theorem pickF_sum {n : Int} : ∀ (xs : List S54) (v : Nat), (∀ a ∈ xs, okC n a) → sumC (pickF xs v) ≤ sumC xs
  | [], _, _ => by simp [pickF]
  | b :: t, v, h => by
    have h1 := pickF_sum t (v / 2) (fun a ha => h a (List.mem_cons_of_mem _ ha))
    have h2 := (h b List.mem_cons_self).2.2.2
    rw [pickF]
    split
    · show sumC (b :: pickF t (v / 2)) ≤ sumC (b :: t)
      simp only [sumC]; omega
    · simp only [List.nil_append, sumC]; omega
/-- What a claim, and claims, do to a balance. -/
def dl (a : S54) (j : Nat) : Int := (if a.f1 = (j : Int) then a.f2 else 0) - (if a.f0 = (j : Int) then a.f2 else 0)
def dsum : List S54 → Nat → Int
  | [], _ => 0
  | a :: t, j => dl a j + dsum t j
theorem posStep_get {m : Nat} {out : List Int} {a : S54} (ha : okC m a) (hl : out.length = m) (B : Int) (hB : 0 ≤ B ∧ B ≤ 4000000000) (hb : ∀ x ∈ out, -B ≤ x ∧ x ≤ B) : (∀ j, j < m → (posStep out a).getD j 0 = out.getD j 0 + dl a j) ∧ ∀ x ∈ posStep out a, -(B + a.f2) ≤ x ∧ x ≤ B + a.f2 := by
  have h0 := ha.1
  have h1 := ha.2.1
  have hne := ha.2.2.1
  have h3 := ha.2.2.2
  have b0 := hb _ (rd_mem (l := out) (i := a.f0) (by omega) (by omega))
  have b1 := hb _ (rd_mem (l := out) (i := a.f1) (by omega) (by omega))
  have e0 : wrap64 (rd out a.f0 - a.f2) = rd out a.f0 - a.f2 := wrapId (by omega)
  have r1 : rd (out.set a.f0.toNat (rd out a.f0 - a.f2)) a.f1 = rd out a.f1 := by
    rw [rd, rd, List.getD_eq_getElem?_getD, List.getElem?_set_ne (by omega), ← List.getD_eq_getElem?_getD]
    rfl
  have e1 : wrap64 (rd out a.f1 + a.f2) = rd out a.f1 + a.f2 := wrapId (by omega)
  have p1 : posStep out a = (out.set a.f0.toNat (rd out a.f0 - a.f2)).set a.f1.toNat (rd out a.f1 + a.f2) := by unfold posStep; rw [e0, r1, e1]
  rw [p1]
  refine ⟨fun j hj => ?_, fun x hx => ?_⟩
  · unfold dl
    by_cases c1 : a.f1 = (j : Int)
    · rw [if_pos c1, if_neg (by omega)]
      have ej : a.f1.toNat = j := by omega
      rw [ej, List.getD_eq_getElem?_getD, List.getElem?_set_self (by rw [List.length_set]; omega)]
      show rd out a.f1 + a.f2 = out.getD j 0 + (a.f2 - 0)
      rw [rd, ej]
      omega
    · rw [if_neg c1, List.getD_eq_getElem?_getD, List.getElem?_set_ne (by omega), ← List.getD_eq_getElem?_getD]
      by_cases c0 : a.f0 = (j : Int)
      · rw [if_pos c0]
        have ej : a.f0.toNat = j := by omega
        rw [ej, List.getD_eq_getElem?_getD, List.getElem?_set_self (by omega)]
        show rd out a.f0 - a.f2 = out.getD j 0 + (0 - a.f2)
        rw [rd, ej]
        omega
      · rw [if_neg c0, List.getD_eq_getElem?_getD, List.getElem?_set_ne (by omega), ← List.getD_eq_getElem?_getD]
        omega
  · rcases mem_set_or hx with q | q
    · rcases mem_set_or q with q | q
      · have := hb x q; omega
      · omega
    · omega
theorem posStep_set {m : Nat} {out : List Int} {a : S54} (ha : okC m a) (hl : out.length = m) (B : Int) (hB : 0 ≤ B ∧ B ≤ 4000000000) (hb : ∀ x ∈ out, -B ≤ x ∧ x ≤ B) : posStep out a = (out.set a.f0.toNat (rd out a.f0 - a.f2)).set a.f1.toNat (rd out a.f1 + a.f2) ∧ rd (out.set a.f0.toNat (rd out a.f0 - a.f2)) a.f1 = rd out a.f1 ∧ (-B ≤ rd out a.f0 ∧ rd out a.f0 ≤ B) ∧ (-B ≤ rd out a.f1 ∧ rd out a.f1 ≤ B) := by
  have h0 := ha.1
  have h1 := ha.2.1
  have hne := ha.2.2.1
  have h3 := ha.2.2.2
  have b0 := hb _ (rd_mem (l := out) (i := a.f0) (by omega) (by omega))
  have b1 := hb _ (rd_mem (l := out) (i := a.f1) (by omega) (by omega))
  have e0 : wrap64 (rd out a.f0 - a.f2) = rd out a.f0 - a.f2 := wrapId (by omega)
  have r1 : rd (out.set a.f0.toNat (rd out a.f0 - a.f2)) a.f1 = rd out a.f1 := by
    rw [rd, rd, List.getD_eq_getElem?_getD, List.getElem?_set_ne (by omega), ← List.getD_eq_getElem?_getD]
    rfl
  have e1 : wrap64 (rd out a.f1 + a.f2) = rd out a.f1 + a.f2 := wrapId (by omega)
  exact ⟨by unfold posStep; rw [e0, r1, e1], r1, b0, b1⟩
theorem posFold_get {m : Nat} : ∀ (p : List S54) (out : List Int) (B : Int), (∀ a ∈ p, okC m a) → out.length = m → 0 ≤ B → B + sumC p ≤ 4000000000 → (∀ x ∈ out, -B ≤ x ∧ x ≤ B) → (∀ j, j < m → (posFold out p).getD j 0 = out.getD j 0 + dsum p j) ∧ ∀ x ∈ posFold out p, -(B + sumC p) ≤ x ∧ x ≤ B + sumC p
  | [], out, B, _, _, _, _, hb => ⟨fun j _ => by simp [posFold, dsum], fun x hx => by have := hb x hx; simp only [sumC]; omega⟩
  | a :: t, out, B, hok, hl, hB, hs, hb => by
    have ha := hok a List.mem_cons_self
    have ht := (sumC_bd t (fun x hx => hok x (List.mem_cons_of_mem _ hx))).1
    simp only [sumC] at hs ⊢
    have h3 := ha.2.2.2
    obtain ⟨g1, g2⟩ := posStep_get ha hl B ⟨hB, by omega⟩ hb
    obtain ⟨k1, k2⟩ := posFold_get t (posStep out a) (B + a.f2) (fun x hx => hok x (List.mem_cons_of_mem _ hx)) (by rw [posStep_length]; exact hl) (by omega) (by omega) g2
    refine ⟨fun j hj => ?_, fun x hx => ?_⟩
    · rw [posFold, k1 j hj, g1 j hj, dsum]; omega
    · have := k2 x hx; omega
def fitB (bal : List Int) (p : List S54) : Bool := decide (∀ j, j < bal.length → 0 ≤ bal.getD j 0 + dsum p j)
def stepTg (xs : List S54) (bal : List Int) (s : Nat × Int) (v : Nat) : Nat × Int := if fitB bal (pickF xs v) = true ∧ s.2 < sumC (pickF xs v) then (v, sumC (pickF xs v)) else s
def foldT (xs : List S54) (bal : List Int) : Nat → Nat → Nat × Int → Nat × Int
  | 0, _, s => s
  | d + 1, v, s => foldT xs bal d (v + 1) (stepTg xs bal s v)
theorem foldT_zero (xs : List S54) (bal : List Int) (d : Nat) (hd : 0 < d) : foldT xs bal d 0 (0, 0) = foldT xs bal (d - 1) 1 (0, 0) := by
  obtain ⟨e, rfl⟩ : ∃ e, d = e + 1 := ⟨d - 1, by omega⟩
  rw [foldT, stepTg, if_neg (by rw [pickF_zero]; simp [sumC])]
  rfl
theorem foldT_lt (xs : List S54) (bal : List Int) (N : Nat) : ∀ (d v : Nat) (s : Nat × Int), v + d ≤ N → s.1 < N → (foldT xs bal d v s).1 < N
  | 0, _, s, _, h => h
  | d + 1, v, s, hv, h => by
    rw [foldT]
    refine foldT_lt xs bal N d (v + 1) _ (by omega) ?_
    unfold stepTg
    split
    · show v < N; omega
    · exact h
def bestOf (xs : List S54) (bal : List Int) : Nat := (foldT xs bal (2 ^ xs.length - 1) 1 (0, 0)).1
theorem bestOf_lt (xs : List S54) (bal : List Int) : bestOf xs bal < 2 ^ xs.length := by
  have h : 0 < 2 ^ xs.length := Nat.pow_pos (by decide)
  exact foldT_lt xs bal _ _ _ _ (by omega) h
def togA (xs : List S54) (p : Int) (bal : List Int) : List Int × Bool := if goodC xs p = true ∧ xs.length ≤ 10 ∧ goodB bal p = true then (blF xs.length (bestOf xs bal) 0, true) else ([], false)
theorem togA_len (xs : List S54) (p : Int) (bal : List Int) : (togA xs p bal).1.length ≤ 10 := by
  unfold togA
  split
  · rename_i g
    have := blF_length xs.length (bestOf xs bal) 0
    show (blF xs.length (bestOf xs bal) 0).length ≤ 10
    omega
  · simp
theorem foldMinT : ∀ (l : List Int) (a : Int), (l.foldl min a = a ∨ l.foldl min a ∈ l) ∧ l.foldl min a ≤ a ∧ ∀ x ∈ l, l.foldl min a ≤ x
  | [], a => ⟨.inl rfl, Int.le_refl _, fun x hx => by simp at hx⟩
  | b :: t, a => by
    obtain ⟨h1, h2, h3⟩ := foldMinT t (min a b)
    refine ⟨?_, ?_, fun x hx => ?_⟩
    · rcases h1 with g | g
      · simp only [List.foldl_cons]
        rcases Int.le_total a b with q | q
        · rw [Int.min_eq_left q] at g ⊢; exact .inl g
        · rw [Int.min_eq_right q] at g ⊢; rw [g]; exact .inr List.mem_cons_self
      · exact .inr (List.mem_cons_of_mem _ g)
    · simp only [List.foldl_cons]; exact Int.le_trans h2 (Int.min_le_left _ _)
    · simp only [List.foldl_cons]
      rcases List.mem_cons.mp hx with rfl | hx
      · exact Int.le_trans h2 (Int.min_le_right _ _)
      · exact h3 x hx
theorem minOf_nonneg {l : List Int} (h : 0 < l.length) : 0 ≤ Lib.minOf l ↔ ∀ x ∈ l, 0 ≤ x := by
  obtain ⟨h1, h2, h3⟩ := foldMinT l (l.headD 0)
  have hd : l.headD 0 ∈ l := by
    cases l with
    | nil => simp at h
    | cons a t => exact List.mem_cons_self
  have hm : Lib.minOf l ∈ l := by
    unfold Lib.minOf
    rcases h1 with g | g
    · rw [g]; exact hd
    · exact g
  refine ⟨fun g x hx => ?_, fun g => g _ hm⟩
  have := h3 x hx
  unfold Lib.minOf at g
  omega
theorem fit_min {m : Nat} {bal : List Int} {p : List S54} (hl : bal.length = m) (hm : 0 < m) (hg : ∀ j, j < m → (posFold bal p).getD j 0 = bal.getD j 0 + dsum p j) : decide (0 ≤ Lib.minOf (posFold bal p)) = fitB bal p := by
  have hpl : (posFold bal p).length = m := by rw [posFold_length]; exact hl
  unfold fitB
  rw [decide_eq_decide, minOf_nonneg (by omega)]
  refine ⟨fun h j hj => ?_, fun h x hx => ?_⟩
  · rw [← hg j (by omega)]
    exact h _ (getD_memT (by omega))
  · obtain ⟨j, hj, e⟩ := List.getElem_of_mem hx
    have := h j (by omega)
    rw [← hg j (by omega), List.getD_eq_getElem?_getD, List.getElem?_eq_getElem hj] at this
    rw [← e]
    exact this
end Go.Proofs.Ytaobdjdmmhglaaa.Pure
