/- The plain law of FnExactBilateralNet: the printed functions that it uses answer as plain Lean functions do. No other condition. -/
import Derived.Test.YtaobdjdmmhglaaaPFnExactCancelCyclesx0
import Derived.Test.YtaobdjdmmhglaaaPFnExactCancelCyclesx1
import Derived.Test.YtaobdjdmmhglaaaPFnExactCancelCyclesx2
import Derived.Test.YtaobdjdmmhglaaaPFnExactCancelCyclesx4
import Derived.Test.YtaobdjdmmhglaaaEvKit
import Derived.Test.YtaobdjdmmhglaaaKReads
namespace Go.Proofs.Ytaobdjdmmhglaaa.Pure
open Go.RowKit Go.Proofs.YtaobdjdmmhglaaaW.PrintWords Go.Proofs.YtaobdjdmmhglaaaW.PrintLast Go.Proofs.YtaobdjdmmhglaaaW.PrintMore Go.Proofs.Ytaobdjdmmhglaaa.PFnExactCancelCycles Go.Proofs.Ytaobdjdmmhglaaa.EvKit
set_option linter.unusedVariables false
set_option linter.unusedSimpArgs false

theorem rd_T54_at {xs pre t : List S54} {a : S54} (h : xs = pre ++ a :: t) {i : Int} (hi : i = pre.length) : rd_T54 xs i = a := getD_at h hi


theorem rd_T56_at {xs pre t : List S56} {a : S56} (h : xs = pre ++ a :: t) {i : Int} (hi : i = pre.length) : rd_T56 xs i = a := getD_at h hi


def cv_Claim (x : S56) : S54 := ⟨x.f0, x.f1, x.f2⟩
theorem toClaimS_l0 (xs : List S56) (hn : xs.length ≤ 1048576) : ∀ (rest pre : List S56) (cur : List S54) (i : Int), xs = pre ++ rest → i = pre.length → (∃ tl : List S54, tl.length = rest.length ∧ cur = pre.map cv_Claim ++ tl) →
    Ev (fun k => laws_toClaimS.l0 k xs cur i) (xs.map cv_Claim) := by
  intro rest
  induction rest with
  | nil =>
    intro pre cur i h hi hc
    obtain ⟨tl, ht, rfl⟩ := hc
    have hl := len_nil h
    refine evSucc ?_
    simp only [laws_toClaimS.l0]
    refine evNeg (by omega) ?_
    refine evSome ?_
    have : tl = [] := List.length_eq_zero_iff.mp ht
    subst this
    rw [h]; simp
  | cons a t ih =>
    intro pre cur i h hi hc
    obtain ⟨tl, ht, hcur⟩ := hc
    have hl := len_cons h
    obtain ⟨b, tl, rfl⟩ : ∃ b tl', tl = b :: tl' := by
      cases tl with
      | nil => simp at ht
      | cons b tl => exact ⟨b, tl, rfl⟩
    have hcl := len_cons hcur
    simp at hcl
    refine evSucc ?_
    simp only [laws_toClaimS.l0]
    refine evPos (by omega) ?_
    refine evPos (by omega) ?_
    simp only [laws_toClaim.f, rd_T56_at h hi, Option.bind_some]
    refine evPos (by omega) ?_
    refine ih (pre ++ [a]) _ _ (snoc h) ?_ ⟨tl, by simpa using ht, ?_⟩
    · rw [wrapId (by omega), len_snoc]; omega
    · rw [set_at hcur (by simpa using hi)]; simp [cv_Claim]
theorem toClaimS_ev (xs : List S56) (hn : xs.length ≤ 1048576) : Ev (fun k => laws_toClaimS.f k xs) (xs.map cv_Claim) := by
  simp only [laws_toClaimS.f]
  refine evPos (by omega) ?_
  refine evPos (by omega) ?_
  exact toClaimS_l0 xs hn xs [] _ 0 rfl rfl ⟨List.replicate xs.length z54, by simp, by simp⟩
theorem szClaimS_eq (xs : List S56) (h : xs.length ≤ 9223372036854775807) : laws_szClaimS.f xs 1048576 = some (if xs.length ≤ 1048576 then 1048576 - (xs.length : Int) else -1) := by
  simp only [laws_szClaimS.f]
  rw [wrapId (by omega)]
  by_cases c : xs.length ≤ 1048576
  · rw [if_neg (by omega), if_pos c]
  · rw [if_pos (by omega), if_neg c]


theorem eqClaimS_l0 (xs : List S54) (hn : xs.length ≤ 9223372036854775806) : ∀ (rest pre : List S54) (i : Int), xs = pre ++ rest → i = pre.length → Ev (fun k => laws_eqClaimS.l0 k xs xs i) true := by
  intro rest
  induction rest with
  | nil =>
    intro pre i h hi
    have hl := len_nil h
    refine evSucc ?_
    simp only [laws_eqClaimS.l0]
    refine evNeg (by omega) ?_
    exact evSome rfl
  | cons a t ih =>
    intro pre i h hi
    have hl := len_cons h
    refine evSucc ?_
    simp only [laws_eqClaimS.l0]
    refine evPos (by omega) ?_
    refine evPos (by omega) ?_
    refine evPos (by omega) ?_
    refine evBindS (a := true) (by simp [laws_eqClaim.f]) ?_
    refine evPos (by trivial) ?_
    exact ih (pre ++ [a]) _ (snoc h) (by rw [wrapId (by omega), len_snoc]; omega)
theorem eqClaimS_ev (xs : List S54) (hn : xs.length ≤ 9223372036854775806) : Ev (fun k => laws_eqClaimS.f k xs xs) true := by
  simp only [laws_eqClaimS.f]
  exact evPos (by trivial) (eqClaimS_l0 xs hn xs [] 0 rfl rfl)


def upS_Claim : Nat → Int → List S54
  | 0, _ => []
  | c + 1, m => ⟨m, m + 1, m + 2⟩ :: upS_Claim c (m + 3)
theorem upS_Claim_length : ∀ (c : Nat) (m : Int), (upS_Claim c m).length = c
  | 0, _ => rfl
  | c + 1, m => by simp [upS_Claim, upS_Claim_length c]
theorem markClaimS_l0 : ∀ (rest pre : List S54) (xs : List S54) (m i : Int), xs = pre ++ rest → i = pre.length → 0 ≤ m → m + 3 * rest.length ≤ 9223372036854775807 → pre.length + rest.length ≤ 9223372036854775806 →
    Ev (fun k => laws_markClaimS.l0 k xs m i) (m + 3 * rest.length, pre ++ upS_Claim rest.length m) := by
  intro rest
  induction rest with
  | nil =>
    intro pre xs m i h hi h0 h1 h2
    have hl := len_nil h
    refine evSucc ?_
    simp only [laws_markClaimS.l0]
    refine evNeg (by omega) ?_
    exact evSome (by simp [h, upS_Claim])
  | cons a t ih =>
    intro pre xs m i h hi h0 h1 h2
    have hl := len_cons h
    subst h
    simp only [List.length_cons] at h1 h2
    have hrd : ∀ b : S54, rd_T54 (pre ++ b :: t) i = b := fun b => rd_T54_at rfl hi
    have hset : ∀ b c : S54, (pre ++ b :: t).set i.toNat c = pre ++ c :: t := fun b c => set_at rfl hi
    have w1 : wrap64 (m + 1) = m + 1 := (wrapId (by omega)).trans (by omega)
    have w2 : wrap64 (m + 1 + 1) = m + 2 := (wrapId (by omega)).trans (by omega)
    have w3 : wrap64 (m + 2 + 1) = m + 3 := (wrapId (by omega)).trans (by omega)
    refine evSucc ?_
    simp only [laws_markClaimS.l0, Option.bind_some, hrd, hset, w1, w2, w3]
    refine evPos (by omega) ?_
    refine evPos (by omega) ?_
    refine evEq (ih (pre ++ [⟨m, m + 1, m + 2⟩]) _ (m + 3) _ (by simp) ?_ ?_ ?_ ?_) ?_
    · rw [wrapId (by omega), len_snoc]; omega
    · omega
    · omega
    · simp; omega
    · simp [upS_Claim]; omega
theorem markClaimS_ev (xs : List S54) (m : Int) (h0 : 0 ≤ m) (h1 : m + 3 * xs.length ≤ 9223372036854775807) (h2 : xs.length ≤ 9223372036854775806) : Ev (fun k => laws_markClaimS.f k xs m) (m + 3 * xs.length, upS_Claim xs.length m) := by
  simp only [laws_markClaimS.f]
  exact evEq (markClaimS_l0 xs [] xs m 0 rfl rfl h0 h1 (by simpa using h2)) (by simp)


theorem heldClaimS_l0 : ∀ (n : Nat) (pre : List S54) (xs : List S54) (m i : Int), xs = pre ++ upS_Claim n m → i = pre.length → 0 ≤ m → m + 3 * n ≤ 9223372036854775807 → pre.length + n ≤ 9223372036854775806 →
    Ev (fun k => laws_heldClaimS.l0 k xs m i) (m + 3 * n) := by
  intro n
  induction n with
  | zero =>
    intro pre xs m i h hi h0 h1 h2
    have hl := len_nil h
    refine evSucc ?_
    simp only [laws_heldClaimS.l0]
    refine evNeg (by omega) ?_
    exact evSome (by simp)
  | succ n ih =>
    intro pre xs m i h hi h0 h1 h2
    have h' : xs = pre ++ ⟨m, m + 1, m + 2⟩ :: upS_Claim n (m + 3) := h
    have hl := len_cons h'
    rw [upS_Claim_length] at hl
    have hrd := rd_T54_at h' hi
    have w1 : wrap64 (m + 1) = m + 1 := (wrapId (by omega)).trans (by omega)
    have w2 : wrap64 (m + 1 + 1) = m + 2 := (wrapId (by omega)).trans (by omega)
    have w3 : wrap64 (m + 2 + 1) = m + 3 := (wrapId (by omega)).trans (by omega)
    refine evSucc ?_
    simp only [laws_heldClaimS.l0, hrd, w1, w2, w3]
    repeat (first | with_reducible refine evPos True.intro ?_ | with_reducible refine evPos (by omega) ?_)
    refine evEq (ih (pre ++ [⟨m, m + 1, m + 2⟩]) _ (m + 3) _ (snoc h') ?_ ?_ ?_ ?_) ?_
    · rw [wrapId (by omega), len_snoc]; omega
    · omega
    · omega
    · simp; omega
    · omega
theorem heldClaimS_ev (n : Nat) (m : Int) (h0 : 0 ≤ m) (h1 : m + 3 * n ≤ 9223372036854775807) (h2 : n ≤ 9223372036854775806) : Ev (fun k => laws_heldClaimS.f k (upS_Claim n m) m) (m + 3 * n) := by
  simp only [laws_heldClaimS.f]
  exact heldClaimS_l0 n [] _ m 0 rfl rfl h0 h1 (by simpa using h2)

theorem within_eq (a b c : Int) : impl_within.f a b c = some (decide (b ≤ a ∧ a ≤ c)) := by
  unfold impl_within.f
  by_cases h : a ≥ b
  · rw [if_pos h]; exact congrArg some (decide_eq_decide.mpr ⟨fun g => ⟨h, g⟩, fun g => g.2⟩)
  · rw [if_neg h]; exact congrArg some (decide_eq_false (fun g => h g.1)).symm
theorem l1In_eq (a b c : Int) : spec_l1In.f a b c = some (decide (b ≤ a ∧ a ≤ c)) := by
  unfold spec_l1In.f
  by_cases h : a ≥ b
  · rw [if_pos h]; exact congrArg some (decide_eq_decide.mpr ⟨fun g => ⟨h, g⟩, fun g => g.2⟩)
  · rw [if_neg h]; exact congrArg some (decide_eq_false (fun g => h g.1)).symm

theorem isAmount_eq (a : Int) : impl_isAmount.f a = some (decide (-1000000000 ≤ a ∧ a ≤ 1000000000)) := by
  unfold impl_isAmount.f; rw [within_eq]; rfl

def okC (p : Int) (a : S54) : Prop := (0 ≤ a.f0 ∧ a.f0 ≤ p - 1) ∧ (0 ≤ a.f1 ∧ a.f1 ≤ p - 1) ∧ a.f0 ≠ a.f1 ∧ (1 ≤ a.f2 ∧ a.f2 ≤ 1000000000)
instance (p : Int) (a : S54) : Decidable (okC p a) := by unfold okC; infer_instance
def sumC : List S54 → Int
  | [] => 0
  | a :: t => a.f2 + sumC t
theorem sumC_snoc (p : List S54) (a : S54) : sumC (p ++ [a]) = sumC p + a.f2 := by
  induction p with
  | nil => simp [sumC]
  | cons b t ih => simp only [List.cons_append, sumC, ih]; omega
theorem sumC_append (p q : List S54) : sumC (p ++ q) = sumC p + sumC q := by
  induction p with
  | nil => simp [sumC]
  | cons b t ih => simp only [List.cons_append, sumC, ih]; omega
theorem sumC_bd {n : Int} (p : List S54) (h : ∀ a ∈ p, okC n a) : 0 ≤ sumC p ∧ sumC p ≤ 1000000000 * p.length := by
  induction p with
  | nil => simp [sumC]
  | cons b t ih =>
    have h1 := ih (fun a ha => h a (List.mem_cons_of_mem _ ha))
    have h2 := (h b List.mem_cons_self).2.2.2
    simp only [sumC, List.length_cons]
    omega
def goodC (xs : List S54) (p : Int) : Bool := decide ((2 ≤ p ∧ p ≤ 8) ∧ xs.length ≤ 20 ∧ (∀ a ∈ xs, okC p a) ∧ sumC xs ≤ 1000000000)
theorem okC_snoc {n : Int} {pre : List S54} {a : S54} (hok : ∀ b ∈ pre, okC n b) (ha : okC n a) : ∀ b ∈ pre ++ [a], okC n b := by
  intro b hb
  rcases List.mem_append.mp hb with g | g
  · exact hok b g
  · rw [List.mem_singleton.mp g]; exact ha
theorem implValidC_l0 (p : Int) (hp : 2 ≤ p ∧ p ≤ 8) (xs : List S54) (hn : xs.length ≤ 20) : ∀ (rest pre : List S54) (i : Int), xs = pre ++ rest → i = pre.length → (∀ a ∈ pre, okC p a) → Ev (fun k => impl_IsValidClaims.l0 k p (sumC pre) xs (xs.length : Int) i) (goodC xs p) := by
  have hw : wrap64 (p - 1) = p - 1 := wrapId (by omega)
  intro rest
  induction rest with
  | nil =>
    intro pre i h hi hok
    have hl := len_nil h
    have hx : xs = pre := by simpa using h
    have hb := sumC_bd pre hok
    refine evSucc ?_
    simp only [impl_IsValidClaims.l0, isAmount_eq, Option.bind_some]
    refine evNeg (by omega) ?_
    refine evSome ?_
    unfold goodC
    rw [decide_eq_decide, hx]
    exact ⟨fun g => ⟨hp, by rw [← hx]; exact hn, hok, g.2⟩, fun g => ⟨by omega, g.2.2.2⟩⟩
  | cons a t ih =>
    intro pre i h hi hok
    have hl := len_cons h
    have hb := sumC_bd pre hok
    have ha : a ∈ xs := by rw [h]; simp
    refine evSucc ?_
    simp only [impl_IsValidClaims.l0, within_eq, Option.bind_some, decide_eq_true_eq, rd_T54_at h hi, hw]
    refine evPos (by omega) ?_
    refine evPos (by omega) ?_
    refine evPos (by omega) ?_
    have bad : ¬ okC p a → false = goodC xs p := fun n => (decide_eq_false (fun g => n (g.2.2.1 a ha))).symm
    refine evIte (fun c1 => ?_) (fun c1 => evSome (bad (fun g => c1 g.1)))
    refine evIte (fun c2 => ?_) (fun c2 => evSome (bad (fun g => c2 g.2.1)))
    refine evIte (fun c3 => evSome (bad (fun g => g.2.2.1 c3))) (fun c3 => ?_)
    refine evIte (fun c4 => ?_) (fun c4 => evSome (bad (fun g => c4 g.2.2.2)))
    have e : wrap64 (sumC pre + a.f2) = sumC (pre ++ [a]) := by rw [sumC_snoc, wrapId (by omega)]
    rw [e]
    exact ih (pre ++ [a]) _ (snoc h) (by rw [wrapId (by omega), len_snoc]; omega) (okC_snoc hok ⟨c1, c2, c3, c4⟩)
theorem implValidC_ev (xs : List S54) (p : Int) (hn : xs.length ≤ 1048576) : Ev (fun k => impl_IsValidClaims.f k xs p) (goodC xs p) := by
  simp only [impl_IsValidClaims.f, within_eq, Option.bind_some, decide_eq_true_eq]
  refine evIte (fun c1 => ?_) (fun c1 => ?_)
  · refine evSucc ?_
    simp only [impl_IsValidClaims.j0, decide_eq_true_eq]
    refine evIte (fun c2 => ?_) (fun c2 => ?_)
    · exact evSome (decide_eq_false (fun g => by have := g.2.1; omega)).symm
    · exact implValidC_l0 p c1 xs (by omega) xs [] 0 rfl rfl (by simp)
  · refine evSucc ?_
    simp only [impl_IsValidClaims.j0]
    exact evPos (by trivial) (evSome (decide_eq_false (fun g => c1 g.1)).symm)
theorem specGross_l0 (p : Int) (xs : List S54) (hn : xs.length ≤ 20) (hok : ∀ a ∈ xs, okC p a) : ∀ (rest pre : List S54) (i : Int), xs = pre ++ rest → i = pre.length → Ev (fun k => spec_l16Gross.l0 k xs (sumC pre) i) (sumC xs) := by
  intro rest
  induction rest with
  | nil =>
    intro pre i h hi
    have hl := len_nil h
    refine evSucc ?_
    simp only [spec_l16Gross.l0]
    refine evNeg (by omega) ?_
    exact evSome (by rw [h]; simp)
  | cons a t ih =>
    intro pre i h hi
    have hl := len_cons h
    have hp : ∀ b ∈ pre, okC p b := fun b hb => hok b (by rw [h]; simp [hb])
    have hb := sumC_bd pre hp
    have ha := (hok a (by rw [h]; simp)).2.2.2
    refine evSucc ?_
    simp only [spec_l16Gross.l0, rd_T54_at h hi]
    refine evPos (by omega) ?_
    refine evPos (by omega) ?_
    have e : wrap64 (sumC pre + a.f2) = sumC (pre ++ [a]) := by rw [sumC_snoc, wrapId (by omega)]
    rw [e]
    exact ih (pre ++ [a]) _ (snoc h) (by rw [wrapId (by omega), len_snoc]; omega)
theorem specGross_ev (p : Int) (xs : List S54) (hn : xs.length ≤ 20) (hok : ∀ a ∈ xs, okC p a) : Ev (fun k => spec_l16Gross.f k xs) (sumC xs) := by
  simp only [spec_l16Gross.f]
  exact specGross_l0 p xs hn hok xs [] 0 rfl rfl
theorem specGoodC_l0 (p : Int) (hp : 2 ≤ p ∧ p ≤ 8) (xs : List S54) (hn : xs.length ≤ 20) : ∀ (rest pre : List S54) (i : Int), xs = pre ++ rest → i = pre.length → (∀ a ∈ pre, okC p a) → Ev (fun k => spec_l16Good.l0 k xs p i) (goodC xs p) := by
  have hw : wrap64 (p - 1) = p - 1 := wrapId (by omega)
  intro rest
  induction rest with
  | nil =>
    intro pre i h hi hok
    have hl := len_nil h
    have hx : xs = pre := by simpa using h
    refine evSucc ?_
    simp only [spec_l16Good.l0]
    refine evNeg (by omega) ?_
    refine evBind (specGross_ev p xs hn (by rw [hx]; exact hok)) (evSome ?_)
    unfold goodC
    rw [decide_eq_decide]
    exact ⟨fun g => ⟨hp, hn, by rw [hx]; exact hok, g⟩, fun g => g.2.2.2⟩
  | cons a t ih =>
    intro pre i h hi hok
    have hl := len_cons h
    have ha : a ∈ xs := by rw [h]; simp
    refine evSucc ?_
    simp only [spec_l16Good.l0, l1In_eq, Option.bind_some, decide_eq_true_eq, rd_T54_at h hi, hw]
    refine evPos (by omega) ?_
    refine evPos (by omega) ?_
    have bad : ¬ okC p a → false = goodC xs p := fun n => (decide_eq_false (fun g => n (g.2.2.1 a ha))).symm
    refine evIte (fun c1 => ?_) (fun c1 => evSome (bad (fun g => c1 g.1)))
    refine evIte (fun c2 => ?_) (fun c2 => evSome (bad (fun g => c2 g.2.1)))
    refine evIte (fun c3 => evSome (bad (fun g => g.2.2.1 c3))) (fun c3 => ?_)
    refine evIte (fun c4 => ?_) (fun c4 => evSome (bad (fun g => c4 g.2.2.2)))
    exact ih (pre ++ [a]) _ (snoc h) (by rw [wrapId (by omega), len_snoc]; omega) (okC_snoc hok ⟨c1, c2, c3, c4⟩)
theorem specGoodC_ev (xs : List S54) (p : Int) (hn : xs.length ≤ 1048576) : Ev (fun k => spec_l16Good.f k xs p) (goodC xs p) := by
  simp only [spec_l16Good.f, l1In_eq, Option.bind_some, decide_eq_true_eq]
  refine evIte (fun c1 => ?_) (fun c1 => ?_)
  · refine evSucc ?_
    simp only [spec_l16Good.j0, decide_eq_true_eq]
    refine evIte (fun c2 => ?_) (fun c2 => ?_)
    · exact evSome (decide_eq_false (fun g => by have := g.2.1; omega)).symm
    · exact specGoodC_l0 p c1 xs (by omega) xs [] 0 rfl rfl (by simp)
  · refine evSucc ?_
    simp only [spec_l16Good.j0]
    exact evPos (by trivial) (evSome (decide_eq_false (fun g => c1 g.1)).symm)

/-- What i owes to j: the sum of the claims between them. -/
def gr : List S54 → Nat → Nat → Int
  | [], _, _ => 0
  | a :: t, i, j => (if a.f0 = (i : Int) ∧ a.f1 = (j : Int) then a.f2 else 0) + gr t i j
theorem gr_snoc (p : List S54) (a : S54) (i j : Nat) : gr (p ++ [a]) i j = gr p i j + (if a.f0 = (i : Int) ∧ a.f1 = (j : Int) then a.f2 else 0) := by
  induction p with
  | nil => simp [gr]
  | cons b t ih => simp only [List.cons_append, gr, ih]; omega
theorem gr_bd {n : Int} (p : List S54) (h : ∀ a ∈ p, okC n a) (i j : Nat) : 0 ≤ gr p i j ∧ gr p i j ≤ sumC p := by
  induction p with
  | nil => simp [gr, sumC]
  | cons b t ih =>
    have h1 := ih (fun a ha => h a (List.mem_cons_of_mem _ ha))
    have h2 := (h b List.mem_cons_self).2.2.2
    simp only [gr, sumC]
    split <;> omega
theorem gr_diag {n : Int} (p : List S54) (h : ∀ a ∈ p, okC n a) (i : Nat) : gr p i i = 0 := by
  induction p with
  | nil => rfl
  | cons b t ih =>
    have h1 := ih (fun a ha => h a (List.mem_cons_of_mem _ ha))
    have h2 := (h b List.mem_cons_self).2.2.1
    simp only [gr, h1]
    rw [if_neg (fun g => h2 (g.1.trans g.2.symm))]
    rfl
def mnI (a b : Int) : Int := if b < a then b else a
def nt (xs : List S54) (i j : Nat) : Int := gr xs i j - mnI (gr xs i j) (gr xs j i)
theorem mnI_symm (a b : Int) : mnI a b = mnI b a := by unfold mnI; split <;> split <;> omega
theorem nt_bd {n : Int} (xs : List S54) (h : ∀ a ∈ xs, okC n a) (hs : sumC xs ≤ 1000000000) (i j : Nat) : 0 ≤ nt xs i j ∧ nt xs i j ≤ 1000000000 := by
  have h1 := gr_bd xs h i j
  have h2 := gr_bd xs h j i
  unfold nt mnI
  split <;> omega
theorem nt_diag {n : Int} (xs : List S54) (h : ∀ a ∈ xs, okC n a) (i : Nat) : nt xs i i = 0 := by
  unfold nt mnI; rw [gr_diag xs h i]; split <;> omega
/-- The table while pairs (i, k), k below i, are netted. -/
def ntP (xs : List S54) (i k a b : Nat) : Int := if (a < i ∧ b < i) ∨ (a = i ∧ b < k) ∨ (b = i ∧ a < k) then nt xs a b else gr xs a b
/-- The table while pairs (i, k), k above i, are netted. -/
def ntS (xs : List S54) (i k a b : Nat) : Int := if (a < i ∨ b < i) ∨ (a = i ∧ i < b ∧ b < k) ∨ (b = i ∧ i < a ∧ a < k) then nt xs a b else gr xs a b
theorem ntP_start (xs : List S54) (a b : Nat) : ntP xs 0 0 a b = gr xs a b := by unfold ntP; rw [if_neg (by omega)]
theorem ntP_next {n : Int} (xs : List S54) (h : ∀ a ∈ xs, okC n a) (i a b : Nat) : ntP xs i i a b = ntP xs (i + 1) 0 a b := by
  unfold ntP
  by_cases c : (a < i ∧ b < i) ∨ (a = i ∧ b < i) ∨ (b = i ∧ a < i)
  · rw [if_pos c, if_pos (by omega)]
  · rw [if_neg c]
    by_cases d : a = i ∧ b = i
    · rw [if_pos (by omega), d.1, d.2, gr_diag xs h i, nt_diag xs h i]
    · rw [if_neg (by omega)]
theorem ntP_step (xs : List S54) {i k : Nat} (hk : k < i) (a b : Nat) : ntP xs i (k + 1) a b = if a = i ∧ b = k then gr xs i k - mnI (gr xs i k) (gr xs k i) else if a = k ∧ b = i then gr xs k i - mnI (gr xs i k) (gr xs k i) else ntP xs i k a b := by
  by_cases c1 : a = i ∧ b = k
  · obtain ⟨rfl, rfl⟩ := c1
    rw [if_pos ⟨rfl, rfl⟩]
    unfold ntP nt
    rw [if_pos (by omega)]
  · rw [if_neg c1]
    by_cases c2 : a = k ∧ b = i
    · obtain ⟨rfl, rfl⟩ := c2
      rw [if_pos ⟨rfl, rfl⟩]
      unfold ntP nt
      rw [if_pos (by omega), mnI_symm]
    · rw [if_neg c2]
      unfold ntP
      by_cases c : (a < i ∧ b < i) ∨ (a = i ∧ b < k) ∨ (b = i ∧ a < k)
      · rw [if_pos c, if_pos (by omega)]
      · rw [if_neg c, if_neg (by omega)]
theorem ntP_at (xs : List S54) {i k : Nat} (hk : k < i) : ntP xs i k i k = gr xs i k ∧ ntP xs i k k i = gr xs k i := by
  unfold ntP
  rw [if_neg (by omega), if_neg (by omega)]
  exact ⟨rfl, rfl⟩
theorem ntP_end (xs : List S54) {m a b : Nat} (ha : a < m) (hb : b < m) : ntP xs m 0 a b = nt xs a b := by unfold ntP; rw [if_pos (.inl ⟨ha, hb⟩)]
theorem ntS_start (xs : List S54) (a b : Nat) : ntS xs 0 1 a b = gr xs a b := by unfold ntS; rw [if_neg (by omega)]
theorem ntS_next {n : Int} (xs : List S54) (h : ∀ a ∈ xs, okC n a) {m : Nat} (i a b : Nat) (ha : a < m) (hb : b < m) : ntS xs i m a b = ntS xs (i + 1) (i + 1 + 1) a b := by
  unfold ntS
  by_cases c : (a < i ∨ b < i) ∨ (a = i ∧ i < b ∧ b < m) ∨ (b = i ∧ i < a ∧ a < m)
  · rw [if_pos c, if_pos (by omega)]
  · rw [if_neg c]
    by_cases d : a = i ∧ b = i
    · rw [if_pos (by omega), d.1, d.2, gr_diag xs h i, nt_diag xs h i]
    · rw [if_neg (by omega)]
theorem ntS_step (xs : List S54) {i k : Nat} (hk : i < k) (a b : Nat) : ntS xs i (k + 1) a b = if a = i ∧ b = k then gr xs i k - mnI (gr xs i k) (gr xs k i) else if a = k ∧ b = i then gr xs k i - mnI (gr xs i k) (gr xs k i) else ntS xs i k a b := by
  by_cases c1 : a = i ∧ b = k
  · obtain ⟨rfl, rfl⟩ := c1
    rw [if_pos ⟨rfl, rfl⟩]
    unfold ntS nt
    rw [if_pos (by omega)]
  · rw [if_neg c1]
    by_cases c2 : a = k ∧ b = i
    · obtain ⟨rfl, rfl⟩ := c2
      rw [if_pos ⟨rfl, rfl⟩]
      unfold ntS nt
      rw [if_pos (by omega), mnI_symm]
    · rw [if_neg c2]
      unfold ntS
      by_cases c : (a < i ∨ b < i) ∨ (a = i ∧ i < b ∧ b < k) ∨ (b = i ∧ i < a ∧ a < k)
      · rw [if_pos c, if_pos (by omega)]
      · rw [if_neg c, if_neg (by omega)]
theorem ntS_at (xs : List S54) {i k : Nat} (hk : i < k) : ntS xs i k i k = gr xs i k ∧ ntS xs i k k i = gr xs k i := by
  unfold ntS
  rw [if_neg (by omega), if_neg (by omega)]
  exact ⟨rfl, rfl⟩
theorem ntS_end (xs : List S54) {m a b : Nat} (ha : a < m) (hb : b < m) (k : Nat) : ntS xs m k a b = nt xs a b := by unfold ntS; rw [if_pos (.inl (.inl ha))]
/-- The claims of a table, row by row. -/
def clRow (F : Nat → Int) (i : Nat) : Nat → Nat → List S54
  | _, 0 => []
  | j, d + 1 => (if 0 < F j then [⟨i, j, F j⟩] else []) ++ clRow F i (j + 1) d
def clAll (F : Nat → Nat → Int) (m : Nat) : Nat → Nat → List S54
  | _, 0 => []
  | i, d + 1 => clRow (F i) i 0 m ++ clAll F m (i + 1) d
theorem clRow_len (F : Nat → Int) (i : Nat) : ∀ (d j : Nat), (clRow F i j d).length ≤ d
  | 0, _ => by simp [clRow]
  | d + 1, j => by
    have := clRow_len F i d (j + 1)
    rw [clRow, List.length_append]
    split <;> simp <;> omega
theorem clAll_len (F : Nat → Nat → Int) (m : Nat) : ∀ (d i : Nat), (clAll F m i d).length ≤ d * m
  | 0, _ => by simp [clAll]
  | d + 1, i => by
    have h1 := clAll_len F m d (i + 1)
    have h2 := clRow_len (F i) i m 0
    rw [clAll, List.length_append, Nat.succ_mul]
    omega
theorem ix_lt {i j m : Nat} (hi : i < m) (hj : j < m) : i * m + j < m * m := by
  have : (i + 1) * m ≤ m * m := Nat.mul_le_mul_right _ hi
  rw [Nat.succ_mul] at this
  omega
theorem specClaims_l1 (T : List Int) (m : Nat) (F : Nat → Nat → Int) (hm : m ≤ 8) (hT : T.length = m * m) (hF : ∀ i j, i < m → j < m → T.getD (i * m + j) 0 = F i j) (i : Nat) (hi : i < m) (next : ∀ out : List S54, out.length ≤ (i + 1) * m → Ev (fun k => spec_l16Claims.l0 k T m out (wrap64 ((i : Int) + 1))) (out ++ clAll F m (i + 1) (m - (i + 1)))) :
    ∀ (d j : Nat) (out : List S54), j + d = m → out.length ≤ i * m + j → Ev (fun k => spec_l16Claims.l1 k T m out i j) (out ++ (clRow (F i) i j d ++ clAll F m (i + 1) (m - (i + 1)))) := by
  intro d
  induction d with
  | zero =>
    intro j out hj ho
    refine evSucc ?_
    simp only [spec_l16Claims.l1]
    refine evNeg (by omega) ?_
    rw [clRow, List.nil_append]
    exact next out (by rw [Nat.succ_mul]; omega)
  | succ d ih =>
    intro j out hj ho
    have hjm : j < m := by omega
    have hix := ix_lt hi hjm
    have hmm : m * m ≤ 64 := Nat.mul_le_mul (show m ≤ 8 from hm) hm
    have hc : ((i : Int) * (m : Int)) = ((i * m : Nat) : Int) := by simp
    have e : wrap64 (wrap64 ((i : Int) * (m : Int)) + (j : Int)) = ((i * m + j : Nat) : Int) := by
      rw [hc, wrapId (x := ((i * m : Nat) : Int)) (by omega), wrapId (by omega)]
      omega
    have hr : rd T ((i * m + j : Nat) : Int) = F i j := by rw [rd, Int.toNat_natCast]; exact hF i j hi hjm
    have ej : wrap64 ((j : Int) + 1) = ((j + 1 : Nat) : Int) := by rw [wrapId (by omega)]; omega
    refine evSucc ?_
    simp only [spec_l16Claims.l1, e, hr, ej]
    refine evPos (by omega) ?_
    refine evPos (by omega) ?_
    refine evPos (by omega) ?_
    rw [clRow]
    refine evIte (fun c => ?_) (fun c => ?_)
    · rw [if_pos c]
      refine evPos (by omega) ?_
      refine evEq (ih (j + 1) _ (by omega) (by simp; omega)) (by simp)
    · rw [if_neg c, List.nil_append]
      exact ih (j + 1) out (by omega) (by omega)
theorem specClaims_l0 (T : List Int) (m : Nat) (F : Nat → Nat → Int) (hm : m ≤ 8) (hT : T.length = m * m) (hF : ∀ i j, i < m → j < m → T.getD (i * m + j) 0 = F i j) : ∀ (d i : Nat) (out : List S54), i + d = m → out.length ≤ i * m → Ev (fun k => spec_l16Claims.l0 k T m out i) (out ++ clAll F m i d) := by
  intro d
  induction d with
  | zero =>
    intro i out hi ho
    refine evSucc ?_
    simp only [spec_l16Claims.l0]
    refine evNeg (by omega) (evSome ?_)
    simp [clAll]
  | succ d ih =>
    intro i out hi ho
    refine evSucc ?_
    simp only [spec_l16Claims.l0]
    refine evPos (by omega) ?_
    have e : d = m - (i + 1) := by omega
    rw [clAll, e]
    refine specClaims_l1 T m F hm hT hF i (by omega) (fun out2 h2 => ?_) m 0 out (by omega) (by omega)
    rw [show wrap64 ((i : Int) + 1) = ((i + 1 : Nat) : Int) from by rw [wrapId (by omega)]; omega, ← e]
    exact ih (i + 1) out2 (by omega) h2
theorem specClaims_ev (T : List Int) (m : Nat) (F : Nat → Nat → Int) (hm : m ≤ 8) (hT : T.length = m * m) (hF : ∀ i j, i < m → j < m → T.getD (i * m + j) 0 = F i j) : Ev (fun k => spec_l16Claims.f k T m) (clAll F m 0 m) := by
  simp only [spec_l16Claims.f]
  exact evEq (specClaims_l0 T m F hm hT hF m 0 [] (by omega) (by simp)) (by simp)
theorem ar1 {q j d m len : Nat} (hj : j + (d + 1) = m) (ho : len ≤ q + j) : j + 1 + d = m ∧ len + 1 ≤ q + (j + 1) ∧ len ≤ q + (j + 1) ∧ j < m := ⟨by omega, by omega, by omega, by omega⟩
theorem rowsGet {m i : Nat} (M : Nat → List Int) (hi : i < m) : rd_L3 ((List.range m).map M) (i : Int) = M i := by
  rw [rd_L3, Int.toNat_natCast, List.getD_eq_getElem?_getD, List.getElem?_map, List.getElem?_range hi]
  rfl
theorem ar2 {j m : Nat} (h : j < m) (hm : m ≤ 8) : -9223372036854775808 ≤ (j : Int) + 1 ∧ (j : Int) + 1 ≤ 9223372036854775807 := by omega
theorem implClaims_l1 (M : Nat → List Int) (m : Nat) (F : Nat → Nat → Int) (hm : m ≤ 8) (hT : ∀ i, i < m → (M i).length = m) (hF : ∀ i j, i < m → j < m → (M i).getD j 0 = F i j) (i : Nat) (hi : i < m) (next : ∀ out : List S54, out.length ≤ (i + 1) * m → Ev (fun k => impl_claimsIn.l0 k out ((List.range m).map M) m (wrap64 ((i : Int) + 1))) (out ++ clAll F m (i + 1) (m - (i + 1)))) :
    ∀ (d j : Nat) (out : List S54), j + d = m → out.length ≤ i * m + j → Ev (fun k => impl_claimsIn.l1 k out i ((List.range m).map M) m i (M i) m j) (out ++ (clRow (F i) i j d ++ clAll F m (i + 1) (m - (i + 1)))) := by
  intro d
  induction d with
  | zero =>
    intro j out hj ho
    refine evSucc ?_
    simp only [impl_claimsIn.l1]
    refine evNeg (by omega) ?_
    rw [clRow, List.nil_append]
    exact next out (by rw [Nat.succ_mul]; omega)
  | succ d ih =>
    intro j out hj ho
    obtain ⟨q1, q2, q3, hjm⟩ := ar1 (q := i * m) hj ho
    have hix := ix_lt hi hjm
    have hmm : m * m ≤ 64 := Nat.mul_le_mul (show m ≤ 8 from hm) hm
    have hl := hT i hi
    have hr : rd (M i) (j : Int) = F i j := by rw [rd, Int.toNat_natCast]; exact hF i j hi hjm
    have ej : wrap64 ((j : Int) + 1) = ((j + 1 : Nat) : Int) := by rw [wrapId (ar2 hjm hm)]; omega
    have g1 : (j : Int) < (m : Int) := Int.ofNat_lt.mpr hjm
    have g2 : (0 : Int) ≤ (j : Int) := Int.natCast_nonneg j
    have g3 : (j : Int) < ((M i).length : Int) := by rw [hl]; exact g1
    have g4 : out.length < 5864062014805 := Nat.lt_of_le_of_lt ho (Nat.lt_trans hix (Nat.lt_of_le_of_lt hmm (by decide)))
    refine evSucc ?_
    simp only [impl_claimsIn.l1, hr, ej]
    refine evPos g1 ?_
    refine evPos g2 ?_
    refine evPos g3 ?_
    rw [clRow]
    refine evIte (fun c => ?_) (fun c => ?_)
    · rw [if_pos c]
      refine evPos g4 ?_
      refine evEq (ih (j + 1) _ q1 (by rw [List.length_append, List.length_singleton]; exact q2)) (by simp)
    · rw [if_neg c, List.nil_append]
      exact ih (j + 1) out q1 q3
theorem implClaims_l0 (M : Nat → List Int) (m : Nat) (F : Nat → Nat → Int) (hm : m ≤ 8) (hT : ∀ i, i < m → (M i).length = m) (hF : ∀ i j, i < m → j < m → (M i).getD j 0 = F i j) : ∀ (d i : Nat) (out : List S54), i + d = m → out.length ≤ i * m → Ev (fun k => impl_claimsIn.l0 k out ((List.range m).map M) m i) (out ++ clAll F m i d) := by
  intro d
  induction d with
  | zero =>
    intro i out hi ho
    refine evSucc ?_
    simp only [impl_claimsIn.l0]
    refine evNeg (by omega) (evSome ?_)
    simp [clAll]
  | succ d ih =>
    intro i out hi ho
    have him : i < m := by omega
    refine evSucc ?_
    simp only [impl_claimsIn.l0, rowsGet M him, hT i him]
    refine evPos (by omega) ?_
    refine evPos (by omega) ?_
    refine evPos (by simp; omega) ?_
    have e : d = m - (i + 1) := by omega
    rw [clAll, e]
    refine implClaims_l1 M m F hm hT hF i him (fun out2 h2 => ?_) m 0 out (by omega) (by omega)
    rw [show wrap64 ((i : Int) + 1) = ((i + 1 : Nat) : Int) from by rw [wrapId (by omega)]; omega, ← e]
    exact ih (i + 1) out2 (by omega) h2
theorem implClaims_ev (M : Nat → List Int) (m : Nat) (F : Nat → Nat → Int) (hm : m ≤ 8) (hT : ∀ i, i < m → (M i).length = m) (hF : ∀ i j, i < m → j < m → (M i).getD j 0 = F i j) : Ev (fun k => impl_claimsIn.f k ((List.range m).map M)) (clAll F m 0 m) := by
  simp only [impl_claimsIn.f, List.length_map, List.length_range]
  exact evEq (implClaims_l0 M m F hm hT hF m 0 [] (by omega) (by simp)) (by simp)
def bilA (xs : List S54) (p : Int) : List S54 × Bool := if goodC xs p = true then (clAll (nt xs) p.toNat 0 p.toNat, true) else ([], false)
theorem bilA_len (xs : List S54) (p : Int) : (bilA xs p).1.length ≤ 64 := by
  unfold bilA
  split
  · rename_i g
    have := (of_decide_eq_true g).1
    have h := clAll_len (nt xs) p.toNat p.toNat 0
    have hmm : p.toNat * p.toNat ≤ 8 * 8 := Nat.mul_le_mul (by omega) (by omega)
    show (clAll (nt xs) p.toNat 0 p.toNat).length ≤ 64
    omega
  · simp

def minI (a b : Int) : Int := if b < a then b else a
theorem l1Least_eq (a b : Int) : spec_l1Least.f a b = some (minI a b) := by
  unfold spec_l1Least.f minI
  repeat (first | rfl | (congr 1; omega) | omega | split)
theorem minI_bd (a b : Int) : (minI a b = a ∨ minI a b = b) ∧ minI a b ≤ a ∧ minI a b ≤ b := by unfold minI; split <;> omega
end Go.Proofs.Ytaobdjdmmhglaaa.Pure
