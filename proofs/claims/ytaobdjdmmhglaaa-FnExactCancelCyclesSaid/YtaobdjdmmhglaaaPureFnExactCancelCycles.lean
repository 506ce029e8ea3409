/- The plain law of FnExactCancelCycles: the printed functions that it uses answer as plain Lean functions do. No other condition. -/
import Derived.Test.YtaobdjdmmhglaaaPFnExactCancelCyclesx0
import Derived.Test.YtaobdjdmmhglaaaPFnExactCancelCyclesx1
import Derived.Test.YtaobdjdmmhglaaaPFnExactCancelCyclesx2
import Derived.Test.YtaobdjdmmhglaaaPFnExactCancelCyclesx4
import Derived.Test.YtaobdjdmmhglaaaEvKit
import Derived.Test.YtaobdjdmmhglaaaKReads
namespace Go.Proofs.Ytaobdjdmmhglaaa.Pure
open Go.RowKit Go.Proofs.YtaobdjdmmhglaaaW.PrintWords Go.Proofs.YtaobdjdmmhglaaaW.PrintLast Go.Proofs.YtaobdjdmmhglaaaW.PrintMore Go.Proofs.Ytaobdjdmmhglaaa.PFnExactCancelCycles Go.Proofs.Ytaobdjdmmhglaaa.EvKit
set_option linter.unusedVariables false
set_option linter.unusedSimpArgs false

theorem rd_T54_at {xs pre t : List S54} {a : S54} (h : xs = pre ++ a :: t) {i : Int} (hi : i = pre.length) : rd_T54 xs i = a := getD_at h hi


theorem rd_T56_at {xs pre t : List S56} {a : S56} (h : xs = pre ++ a :: t) {i : Int} (hi : i = pre.length) : rd_T56 xs i = a := getD_at h hi


def cv_Claim (x : S56) : S54 := ⟨x.f0, x.f1, x.f2⟩
theorem toClaimS_l0 (xs : List S56) (hn : xs.length ≤ 1048576) : ∀ (rest pre : List S56) (cur : List S54) (i : Int), xs = pre ++ rest → i = pre.length → (∃ tl : List S54, tl.length = rest.length ∧ cur = pre.map cv_Claim ++ tl) →
    Ev (fun k => laws_toClaimS.l0 k xs cur i) (xs.map cv_Claim) := by
  intro rest
  induction rest with
  | nil =>
    intro pre cur i h hi hc
    obtain ⟨tl, ht, rfl⟩ := hc
    have hl := len_nil h
    refine evSucc ?_
    simp only [laws_toClaimS.l0]
    refine evNeg (by omega) ?_
    refine evSome ?_
    have : tl = [] := List.length_eq_zero_iff.mp ht
    subst this
    rw [h]; simp
  | cons a t ih =>
    intro pre cur i h hi hc
    obtain ⟨tl, ht, hcur⟩ := hc
    have hl := len_cons h
    obtain ⟨b, tl, rfl⟩ : ∃ b tl', tl = b :: tl' := by
      cases tl with
      | nil => simp at ht
      | cons b tl => exact ⟨b, tl, rfl⟩
    have hcl := len_cons hcur
    simp at hcl
    refine evSucc ?_
    simp only [laws_toClaimS.l0]
    refine evPos (by omega) ?_
    refine evPos (by omega) ?_
    simp only [laws_toClaim.f, rd_T56_at h hi, Option.bind_some]
    refine evPos (by omega) ?_
    refine ih (pre ++ [a]) _ _ (snoc h) ?_ ⟨tl, by simpa using ht, ?_⟩
    · rw [wrapId (by omega), len_snoc]; omega
    · rw [set_at hcur (by simpa using hi)]; simp [cv_Claim]
theorem toClaimS_ev (xs : List S56) (hn : xs.length ≤ 1048576) : Ev (fun k => laws_toClaimS.f k xs) (xs.map cv_Claim) := by
  simp only [laws_toClaimS.f]
  refine evPos (by omega) ?_
  refine evPos (by omega) ?_
  exact toClaimS_l0 xs hn xs [] _ 0 rfl rfl ⟨List.replicate xs.length z54, by simp, by simp⟩
theorem szClaimS_eq (xs : List S56) (h : xs.length ≤ 9223372036854775807) : laws_szClaimS.f xs 1048576 = some (if xs.length ≤ 1048576 then 1048576 - (xs.length : Int) else -1) := by
  simp only [laws_szClaimS.f]
  rw [wrapId (by omega)]
  by_cases c : xs.length ≤ 1048576
  · rw [if_neg (by omega), if_pos c]
  · rw [if_pos (by omega), if_neg c]


theorem eqClaimS_l0 (xs : List S54) (hn : xs.length ≤ 9223372036854775806) : ∀ (rest pre : List S54) (i : Int), xs = pre ++ rest → i = pre.length → Ev (fun k => laws_eqClaimS.l0 k xs xs i) true := by
  intro rest
  induction rest with
  | nil =>
    intro pre i h hi
    have hl := len_nil h
    refine evSucc ?_
    simp only [laws_eqClaimS.l0]
    refine evNeg (by omega) ?_
    exact evSome rfl
  | cons a t ih =>
    intro pre i h hi
    have hl := len_cons h
    refine evSucc ?_
    simp only [laws_eqClaimS.l0]
    refine evPos (by omega) ?_
    refine evPos (by omega) ?_
    refine evPos (by omega) ?_
    refine evBindS (a := true) (by simp [laws_eqClaim.f]) ?_
    refine evPos (by trivial) ?_
    exact ih (pre ++ [a]) _ (snoc h) (by rw [wrapId (by omega), len_snoc]; omega)
theorem eqClaimS_ev (xs : List S54) (hn : xs.length ≤ 9223372036854775806) : Ev (fun k => laws_eqClaimS.f k xs xs) true := by
  simp only [laws_eqClaimS.f]
  exact evPos (by trivial) (eqClaimS_l0 xs hn xs [] 0 rfl rfl)


def upS_Claim : Nat → Int → List S54
  | 0, _ => []
  | c + 1, m => ⟨m, m + 1, m + 2⟩ :: upS_Claim c (m + 3)
theorem upS_Claim_length : ∀ (c : Nat) (m : Int), (upS_Claim c m).length = c
  | 0, _ => rfl
  | c + 1, m => by simp [upS_Claim, upS_Claim_length c]
theorem markClaimS_l0 : ∀ (rest pre : List S54) (xs : List S54) (m i : Int), xs = pre ++ rest → i = pre.length → 0 ≤ m → m + 3 * rest.length ≤ 9223372036854775807 → pre.length + rest.length ≤ 9223372036854775806 →
    Ev (fun k => laws_markClaimS.l0 k xs m i) (m + 3 * rest.length, pre ++ upS_Claim rest.length m) := by
  intro rest
  induction rest with
  | nil =>
    intro pre xs m i h hi h0 h1 h2
    have hl := len_nil h
    refine evSucc ?_
    simp only [laws_markClaimS.l0]
    refine evNeg (by omega) ?_
    exact evSome (by simp [h, upS_Claim])
  | cons a t ih =>
    intro pre xs m i h hi h0 h1 h2
    have hl := len_cons h
    subst h
    simp only [List.length_cons] at h1 h2
    have hrd : ∀ b : S54, rd_T54 (pre ++ b :: t) i = b := fun b => rd_T54_at rfl hi
    have hset : ∀ b c : S54, (pre ++ b :: t).set i.toNat c = pre ++ c :: t := fun b c => set_at rfl hi
    have w1 : wrap64 (m + 1) = m + 1 := (wrapId (by omega)).trans (by omega)
    have w2 : wrap64 (m + 1 + 1) = m + 2 := (wrapId (by omega)).trans (by omega)
    have w3 : wrap64 (m + 2 + 1) = m + 3 := (wrapId (by omega)).trans (by omega)
    refine evSucc ?_
    simp only [laws_markClaimS.l0, Option.bind_some, hrd, hset, w1, w2, w3]
    refine evPos (by omega) ?_
    refine evPos (by omega) ?_
    refine evEq (ih (pre ++ [⟨m, m + 1, m + 2⟩]) _ (m + 3) _ (by simp) ?_ ?_ ?_ ?_) ?_
    · rw [wrapId (by omega), len_snoc]; omega
    · omega
    · omega
    · simp; omega
    · simp [upS_Claim]; omega
theorem markClaimS_ev (xs : List S54) (m : Int) (h0 : 0 ≤ m) (h1 : m + 3 * xs.length ≤ 9223372036854775807) (h2 : xs.length ≤ 9223372036854775806) : Ev (fun k => laws_markClaimS.f k xs m) (m + 3 * xs.length, upS_Claim xs.length m) := by
  simp only [laws_markClaimS.f]
  exact evEq (markClaimS_l0 xs [] xs m 0 rfl rfl h0 h1 (by simpa using h2)) (by simp)


theorem heldClaimS_l0 : ∀ (n : Nat) (pre : List S54) (xs : List S54) (m i : Int), xs = pre ++ upS_Claim n m → i = pre.length → 0 ≤ m → m + 3 * n ≤ 9223372036854775807 → pre.length + n ≤ 9223372036854775806 →
    Ev (fun k => laws_heldClaimS.l0 k xs m i) (m + 3 * n) := by
  intro n
  induction n with
  | zero =>
    intro pre xs m i h hi h0 h1 h2
    have hl := len_nil h
    refine evSucc ?_
    simp only [laws_heldClaimS.l0]
    refine evNeg (by omega) ?_
    exact evSome (by simp)
  | succ n ih =>
    intro pre xs m i h hi h0 h1 h2
    have h' : xs = pre ++ ⟨m, m + 1, m + 2⟩ :: upS_Claim n (m + 3) := h
    have hl := len_cons h'
    rw [upS_Claim_length] at hl
    have hrd := rd_T54_at h' hi
    have w1 : wrap64 (m + 1) = m + 1 := (wrapId (by omega)).trans (by omega)
    have w2 : wrap64 (m + 1 + 1) = m + 2 := (wrapId (by omega)).trans (by omega)
    have w3 : wrap64 (m + 2 + 1) = m + 3 := (wrapId (by omega)).trans (by omega)
    refine evSucc ?_
    simp only [laws_heldClaimS.l0, hrd, w1, w2, w3]
    repeat (first | with_reducible refine evPos True.intro ?_ | with_reducible refine evPos (by omega) ?_)
    refine evEq (ih (pre ++ [⟨m, m + 1, m + 2⟩]) _ (m + 3) _ (snoc h') ?_ ?_ ?_ ?_) ?_
    · rw [wrapId (by omega), len_snoc]; omega
    · omega
    · omega
    · simp; omega
    · omega
theorem heldClaimS_ev (n : Nat) (m : Int) (h0 : 0 ≤ m) (h1 : m + 3 * n ≤ 9223372036854775807) (h2 : n ≤ 9223372036854775806) : Ev (fun k => laws_heldClaimS.f k (upS_Claim n m) m) (m + 3 * n) := by
  simp only [laws_heldClaimS.f]
  exact heldClaimS_l0 n [] _ m 0 rfl rfl h0 h1 (by simpa using h2)

theorem within_eq (a b c : Int) : impl_within.f a b c = some (decide (b ≤ a ∧ a ≤ c)) := by
  unfold impl_within.f
  by_cases h : a ≥ b
  · rw [if_pos h]; exact congrArg some (decide_eq_decide.mpr ⟨fun g => ⟨h, g⟩, fun g => g.2⟩)
  · rw [if_neg h]; exact congrArg some (decide_eq_false (fun g => h g.1)).symm
theorem l1In_eq (a b c : Int) : spec_l1In.f a b c = some (decide (b ≤ a ∧ a ≤ c)) := by
  unfold spec_l1In.f
  by_cases h : a ≥ b
  · rw [if_pos h]; exact congrArg some (decide_eq_decide.mpr ⟨fun g => ⟨h, g⟩, fun g => g.2⟩)
  · rw [if_neg h]; exact congrArg some (decide_eq_false (fun g => h g.1)).symm

theorem isAmount_eq (a : Int) : impl_isAmount.f a = some (decide (-1000000000 ≤ a ∧ a ≤ 1000000000)) := by
  unfold impl_isAmount.f; rw [within_eq]; rfl

def okC (p : Int) (a : S54) : Prop := (0 ≤ a.f0 ∧ a.f0 ≤ p - 1) ∧ (0 ≤ a.f1 ∧ a.f1 ≤ p - 1) ∧ a.f0 ≠ a.f1 ∧ (1 ≤ a.f2 ∧ a.f2 ≤ 1000000000)
instance (p : Int) (a : S54) : Decidable (okC p a) := by unfold okC; infer_instance
def sumC : List S54 → Int
  | [] => 0
  | a :: t => a.f2 + sumC t
theorem sumC_snoc (p : List S54) (a : S54) : sumC (p ++ [a]) = sumC p + a.f2 := by
  induction p with
  | nil => simp [sumC]
  | cons b t ih => simp only [List.cons_append, sumC, ih]; omega
theorem sumC_append (p q : List S54) : sumC (p ++ q) = sumC p + sumC q := by
  induction p with
  | nil => simp [sumC]
  | cons b t ih => simp only [List.cons_append, sumC, ih]; omega
theorem sumC_bd {n : Int} (p : List S54) (h : ∀ a ∈ p, okC n a) : 0 ≤ sumC p ∧ sumC p ≤ 1000000000 * p.length := by
  induction p with
  | nil => simp [sumC]
  | cons b t ih =>
    have h1 := ih (fun a ha => h a (List.mem_cons_of_mem _ ha))
    have h2 := (h b List.mem_cons_self).2.2.2
    simp only [sumC, List.length_cons]
    omega
def goodC (xs : List S54) (p : Int) : Bool := decide ((2 ≤ p ∧ p ≤ 8) ∧ xs.length ≤ 20 ∧ (∀ a ∈ xs, okC p a) ∧ sumC xs ≤ 1000000000)
theorem okC_snoc {n : Int} {pre : List S54} {a : S54} (hok : ∀ b ∈ pre, okC n b) (ha : okC n a) : ∀ b ∈ pre ++ [a], okC n b := by
  intro b hb
  rcases List.mem_append.mp hb with g | g
  · exact hok b g
  · rw [List.mem_singleton.mp g]; exact ha
theorem implValidC_l0 (p : Int) (hp : 2 ≤ p ∧ p ≤ 8) (xs : List S54) (hn : xs.length ≤ 20) : ∀ (rest pre : List S54) (i : Int), xs = pre ++ rest → i = pre.length → (∀ a ∈ pre, okC p a) → Ev (fun k => impl_IsValidClaims.l0 k p (sumC pre) xs (xs.length : Int) i) (goodC xs p) := by
  have hw : wrap64 (p - 1) = p - 1 := wrapId (by omega)
  intro rest
  induction rest with
  | nil =>
    intro pre i h hi hok
    have hl := len_nil h
    have hx : xs = pre := by simpa using h
    have hb := sumC_bd pre hok
    refine evSucc ?_
    simp only [impl_IsValidClaims.l0, isAmount_eq, Option.bind_some]
    refine evNeg (by omega) ?_
    refine evSome ?_
    unfold goodC
    rw [decide_eq_decide, hx]
    exact ⟨fun g => ⟨hp, by rw [← hx]; exact hn, hok, g.2⟩, fun g => ⟨by omega, g.2.2.2⟩⟩
  | cons a t ih =>
    intro pre i h hi hok
    have hl := len_cons h
    have hb := sumC_bd pre hok
    have ha : a ∈ xs := by rw [h]; simp
    refine evSucc ?_
    simp only [impl_IsValidClaims.l0, within_eq, Option.bind_some, decide_eq_true_eq, rd_T54_at h hi, hw]
    refine evPos (by omega) ?_
    refine evPos (by omega) ?_
    refine evPos (by omega) ?_
    have bad : ¬ okC p a → false = goodC xs p := fun n => (decide_eq_false (fun g => n (g.2.2.1 a ha))).symm
    refine evIte (fun c1 => ?_) (fun c1 => evSome (bad (fun g => c1 g.1)))
    refine evIte (fun c2 => ?_) (fun c2 => evSome (bad (fun g => c2 g.2.1)))
    refine evIte (fun c3 => evSome (bad (fun g => g.2.2.1 c3))) (fun c3 => ?_)
    refine evIte (fun c4 => ?_) (fun c4 => evSome (bad (fun g => c4 g.2.2.2)))
    have e : wrap64 (sumC pre + a.f2) = sumC (pre ++ [a]) := by rw [sumC_snoc, wrapId (by omega)]
    rw [e]
    exact ih (pre ++ [a]) _ (snoc h) (by rw [wrapId (by omega), len_snoc]; omega) (okC_snoc hok ⟨c1, c2, c3, c4⟩)
theorem implValidC_ev (xs : List S54) (p : Int) (hn : xs.length ≤ 1048576) : Ev (fun k => impl_IsValidClaims.f k xs p) (goodC xs p) := by
  simp only [impl_IsValidClaims.f, within_eq, Option.bind_some, decide_eq_true_eq]
  refine evIte (fun c1 => ?_) (fun c1 => ?_)
  · refine evSucc ?_
    simp only [impl_IsValidClaims.j0, decide_eq_true_eq]
    refine evIte (fun c2 => ?_) (fun c2 => ?_)
    · exact evSome (decide_eq_false (fun g => by have := g.2.1; omega)).symm
    · exact implValidC_l0 p c1 xs (by omega) xs [] 0 rfl rfl (by simp)
  · refine evSucc ?_
    simp only [impl_IsValidClaims.j0]
    exact evPos (by trivial) (evSome (decide_eq_false (fun g => c1 g.1)).symm)
theorem specGross_l0 (p : Int) (xs : List S54) (hn : xs.length ≤ 20) (hok : ∀ a ∈ xs, okC p a) : ∀ (rest pre : List S54) (i : Int), xs = pre ++ rest → i = pre.length → Ev (fun k => spec_l16Gross.l0 k xs (sumC pre) i) (sumC xs) := by
  intro rest
  induction rest with
  | nil =>
    intro pre i h hi
    have hl := len_nil h
    refine evSucc ?_
    simp only [spec_l16Gross.l0]
    refine evNeg (by omega) ?_
    exact evSome (by rw [h]; simp)
  | cons a t ih =>
    intro pre i h hi
    have hl := len_cons h
    have hp : ∀ b ∈ pre, okC p b := fun b hb => hok b (by rw [h]; simp [hb])
    have hb := sumC_bd pre hp
    have ha := (hok a (by rw [h]; simp)).2.2.2
    refine evSucc ?_
    simp only [spec_l16Gross.l0, rd_T54_at h hi]
    refine evPos (by omega) ?_
    refine evPos (by omega) ?_
    have e : wrap64 (sumC pre + a.f2) = sumC (pre ++ [a]) := by rw [sumC_snoc, wrapId (by omega)]
    rw [e]
    exact ih (pre ++ [a]) _ (snoc h) (by rw [wrapId (by omega), len_snoc]; omega)
theorem specGross_ev (p : Int) (xs : List S54) (hn : xs.length ≤ 20) (hok : ∀ a ∈ xs, okC p a) : Ev (fun k => spec_l16Gross.f k xs) (sumC xs) := by
  simp only [spec_l16Gross.f]
  exact specGross_l0 p xs hn hok xs [] 0 rfl rfl
theorem specGoodC_l0 (p : Int) (hp : 2 ≤ p ∧ p ≤ 8) (xs : List S54) (hn : xs.length ≤ 20) : ∀ (rest pre : List S54) (i : Int), xs = pre ++ rest → i = pre.length → (∀ a ∈ pre, okC p a) → Ev (fun k => spec_l16Good.l0 k xs p i) (goodC xs p) := by
  have hw : wrap64 (p - 1) = p - 1 := wrapId (by omega)
  intro rest
  induction rest with
  | nil =>
    intro pre i h hi hok
    have hl := len_nil h
    have hx : xs = pre := by simpa using h
    refine evSucc ?_
    simp only [spec_l16Good.l0]
    refine evNeg (by omega) ?_
    refine evBind (specGross_ev p xs hn (by rw [hx]; exact hok)) (evSome ?_)
    unfold goodC
    rw [decide_eq_decide]
    exact ⟨fun g => ⟨hp, hn, by rw [hx]; exact hok, g⟩, fun g => g.2.2.2⟩
  | cons a t ih =>
    intro pre i h hi hok
    have hl := len_cons h
    have ha : a ∈ xs := by rw [h]; simp
    refine evSucc ?_
    simp only [spec_l16Good.l0, l1In_eq, Option.bind_some, decide_eq_true_eq, rd_T54_at h hi, hw]
    refine evPos (by omega) ?_
    refine evPos (by omega) ?_
    have bad : ¬ okC p a → false = goodC xs p := fun n => (decide_eq_false (fun g => n (g.2.2.1 a ha))).symm
    refine evIte (fun c1 => ?_) (fun c1 => evSome (bad (fun g => c1 g.1)))
    refine evIte (fun c2 => ?_) (fun c2 => evSome (bad (fun g => c2 g.2.1)))
    refine evIte (fun c3 => evSome (bad (fun g => g.2.2.1 c3))) (fun c3 => ?_)
    refine evIte (fun c4 => ?_) (fun c4 => evSome (bad (fun g => c4 g.2.2.2)))
    exact ih (pre ++ [a]) _ (snoc h) (by rw [wrapId (by omega), len_snoc]; omega) (okC_snoc hok ⟨c1, c2, c3, c4⟩)
theorem specGoodC_ev (xs : List S54) (p : Int) (hn : xs.length ≤ 1048576) : Ev (fun k => spec_l16Good.f k xs p) (goodC xs p) := by
  simp only [spec_l16Good.f, l1In_eq, Option.bind_some, decide_eq_true_eq]
  refine evIte (fun c1 => ?_) (fun c1 => ?_)
  · refine evSucc ?_
    simp only [spec_l16Good.j0, decide_eq_true_eq]
    refine evIte (fun c2 => ?_) (fun c2 => ?_)
    · exact evSome (decide_eq_false (fun g => by have := g.2.1; omega)).symm
    · exact specGoodC_l0 p c1 xs (by omega) xs [] 0 rfl rfl (by simp)
  · refine evSucc ?_
    simp only [spec_l16Good.j0]
    exact evPos (by trivial) (evSome (decide_eq_false (fun g => c1 g.1)).symm)

/-- What i owes to j: the sum of the claims between them. -/
def gr : List S54 → Nat → Nat → Int
  | [], _, _ => 0
  | a :: t, i, j => (if a.f0 = (i : Int) ∧ a.f1 = (j : Int) then a.f2 else 0) + gr t i j
theorem gr_snoc (p : List S54) (a : S54) (i j : Nat) : gr (p ++ [a]) i j = gr p i j + (if a.f0 = (i : Int) ∧ a.f1 = (j : Int) then a.f2 else 0) := by
  induction p with
  | nil => simp [gr]
  | cons b t ih => simp only [List.cons_append, gr, ih]; omega
theorem gr_bd {n : Int} (p : List S54) (h : ∀ a ∈ p, okC n a) (i j : Nat) : 0 ≤ gr p i j ∧ gr p i j ≤ sumC p := by
  induction p with
  | nil => simp [gr, sumC]
  | cons b t ih =>
    have h1 := ih (fun a ha => h a (List.mem_cons_of_mem _ ha))
    have h2 := (h b List.mem_cons_self).2.2.2
    simp only [gr, sumC]
    split <;> omega
theorem gr_diag {n : Int} (p : List S54) (h : ∀ a ∈ p, okC n a) (i : Nat) : gr p i i = 0 := by
  induction p with
  | nil => rfl
  | cons b t ih =>
    have h1 := ih (fun a ha => h a (List.mem_cons_of_mem _ ha))
    have h2 := (h b List.mem_cons_self).2.2.1
    simp only [gr, h1]
    rw [if_neg (fun g => h2 (g.1.trans g.2.symm))]
    rfl
def mnI (a b : Int) : Int := if b < a then b else a
def nt (xs : List S54) (i j : Nat) : Int := gr xs i j - mnI (gr xs i j) (gr xs j i)
theorem mnI_symm (a b : Int) : mnI a b = mnI b a := by unfold mnI; split <;> split <;> omega
theorem nt_bd {n : Int} (xs : List S54) (h : ∀ a ∈ xs, okC n a) (hs : sumC xs ≤ 1000000000) (i j : Nat) : 0 ≤ nt xs i j ∧ nt xs i j ≤ 1000000000 := by
  have h1 := gr_bd xs h i j
  have h2 := gr_bd xs h j i
  unfold nt mnI
  split <;> omega
theorem nt_diag {n : Int} (xs : List S54) (h : ∀ a ∈ xs, okC n a) (i : Nat) : nt xs i i = 0 := by
  unfold nt mnI; rw [gr_diag xs h i]; split <;> omega
/-- The table while pairs (i, k), k below i, are netted. -/
def ntP (xs : List S54) (i k a b : Nat) : Int := if (a < i ∧ b < i) ∨ (a = i ∧ b < k) ∨ (b = i ∧ a < k) then nt xs a b else gr xs a b
/-- The table while pairs (i, k), k above i, are netted. -/
def ntS (xs : List S54) (i k a b : Nat) : Int := if (a < i ∨ b < i) ∨ (a = i ∧ i < b ∧ b < k) ∨ (b = i ∧ i < a ∧ a < k) then nt xs a b else gr xs a b
theorem ntP_start (xs : List S54) (a b : Nat) : ntP xs 0 0 a b = gr xs a b := by unfold ntP; rw [if_neg (by omega)]
theorem ntP_next {n : Int} (xs : List S54) (h : ∀ a ∈ xs, okC n a) (i a b : Nat) : ntP xs i i a b = ntP xs (i + 1) 0 a b := by
  unfold ntP
  by_cases c : (a < i ∧ b < i) ∨ (a = i ∧ b < i) ∨ (b = i ∧ a < i)
  · rw [if_pos c, if_pos (by omega)]
  · rw [if_neg c]
    by_cases d : a = i ∧ b = i
    · rw [if_pos (by omega), d.1, d.2, gr_diag xs h i, nt_diag xs h i]
    · rw [if_neg (by omega)]
theorem ntP_step (xs : List S54) {i k : Nat} (hk : k < i) (a b : Nat) : ntP xs i (k + 1) a b = if a = i ∧ b = k then gr xs i k - mnI (gr xs i k) (gr xs k i) else if a = k ∧ b = i then gr xs k i - mnI (gr xs i k) (gr xs k i) else ntP xs i k a b := by
  by_cases c1 : a = i ∧ b = k
  · obtain ⟨rfl, rfl⟩ := c1
    rw [if_pos ⟨rfl, rfl⟩]
    unfold ntP nt
    rw [if_pos (by omega)]
  · rw [if_neg c1]
    by_cases c2 : a = k ∧ b = i
    · obtain ⟨rfl, rfl⟩ := c2
      rw [if_pos ⟨rfl, rfl⟩]
      unfold ntP nt
      rw [if_pos (by omega), mnI_symm]
    · rw [if_neg c2]
      unfold ntP
      by_cases c : (a < i ∧ b < i) ∨ (a = i ∧ b < k) ∨ (b = i ∧ a < k)
      · rw [if_pos c, if_pos (by omega)]
      · rw [if_neg c, if_neg (by omega)]
theorem ntP_at (xs : List S54) {i k : Nat} (hk : k < i) : ntP xs i k i k = gr xs i k ∧ ntP xs i k k i = gr xs k i := by
  unfold ntP
  rw [if_neg (by omega), if_neg (by omega)]
  exact ⟨rfl, rfl⟩
theorem ntP_end (xs : List S54) {m a b : Nat} (ha : a < m) (hb : b < m) : ntP xs m 0 a b = nt xs a b := by unfold ntP; rw [if_pos (.inl ⟨ha, hb⟩)]
theorem ntS_start (xs : List S54) (a b : Nat) : ntS xs 0 1 a b = gr xs a b := by unfold ntS; rw [if_neg (by omega)]
theorem ntS_next {n : Int} (xs : List S54) (h : ∀ a ∈ xs, okC n a) {m : Nat} (i a b : Nat) (ha : a < m) (hb : b < m) : ntS xs i m a b = ntS xs (i + 1) (i + 1 + 1) a b := by
  unfold ntS
  by_cases c : (a < i ∨ b < i) ∨ (a = i ∧ i < b ∧ b < m) ∨ (b = i ∧ i < a ∧ a < m)
  · rw [if_pos c, if_pos (by omega)]
  · rw [if_neg c]
    by_cases d : a = i ∧ b = i
    · rw [if_pos (by omega), d.1, d.2, gr_diag xs h i, nt_diag xs h i]
    · rw [if_neg (by omega)]
theorem ntS_step (xs : List S54) {i k : Nat} (hk : i < k) (a b : Nat) : ntS xs i (k + 1) a b = if a = i ∧ b = k then gr xs i k - mnI (gr xs i k) (gr xs k i) else if a = k ∧ b = i then gr xs k i - mnI (gr xs i k) (gr xs k i) else ntS xs i k a b := by
  by_cases c1 : a = i ∧ b = k
  · obtain ⟨rfl, rfl⟩ := c1
    rw [if_pos ⟨rfl, rfl⟩]
    unfold ntS nt
    rw [if_pos (by omega)]
  · rw [if_neg c1]
    by_cases c2 : a = k ∧ b = i
    · obtain ⟨rfl, rfl⟩ := c2
      rw [if_pos ⟨rfl, rfl⟩]
      unfold ntS nt
      rw [if_pos (by omega), mnI_symm]
    · rw [if_neg c2]
      unfold ntS
      by_cases c : (a < i ∨ b < i) ∨ (a = i ∧ i < b ∧ b < k) ∨ (b = i ∧ i < a ∧ a < k)
      · rw [if_pos c, if_pos (by omega)]
      · rw [if_neg c, if_neg (by omega)]
theorem ntS_at (xs : List S54) {i k : Nat} (hk : i < k) : ntS xs i k i k = gr xs i k ∧ ntS xs i k k i = gr xs k i := by
  unfold ntS
  rw [if_neg (by omega), if_neg (by omega)]
  exact ⟨rfl, rfl⟩
theorem ntS_end (xs : List S54) {m a b : Nat} (ha : a < m) (hb : b < m) (k : Nat) : ntS xs m k a b = nt xs a b := by unfold ntS; rw [if_pos (.inl (.inl ha))]
/-- The claims of a table, row by row. -/
def clRow (F : Nat → Int) (i : Nat) : Nat → Nat → List S54
  | _, 0 => []
  | j, d + 1 => (if 0 < F j then [⟨i, j, F j⟩] else []) ++ clRow F i (j + 1) d
def clAll (F : Nat → Nat → Int) (m : Nat) : Nat → Nat → List S54
  | _, 0 => []
  | i, d + 1 => clRow (F i) i 0 m ++ clAll F m (i + 1) d
theorem clRow_len (F : Nat → Int) (i : Nat) : ∀ (d j : Nat), (clRow F i j d).length ≤ d
  | 0, _ => by simp [clRow]
  | d + 1, j => by
    have := clRow_len F i d (j + 1)
    rw [clRow, List.length_append]
    split <;> simp <;> omega
theorem clAll_len (F : Nat → Nat → Int) (m : Nat) : ∀ (d i : Nat), (clAll F m i d).length ≤ d * m
  | 0, _ => by simp [clAll]
  | d + 1, i => by
    have h1 := clAll_len F m d (i + 1)
    have h2 := clRow_len (F i) i m 0
    rw [clAll, List.length_append, Nat.succ_mul]
    omega
theorem ix_lt {i j m : Nat} (hi : i < m) (hj : j < m) : i * m + j < m * m := by
  have : (i + 1) * m ≤ m * m := Nat.mul_le_mul_right _ hi
  rw [Nat.succ_mul] at this
  omega
theorem specClaims_l1 (T : List Int) (m : Nat) (F : Nat → Nat → Int) (hm : m ≤ 8) (hT : T.length = m * m) (hF : ∀ i j, i < m → j < m → T.getD (i * m + j) 0 = F i j) (i : Nat) (hi : i < m) (next : ∀ out : List S54, out.length ≤ (i + 1) * m → Ev (fun k => spec_l16Claims.l0 k T m out (wrap64 ((i : Int) + 1))) (out ++ clAll F m (i + 1) (m - (i + 1)))) :
    ∀ (d j : Nat) (out : List S54), j + d = m → out.length ≤ i * m + j → Ev (fun k => spec_l16Claims.l1 k T m out i j) (out ++ (clRow (F i) i j d ++ clAll F m (i + 1) (m - (i + 1)))) := by
  intro d
  induction d with
  | zero =>
    intro j out hj ho
    refine evSucc ?_
    simp only [spec_l16Claims.l1]
    refine evNeg (by omega) ?_
    rw [clRow, List.nil_append]
    exact next out (by rw [Nat.succ_mul]; omega)
  | succ d ih =>
    intro j out hj ho
    have hjm : j < m := by omega
    have hix := ix_lt hi hjm
    have hmm : m * m ≤ 64 := Nat.mul_le_mul (show m ≤ 8 from hm) hm
    have hc : ((i : Int) * (m : Int)) = ((i * m : Nat) : Int) := by simp
    have e : wrap64 (wrap64 ((i : Int) * (m : Int)) + (j : Int)) = ((i * m + j : Nat) : Int) := by
      rw [hc, wrapId (x := ((i * m : Nat) : Int)) (by omega), wrapId (by omega)]
      omega
    have hr : rd T ((i * m + j : Nat) : Int) = F i j := by rw [rd, Int.toNat_natCast]; exact hF i j hi hjm
    have ej : wrap64 ((j : Int) + 1) = ((j + 1 : Nat) : Int) := by rw [wrapId (by omega)]; omega
    refine evSucc ?_
    simp only [spec_l16Claims.l1, e, hr, ej]
    refine evPos (by omega) ?_
    refine evPos (by omega) ?_
    refine evPos (by omega) ?_
    rw [clRow]
    refine evIte (fun c => ?_) (fun c => ?_)
    · rw [if_pos c]
      refine evPos (by omega) ?_
      refine evEq (ih (j + 1) _ (by omega) (by simp; omega)) (by simp)
    · rw [if_neg c, List.nil_append]
      exact ih (j + 1) out (by omega) (by omega)
theorem specClaims_l0 (T : List Int) (m : Nat) (F : Nat → Nat → Int) (hm : m ≤ 8) (hT : T.length = m * m) (hF : ∀ i j, i < m → j < m → T.getD (i * m + j) 0 = F i j) : ∀ (d i : Nat) (out : List S54), i + d = m → out.length ≤ i * m → Ev (fun k => spec_l16Claims.l0 k T m out i) (out ++ clAll F m i d) := by
  intro d
  induction d with
  | zero =>
    intro i out hi ho
    refine evSucc ?_
    simp only [spec_l16Claims.l0]
    refine evNeg (by omega) (evSome ?_)
    simp [clAll]
  | succ d ih =>
    intro i out hi ho
    refine evSucc ?_
    simp only [spec_l16Claims.l0]
    refine evPos (by omega) ?_
    have e : d = m - (i + 1) := by omega
    rw [clAll, e]
    refine specClaims_l1 T m F hm hT hF i (by omega) (fun out2 h2 => ?_) m 0 out (by omega) (by omega)
    rw [show wrap64 ((i : Int) + 1) = ((i + 1 : Nat) : Int) from by rw [wrapId (by omega)]; omega, ← e]
    exact ih (i + 1) out2 (by omega) h2
theorem specClaims_ev (T : List Int) (m : Nat) (F : Nat → Nat → Int) (hm : m ≤ 8) (hT : T.length = m * m) (hF : ∀ i j, i < m → j < m → T.getD (i * m + j) 0 = F i j) : Ev (fun k => spec_l16Claims.f k T m) (clAll F m 0 m) := by
  simp only [spec_l16Claims.f]
  exact evEq (specClaims_l0 T m F hm hT hF m 0 [] (by omega) (by simp)) (by simp)
theorem ar1 {q j d m len : Nat} (hj : j + (d + 1) = m) (ho : len ≤ q + j) : j + 1 + d = m ∧ len + 1 ≤ q + (j + 1) ∧ len ≤ q + (j + 1) ∧ j < m := ⟨by omega, by omega, by omega, by omega⟩
theorem rowsGet {m i : Nat} (M : Nat → List Int) (hi : i < m) : rd_L3 ((List.range m).map M) (i : Int) = M i := by
  rw [rd_L3, Int.toNat_natCast, List.getD_eq_getElem?_getD, List.getElem?_map, List.getElem?_range hi]
  rfl
theorem ar2 {j m : Nat} (h : j < m) (hm : m ≤ 8) : -9223372036854775808 ≤ (j : Int) + 1 ∧ (j : Int) + 1 ≤ 9223372036854775807 := by omega
theorem implClaims_l1 (M : Nat → List Int) (m : Nat) (F : Nat → Nat → Int) (hm : m ≤ 8) (hT : ∀ i, i < m → (M i).length = m) (hF : ∀ i j, i < m → j < m → (M i).getD j 0 = F i j) (i : Nat) (hi : i < m) (next : ∀ out : List S54, out.length ≤ (i + 1) * m → Ev (fun k => impl_claimsIn.l0 k out ((List.range m).map M) m (wrap64 ((i : Int) + 1))) (out ++ clAll F m (i + 1) (m - (i + 1)))) :
    ∀ (d j : Nat) (out : List S54), j + d = m → out.length ≤ i * m + j → Ev (fun k => impl_claimsIn.l1 k out i ((List.range m).map M) m i (M i) m j) (out ++ (clRow (F i) i j d ++ clAll F m (i + 1) (m - (i + 1)))) := by
  intro d
  induction d with
  | zero =>
    intro j out hj ho
    refine evSucc ?_
    simp only [impl_claimsIn.l1]
    refine evNeg (by omega) ?_
    rw [clRow, List.nil_append]
    exact next out (by rw [Nat.succ_mul]; omega)
  | succ d ih =>
    intro j out hj ho
    obtain ⟨q1, q2, q3, hjm⟩ := ar1 (q := i * m) hj ho
    have hix := ix_lt hi hjm
    have hmm : m * m ≤ 64 := Nat.mul_le_mul (show m ≤ 8 from hm) hm
    have hl := hT i hi
    have hr : rd (M i) (j : Int) = F i j := by rw [rd, Int.toNat_natCast]; exact hF i j hi hjm
    have ej : wrap64 ((j : Int) + 1) = ((j + 1 : Nat) : Int) := by rw [wrapId (ar2 hjm hm)]; omega
    have g1 : (j : Int) < (m : Int) := Int.ofNat_lt.mpr hjm
    have g2 : (0 : Int) ≤ (j : Int) := Int.natCast_nonneg j
    have g3 : (j : Int) < ((M i).length : Int) := by rw [hl]; exact g1
    have g4 : out.length < 5864062014805 := Nat.lt_of_le_of_lt ho (Nat.lt_trans hix (Nat.lt_of_le_of_lt hmm (by decide)))
    refine evSucc ?_
    simp only [impl_claimsIn.l1, hr, ej]
    refine evPos g1 ?_
    refine evPos g2 ?_
    refine evPos g3 ?_
    rw [clRow]
    refine evIte (fun c => ?_) (fun c => ?_)
    · rw [if_pos c]
      refine evPos g4 ?_
      refine evEq (ih (j + 1) _ q1 (by rw [List.length_append, List.length_singleton]; exact q2)) (by simp)
    · rw [if_neg c, List.nil_append]
      exact ih (j + 1) out q1 q3
theorem implClaims_l0 (M : Nat → List Int) (m : Nat) (F : Nat → Nat → Int) (hm : m ≤ 8) (hT : ∀ i, i < m → (M i).length = m) (hF : ∀ i j, i < m → j < m → (M i).getD j 0 = F i j) : ∀ (d i : Nat) (out : List S54), i + d = m → out.length ≤ i * m → Ev (fun k => impl_claimsIn.l0 k out ((List.range m).map M) m i) (out ++ clAll F m i d) := by
  intro d
  induction d with
  | zero =>
    intro i out hi ho
    refine evSucc ?_
    simp only [impl_claimsIn.l0]
    refine evNeg (by omega) (evSome ?_)
    simp [clAll]
  | succ d ih =>
    intro i out hi ho
    have him : i < m := by omega
    refine evSucc ?_
    simp only [impl_claimsIn.l0, rowsGet M him, hT i him]
    refine evPos (by omega) ?_
    refine evPos (by omega) ?_
    refine evPos (by simp; omega) ?_
    have e : d = m - (i + 1) := by omega
    rw [clAll, e]
    refine implClaims_l1 M m F hm hT hF i him (fun out2 h2 => ?_) m 0 out (by omega) (by omega)
    rw [show wrap64 ((i : Int) + 1) = ((i + 1 : Nat) : Int) from by rw [wrapId (by omega)]; omega, ← e]
    exact ih (i + 1) out2 (by omega) h2
theorem implClaims_ev (M : Nat → List Int) (m : Nat) (F : Nat → Nat → Int) (hm : m ≤ 8) (hT : ∀ i, i < m → (M i).length = m) (hF : ∀ i j, i < m → j < m → (M i).getD j 0 = F i j) : Ev (fun k => impl_claimsIn.f k ((List.range m).map M)) (clAll F m 0 m) := by
  simp only [impl_claimsIn.f, List.length_map, List.length_range]
  exact evEq (implClaims_l0 M m F hm hT hF m 0 [] (by omega) (by simp)) (by simp)
def bilA (xs : List S54) (p : Int) : List S54 × Bool := if goodC xs p = true then (clAll (nt xs) p.toNat 0 p.toNat, true) else ([], false)
theorem bilA_len (xs : List S54) (p : Int) : (bilA xs p).1.length ≤ 64 := by
  unfold bilA
  split
  · rename_i g
    have := (of_decide_eq_true g).1
    have h := clAll_len (nt xs) p.toNat p.toNat 0
    have hmm : p.toNat * p.toNat ≤ 8 * 8 := Nat.mul_le_mul (by omega) (by omega)
    show (clAll (nt xs) p.toNat 0 p.toNat).length ≤ 64
    omega
  · simp

def minI (a b : Int) : Int := if b < a then b else a
theorem l1Least_eq (a b : Int) : spec_l1Least.f a b = some (minI a b) := by
  unfold spec_l1Least.f minI
  repeat (first | rfl | (congr 1; omega) | omega | split)
theorem minI_bd (a b : Int) : (minI a b = a ∨ minI a b = b) ∧ minI a b ≤ a ∧ minI a b ≤ b := by unfold minI; split <;> omega

/-- The first answer among x, x + 1, ... -/
def tryN (f : Int → Option (List Int)) : Nat → Int → Option (List Int)
  | 0, _ => none
  | d + 1, x => match f x with
    | some c => some c
    | none => tryN f d (x + 1)
theorem tryN_hit {f : Int → Option (List Int)} {d : Nat} {x : Int} {c : List Int} (h : f x = some c) : tryN f (d + 1) x = some c := by rw [tryN, h]
theorem tryN_miss {f : Int → Option (List Int)} {d : Nat} {x : Int} (h : f x = none) : tryN f (d + 1) x = tryN f d (x + 1) := by rw [tryN, h]
def hdI (p : List Int) : Int := p.headD 0
def lastI (p : List Int) : Int := p.getD (p.length - 1) 0
/-- The first cycle with d steps more that begins so. -/
def cycD (F : Nat → Nat → Int) (m : Nat) : Nat → List Int → Option (List Int)
  | 0, p => if 0 < F (lastI p).toNat (hdI p).toNat then some p else none
  | d + 1, p => tryN (fun x => if F (lastI p).toNat x.toNat = 0 ∨ x ∈ p then none else cycD F m d (p ++ [x])) ((m : Int) - (hdI p + 1)).toNat (hdI p + 1)
def firstL (F : Nat → Nat → Int) (m : Nat) : Nat → Nat → Option (List Int)
  | 0, _ => none
  | d + 1, len => match tryN (fun x => cycD F m (len - 1) [x]) m 0 with
    | some c => some c
    | none => firstL F m d (len + 1)
def firstC (F : Nat → Nat → Int) (m : Nat) : Option (List Int) := firstL F m (m - 1) 2
/-- A path: different parties, each owing to the next. -/
def pathOk (F : Nat → Nat → Int) (m : Nat) (p : List Int) : Prop := 0 < p.length ∧ (∀ x ∈ p, 0 ≤ x ∧ x < (m : Int)) ∧ p.Nodup ∧ ∀ i, i + 1 < p.length → 0 < F (p.getD i 0).toNat (p.getD (i + 1) 0).toNat
def cycOk (F : Nat → Nat → Int) (m : Nat) (c : List Int) : Prop := pathOk F m c ∧ 2 ≤ c.length ∧ c.length ≤ m ∧ 0 < F (lastI c).toNat (hdI c).toNat
theorem tryN_some {f : Int → Option (List Int)} {c : List Int} : ∀ (d : Nat) (x : Int), tryN f d x = some c → ∃ y, x ≤ y ∧ y < x + d ∧ f y = some c
  | 0, _, h => by simp [tryN] at h
  | d + 1, x, h => by
    rw [tryN] at h
    cases hf : f x with
    | some c' =>
      rw [hf] at h
      exact ⟨x, Int.le_refl _, by omega, by rw [hf]; exact h⟩
    | none =>
      rw [hf] at h
      obtain ⟨y, h1, h2, h3⟩ := tryN_some d (x + 1) h
      exact ⟨y, by omega, by omega, h3⟩
theorem lastI_snoc (p : List Int) (x : Int) : lastI (p ++ [x]) = x := by
  unfold lastI
  rw [List.length_append, List.length_singleton, List.getD_eq_getElem?_getD, List.getElem?_append_right (by omega)]
  simp
theorem hdI_snoc (p : List Int) (x : Int) (h : 0 < p.length) : hdI (p ++ [x]) = hdI p := by
  cases p with
  | nil => simp at h
  | cons a t => rfl
theorem pathOk_snoc {F : Nat → Nat → Int} {m : Nat} {p : List Int} (hF : ∀ i j, 0 ≤ F i j) (h : pathOk F m p) {x : Int} (hx : 0 ≤ x ∧ x < (m : Int)) (hne : ¬ (F (lastI p).toNat x.toNat = 0 ∨ x ∈ p)) : pathOk F m (p ++ [x]) := by
  obtain ⟨h1, h2, h3, h4⟩ := h
  refine ⟨by simp, fun y hy => ?_, ?_, fun i hi => ?_⟩
  · rcases List.mem_append.mp hy with q | q
    · exact h2 y q
    · rw [List.mem_singleton.mp q]; exact hx
  · rw [List.nodup_append]
    refine ⟨h3, by simp, fun a ha b hb e => ?_⟩
    rw [List.mem_singleton] at hb
    exact hne (.inr (by rw [← hb, ← e]; exact ha))
  · rw [List.length_append, List.length_singleton] at hi
    by_cases e : i + 1 < p.length
    · have := h4 i e
      rw [List.getD_eq_getElem?_getD, List.getD_eq_getElem?_getD, List.getElem?_append_left (by omega), List.getElem?_append_left e, ← List.getD_eq_getElem?_getD, ← List.getD_eq_getElem?_getD]
      exact this
    · have ei : i = p.length - 1 := by omega
      rw [List.getD_eq_getElem?_getD, List.getD_eq_getElem?_getD, List.getElem?_append_left (by omega), List.getElem?_append_right (by omega), ← List.getD_eq_getElem?_getD]
      have e1 : p.getD i 0 = lastI p := by rw [ei]; rfl
      have e2 : ([x] : List Int)[i + 1 - p.length]?.getD 0 = x := by rw [show i + 1 - p.length = 0 from by omega]; rfl
      rw [e1, e2]
      have := hF (lastI p).toNat x.toNat
      have h5 : F (lastI p).toNat x.toNat ≠ 0 := fun q => hne (.inl q)
      omega
theorem cycD_ok {F : Nat → Nat → Int} {m : Nat} (hF : ∀ i j, 0 ≤ F i j) : ∀ (d : Nat) (p c : List Int), pathOk F m p → cycD F m d p = some c → pathOk F m c ∧ c.length = p.length + d ∧ 0 < F (lastI c).toNat (hdI c).toNat
  | 0, p, c, hp, h => by
    rw [cycD] at h
    split at h
    · rename_i g
      obtain rfl : p = c := by simpa using h
      exact ⟨hp, rfl, g⟩
    · cases h
  | d + 1, p, c, hp, h => by
    rw [cycD] at h
    obtain ⟨y, h1, h2, h3⟩ := tryN_some _ _ h
    split at h3
    · cases h3
    · rename_i g
      have hh : 0 ≤ hdI p := by
        have := hp.2.1 (hdI p) (by
          unfold hdI
          cases p with
          | nil => exact absurd hp.1 (by simp)
          | cons a t => exact List.mem_cons_self)
        exact this.1
      have := cycD_ok hF d (p ++ [y]) c (pathOk_snoc hF hp ⟨by omega, by omega⟩ g) h3
      rw [List.length_append, List.length_singleton] at this
      exact ⟨this.1, by omega, this.2.2⟩
theorem firstL_ok {F : Nat → Nat → Int} {m : Nat} (hF : ∀ i j, 0 ≤ F i j) : ∀ (d len : Nat) (c : List Int), 2 ≤ len → len + d ≤ m + 1 → firstL F m d len = some c → cycOk F m c
  | 0, _, _, _, _, h => by simp [firstL] at h
  | d + 1, len, c, h2, hd, h => by
    rw [firstL] at h
    cases ht : tryN (fun x => cycD F m (len - 1) [x]) m 0 with
    | some c' =>
      rw [ht] at h
      obtain rfl : c' = c := by simpa using h
      obtain ⟨y, h1, h3, h4⟩ := tryN_some _ _ ht
      have hp : pathOk F m [y] := ⟨by simp, fun x hx => by rw [List.mem_singleton.mp hx]; omega, by simp, fun i hi => by simp at hi⟩
      obtain ⟨g1, g2, g3⟩ := cycD_ok hF (len - 1) [y] c' hp h4
      rw [List.length_singleton] at g2
      exact ⟨g1, by omega, by omega, g3⟩
    | none =>
      rw [ht] at h
      exact firstL_ok hF d (len + 1) c (by omega) (by omega) h
theorem firstC_ok {F : Nat → Nat → Int} {m : Nat} (hF : ∀ i j, 0 ≤ F i j) {c : List Int} (hm : 2 ≤ m) (h : firstC F m = some c) : cycOk F m c := firstL_ok hF (m - 1) 2 c (Nat.le_refl 2) (by omega) h
/-- Step i of a cycle: who owes whom. -/
def eA (c : List Int) (i : Nat) : Nat := (c.getD i 0).toNat
def eB (c : List Int) (i : Nat) : Nat := (c.getD ((i + 1) % c.length) 0).toNat
def leastC (F : Nat → Nat → Int) (c : List Int) : Nat → Int
  | 0 => 1000000000
  | k + 1 => mnI (leastC F c k) (F (eA c k) (eB c k))
def cutC (F : Nat → Nat → Int) (c : List Int) (v : Int) : Nat → Nat → Nat → Int
  | 0 => F
  | k + 1 => fun a b => if a = eA c k ∧ b = eB c k then cutC F c v k a b - v else cutC F c v k a b
def cancF (m : Nat) : Nat → (Nat → Nat → Int) → (Nat → Nat → Int)
  | 0, F => F
  | k + 1, F => match firstC F m with
    | none => F
    | some c => cancF m k (cutC F c (leastC F c c.length) c.length)
theorem cycD_len {F : Nat → Nat → Int} {m : Nat} : ∀ (d : Nat) (p c : List Int), cycD F m d p = some c → c.length = p.length + d
  | 0, p, c, h => by
    rw [cycD] at h
    split at h
    · obtain rfl : p = c := by simpa using h
      rfl
    · cases h
  | d + 1, p, c, h => by
    rw [cycD] at h
    obtain ⟨y, h1, h2, h3⟩ := tryN_some _ _ h
    split at h3
    · cases h3
    · have := cycD_len d (p ++ [y]) c h3
      rw [List.length_append, List.length_singleton] at this
      omega
def sumN (f : Nat → Int) : Nat → Int
  | 0 => 0
  | n + 1 => sumN f n + f n
def total (F : Nat → Nat → Int) (m : Nat) : Int := sumN (fun i => sumN (F i) m) m
theorem sumN_congr {f g : Nat → Int} : ∀ n, (∀ i, i < n → f i = g i) → sumN f n = sumN g n
  | 0, _ => rfl
  | n + 1, h => by rw [sumN, sumN, sumN_congr n (fun i hi => h i (by omega)), h n (by omega)]
theorem sumN_nonneg {f : Nat → Int} : ∀ n, (∀ i, i < n → 0 ≤ f i) → 0 ≤ sumN f n
  | 0, _ => Int.le_refl 0
  | n + 1, h => by
    have := sumN_nonneg n (fun i hi => h i (by omega))
    have := h n (by omega)
    rw [sumN]; omega
theorem sumN_less (f : Nat → Int) (k : Nat) (v : Int) : ∀ n, k < n → sumN (fun i => if i = k then f i - v else f i) n = sumN f n - v
  | 0, h => absurd h (Nat.not_lt_zero _)
  | n + 1, h => by
    by_cases e : n = k
    · subst e
      rw [sumN, sumN, if_pos rfl, sumN_congr n (fun i hi => if_neg (by omega))]
      omega
    · rw [sumN, sumN, if_neg e, sumN_less f k v n (by omega)]
      omega
theorem total_less (F : Nat → Nat → Int) {m x y : Nat} (hx : x < m) (hy : y < m) (v : Int) : total (fun a b => if a = x ∧ b = y then F a b - v else F a b) m = total F m - v := by
  unfold total
  rw [← sumN_less (fun i => sumN (F i) m) x v m hx]
  refine sumN_congr m (fun i _ => ?_)
  by_cases e : i = x
  · subst e
    rw [if_pos rfl, ← sumN_less (F i) y v m hy]
    refine sumN_congr m (fun j _ => ?_)
    show (if i = i ∧ j = y then F i j - v else F i j) = if j = y then F i j - v else F i j
    by_cases f : j = y
    · rw [if_pos ⟨rfl, f⟩, if_pos f]
    · rw [if_neg (fun q => f q.2), if_neg f]
  · rw [if_neg e]
    exact sumN_congr m (fun j _ => show (if i = x ∧ j = y then F i j - v else F i j) = F i j from if_neg (fun q => e q.1))
theorem cutC_succ (F : Nat → Nat → Int) (c : List Int) (v : Int) (k a b : Nat) : cutC F c v (k + 1) a b = if a = eA c k ∧ b = eB c k then cutC F c v k a b - v else cutC F c v k a b := rfl
def InvF (F : Nat → Nat → Int) : Prop := ∀ i j, 0 ≤ F i j ∧ F i j ≤ 1000000000
theorem mnI_bd (a b : Int) : (mnI a b = a ∨ mnI a b = b) ∧ mnI a b ≤ a ∧ mnI a b ≤ b := by unfold mnI; split <;> omega
theorem leastC_bd {F : Nat → Nat → Int} (h : InvF F) (c : List Int) : ∀ k, 0 ≤ leastC F c k ∧ leastC F c k ≤ 1000000000
  | 0 => by unfold leastC; omega
  | k + 1 => by
    have h1 := leastC_bd h c k
    have h2 := h (eA c k) (eB c k)
    have h3 := mnI_bd (leastC F c k) (F (eA c k) (eB c k))
    rw [leastC]; omega
theorem leastC_le (F : Nat → Nat → Int) (c : List Int) : ∀ k i, i < k → leastC F c k ≤ F (eA c i) (eB c i)
  | 0, _, h => absurd h (Nat.not_lt_zero _)
  | k + 1, i, h => by
    have h3 := mnI_bd (leastC F c k) (F (eA c k) (eB c k))
    rw [leastC]
    by_cases e : i = k
    · rw [e]; exact h3.2.2
    · exact Int.le_trans h3.2.1 (leastC_le F c k i (by omega))
theorem leastC_pos (F : Nat → Nat → Int) (c : List Int) : ∀ k, (∀ i, i < k → 0 < F (eA c i) (eB c i)) → 0 < leastC F c k
  | 0, _ => by unfold leastC; omega
  | k + 1, h => by
    have h1 := leastC_pos F c k (fun i hi => h i (by omega))
    have h2 := h k (by omega)
    have h3 := mnI_bd (leastC F c k) (F (eA c k) (eB c k))
    rw [leastC]; omega
theorem cyc_mem {c : List Int} {i : Nat} (hi : i < c.length) : c.getD i 0 ∈ c := by
  rw [List.getD_eq_getElem?_getD, List.getElem?_eq_getElem hi]
  exact List.getElem_mem hi
theorem cyc_lt {F : Nat → Nat → Int} {m : Nat} {c : List Int} (hc : cycOk F m c) {i : Nat} (hi : i < c.length) : eA c i < m ∧ eB c i < m ∧ c.getD i 0 = (eA c i : Int) ∧ c.getD ((i + 1) % c.length) 0 = (eB c i : Int) := by
  have h1 := hc.1.2.1 _ (cyc_mem hi)
  have h2 := hc.1.2.1 _ (cyc_mem (c := c) (i := (i + 1) % c.length) (Nat.mod_lt _ (by omega)))
  unfold eA eB
  omega
theorem cyc_pos {F : Nat → Nat → Int} {m : Nat} {c : List Int} (hc : cycOk F m c) {i : Nat} (hi : i < c.length) : 0 < F (eA c i) (eB c i) := by
  unfold eA eB
  by_cases e : i + 1 < c.length
  · rw [Nat.mod_eq_of_lt e]
    exact hc.1.2.2.2 i e
  · have e1 : i = c.length - 1 := by omega
    have e2 : (i + 1) % c.length = 0 := by rw [show i + 1 = c.length from by omega, Nat.mod_self]
    rw [e2, e1]
    have := hc.2.2.2
    rw [show hdI c = c.getD 0 0 from by cases c <;> rfl] at this
    exact this
theorem eA_inj {F : Nat → Nat → Int} {m : Nat} {c : List Int} (hc : cycOk F m c) {i j : Nat} (hi : i < c.length) (hj : j < c.length) (h : eA c i = eA c j) : i = j := by
  have h1 := (cyc_lt hc hi).2.2.1
  have h2 := (cyc_lt hc hj).2.2.1
  rw [List.getD_eq_getElem?_getD, List.getElem?_eq_getElem hi] at h1
  rw [List.getD_eq_getElem?_getD, List.getElem?_eq_getElem hj] at h2
  have h3 : c[i] = c[j] := by
    have h1' : c[i] = (eA c i : Int) := h1
    have h2' : c[j] = (eA c j : Int) := h2
    rw [h1', h2', h]
  exact (List.getElem_inj hc.1.2.2.1).mp h3
theorem cutC_at {F : Nat → Nat → Int} {m : Nat} {c : List Int} (hc : cycOk F m c) (v : Int) : ∀ k, k ≤ c.length → ∀ a b, cutC F c v k a b = F a b ∨ ∃ i, i < k ∧ a = eA c i ∧ b = eB c i ∧ cutC F c v k a b = F a b - v
  | 0, _, _, _ => .inl rfl
  | k + 1, h, a, b => by
    rw [cutC_succ]
    by_cases e : a = eA c k ∧ b = eB c k
    · rw [if_pos e]
      rcases cutC_at hc v k (by omega) a b with g | ⟨i, g1, g2, _, _⟩
      · exact .inr ⟨k, by omega, e.1, e.2, by rw [g]⟩
      · exact absurd (eA_inj hc (by omega) (by omega) (g2.symm.trans e.1)) (by omega)
    · rw [if_neg e]
      rcases cutC_at hc v k (by omega) a b with g | ⟨i, g1, g2, g3, g4⟩
      · exact .inl g
      · exact .inr ⟨i, by omega, g2, g3, g4⟩
theorem cutC_new {F : Nat → Nat → Int} {m : Nat} {c : List Int} (hc : cycOk F m c) (v : Int) {k : Nat} (hk : k < c.length) : cutC F c v k (eA c k) (eB c k) = F (eA c k) (eB c k) := by
  rcases cutC_at hc v k (by omega) (eA c k) (eB c k) with g | ⟨i, g1, g2, _, _⟩
  · exact g
  · exact absurd (eA_inj hc hk (by omega) g2) (by omega)
theorem cutC_inv {F : Nat → Nat → Int} {m : Nat} {c : List Int} (hc : cycOk F m c) (h : InvF F) {k : Nat} (hk : k ≤ c.length) : InvF (cutC F c (leastC F c c.length) k) := fun a b => by
  have h1 := h a b
  have h3 := leastC_bd h c c.length
  rcases cutC_at hc (leastC F c c.length) k hk a b with g | ⟨i, g1, g2, g3, g4⟩
  · rw [g]; exact h1
  · have h2 := leastC_le F c c.length i (by omega)
    rw [← g2, ← g3] at h2
    rw [g4]; omega
theorem cutC_total {F : Nat → Nat → Int} {m : Nat} {c : List Int} (hc : cycOk F m c) (v : Int) : ∀ k, k ≤ c.length → total (cutC F c v k) m = total F m - k * v
  | 0, _ => by rw [cutC]; simp
  | k + 1, h => by
    have h1 := cyc_lt hc (show k < c.length from h)
    have h2 := total_less (cutC F c v k) h1.1 h1.2.1 v
    rw [show cutC F c v (k + 1) = fun a b => if a = eA c k ∧ b = eB c k then cutC F c v k a b - v else cutC F c v k a b from rfl, h2, cutC_total hc v k (by omega)]
    rw [Int.natCast_succ, Int.add_mul]
    omega
theorem total_nonneg {F : Nat → Nat → Int} (h : InvF F) (m : Nat) : 0 ≤ total F m := sumN_nonneg m (fun i _ => sumN_nonneg m (fun j _ => (h i j).1))
theorem canc_step {F : Nat → Nat → Int} {m k : Nat} {c : List Int} (h : InvF F) (hm : 2 ≤ m) (hf : firstC F m = some c) (hk : total F m < k) : ∃ k', k = k' + 1 ∧ cancF m k F = cancF m k' (cutC F c (leastC F c c.length) c.length) ∧ total (cutC F c (leastC F c c.length) c.length) m < k' ∧ InvF (cutC F c (leastC F c c.length) c.length) ∧ cycOk F m c := by
  have hc := firstC_ok (fun i j => (h i j).1) hm hf
  have h0 := total_nonneg h m
  obtain ⟨k', rfl⟩ : ∃ k', k = k' + 1 := ⟨k - 1, by omega⟩
  have h1 := cutC_total hc (leastC F c c.length) c.length (Nat.le_refl _)
  have h2 := leastC_pos F c c.length (fun i hi => cyc_pos hc hi)
  have h3 : 0 < (c.length : Int) * leastC F c c.length := Int.mul_pos (by have := hc.2.1; omega) h2
  exact ⟨k', rfl, by rw [cancF, hf], by omega, cutC_inv hc h (Nat.le_refl _), hc⟩
theorem canc_end {F : Nat → Nat → Int} {m k : Nat} (hf : firstC F m = none) : cancF m k F = F := by
  cases k with
  | zero => rfl
  | succ k => rw [cancF, hf]
def canT (xs : List S54) (m : Nat) : Nat → Nat → Int := cancF m ((total (nt xs) m).toNat + 1) (nt xs)
def canA (xs : List S54) (p : Int) : List S54 × Bool := if goodC xs p = true then (clAll (canT xs p.toNat) p.toNat 0 p.toNat, true) else ([], false)
theorem canA_len (xs : List S54) (p : Int) : (canA xs p).1.length ≤ 64 := by
  unfold canA
  split
  · rename_i g
    have := (of_decide_eq_true g).1
    have h := clAll_len (canT xs p.toNat) p.toNat p.toNat 0
    have hmm : p.toNat * p.toNat ≤ 8 * 8 := Nat.mul_le_mul (by omega) (by omega)
    show (clAll (canT xs p.toNat) p.toNat 0 p.toNat).length ≤ 64
    omega
  · simp
end Go.Proofs.Ytaobdjdmmhglaaa.Pure
