/- The plain law of FnExactMultilateralNet: the printed functions that it uses answer as plain Lean functions do. No other condition. -/
import Derived.Test.YtaobdjdmmhglaaaPFnExactCancelCyclesx0
import Derived.Test.YtaobdjdmmhglaaaPFnExactCancelCyclesx1
import Derived.Test.YtaobdjdmmhglaaaPFnExactCancelCyclesx2
import Derived.Test.YtaobdjdmmhglaaaPFnExactCancelCyclesx4
import Derived.Test.YtaobdjdmmhglaaaEvKit
import Derived.Test.YtaobdjdmmhglaaaKReads
import Derived.Lib.Slices
namespace Go.Proofs.Ytaobdjdmmhglaaa.Pure
open Go.RowKit Go.Proofs.YtaobdjdmmhglaaaW.PrintWords Go.Proofs.YtaobdjdmmhglaaaW.PrintLast Go.Proofs.YtaobdjdmmhglaaaW.PrintMore Go.Proofs.Ytaobdjdmmhglaaa.PFnExactCancelCycles Go.Proofs.Ytaobdjdmmhglaaa.EvKit
set_option linter.unusedVariables false
set_option linter.unusedSimpArgs false

theorem rd_T54_at {xs pre t : List S54} {a : S54} (h : xs = pre ++ a :: t) {i : Int} (hi : i = pre.length) : rd_T54 xs i = a := getD_at h hi


theorem rd_T56_at {xs pre t : List S56} {a : S56} (h : xs = pre ++ a :: t) {i : Int} (hi : i = pre.length) : rd_T56 xs i = a := getD_at h hi


def cv_Claim (x : S56) : S54 := ⟨x.f0, x.f1, x.f2⟩
theorem toClaimS_l0 (xs : List S56) (hn : xs.length ≤ 1048576) : ∀ (rest pre : List S56) (cur : List S54) (i : Int), xs = pre ++ rest → i = pre.length → (∃ tl : List S54, tl.length = rest.length ∧ cur = pre.map cv_Claim ++ tl) →
    Ev (fun k => laws_toClaimS.l0 k xs cur i) (xs.map cv_Claim) := by
  intro rest
  induction rest with
  | nil =>
    intro pre cur i h hi hc
    obtain ⟨tl, ht, rfl⟩ := hc
    have hl := len_nil h
    refine evSucc ?_
    simp only [laws_toClaimS.l0]
    refine evNeg (by omega) ?_
    refine evSome ?_
    have : tl = [] := List.length_eq_zero_iff.mp ht
    subst this
    rw [h]; simp
  | cons a t ih =>
    intro pre cur i h hi hc
    obtain ⟨tl, ht, hcur⟩ := hc
    have hl := len_cons h
    obtain ⟨b, tl, rfl⟩ : ∃ b tl', tl = b :: tl' := by
      cases tl with
      | nil => simp at ht
      | cons b tl => exact ⟨b, tl, rfl⟩
    have hcl := len_cons hcur
    simp at hcl
    refine evSucc ?_
    simp only [laws_toClaimS.l0]
    refine evPos (by omega) ?_
    refine evPos (by omega) ?_
    simp only [laws_toClaim.f, rd_T56_at h hi, Option.bind_some]
    refine evPos (by omega) ?_
    refine ih (pre ++ [a]) _ _ (snoc h) ?_ ⟨tl, by simpa using ht, ?_⟩
    · rw [wrapId (by omega), len_snoc]; omega
    · rw [set_at hcur (by simpa using hi)]; simp [cv_Claim]
theorem toClaimS_ev (xs : List S56) (hn : xs.length ≤ 1048576) : Ev (fun k => laws_toClaimS.f k xs) (xs.map cv_Claim) := by
  simp only [laws_toClaimS.f]
  refine evPos (by omega) ?_
  refine evPos (by omega) ?_
  exact toClaimS_l0 xs hn xs [] _ 0 rfl rfl ⟨List.replicate xs.length z54, by simp, by simp⟩
theorem szClaimS_eq (xs : List S56) (h : xs.length ≤ 9223372036854775807) : laws_szClaimS.f xs 1048576 = some (if xs.length ≤ 1048576 then 1048576 - (xs.length : Int) else -1) := by
  simp only [laws_szClaimS.f]
  rw [wrapId (by omega)]
  by_cases c : xs.length ≤ 1048576
  · rw [if_neg (by omega), if_pos c]
  · rw [if_pos (by omega), if_neg c]


theorem eqClaimS_l0 (xs : List S54) (hn : xs.length ≤ 9223372036854775806) : ∀ (rest pre : List S54) (i : Int), xs = pre ++ rest → i = pre.length → Ev (fun k => laws_eqClaimS.l0 k xs xs i) true := by
  intro rest
  induction rest with
  | nil =>
    intro pre i h hi
    have hl := len_nil h
    refine evSucc ?_
    simp only [laws_eqClaimS.l0]
    refine evNeg (by omega) ?_
    exact evSome rfl
  | cons a t ih =>
    intro pre i h hi
    have hl := len_cons h
    refine evSucc ?_
    simp only [laws_eqClaimS.l0]
    refine evPos (by omega) ?_
    refine evPos (by omega) ?_
    refine evPos (by omega) ?_
    refine evBindS (a := true) (by simp [laws_eqClaim.f]) ?_
    refine evPos (by trivial) ?_
    exact ih (pre ++ [a]) _ (snoc h) (by rw [wrapId (by omega), len_snoc]; omega)
theorem eqClaimS_ev (xs : List S54) (hn : xs.length ≤ 9223372036854775806) : Ev (fun k => laws_eqClaimS.f k xs xs) true := by
  simp only [laws_eqClaimS.f]
  exact evPos (by trivial) (eqClaimS_l0 xs hn xs [] 0 rfl rfl)


def upS_Claim : Nat → Int → List S54
  | 0, _ => []
  | c + 1, m => ⟨m, m + 1, m + 2⟩ :: upS_Claim c (m + 3)
theorem upS_Claim_length : ∀ (c : Nat) (m : Int), (upS_Claim c m).length = c
  | 0, _ => rfl
  | c + 1, m => by simp [upS_Claim, upS_Claim_length c]
theorem markClaimS_l0 : ∀ (rest pre : List S54) (xs : List S54) (m i : Int), xs = pre ++ rest → i = pre.length → 0 ≤ m → m + 3 * rest.length ≤ 9223372036854775807 → pre.length + rest.length ≤ 9223372036854775806 →
    Ev (fun k => laws_markClaimS.l0 k xs m i) (m + 3 * rest.length, pre ++ upS_Claim rest.length m) := by
  intro rest
  induction rest with
  | nil =>
    intro pre xs m i h hi h0 h1 h2
    have hl := len_nil h
    refine evSucc ?_
    simp only [laws_markClaimS.l0]
    refine evNeg (by omega) ?_
    exact evSome (by simp [h, upS_Claim])
  | cons a t ih =>
    intro pre xs m i h hi h0 h1 h2
    have hl := len_cons h
    subst h
    simp only [List.length_cons] at h1 h2
    have hrd : ∀ b : S54, rd_T54 (pre ++ b :: t) i = b := fun b => rd_T54_at rfl hi
    have hset : ∀ b c : S54, (pre ++ b :: t).set i.toNat c = pre ++ c :: t := fun b c => set_at rfl hi
    have w1 : wrap64 (m + 1) = m + 1 := (wrapId (by omega)).trans (by omega)
    have w2 : wrap64 (m + 1 + 1) = m + 2 := (wrapId (by omega)).trans (by omega)
    have w3 : wrap64 (m + 2 + 1) = m + 3 := (wrapId (by omega)).trans (by omega)
    refine evSucc ?_
    simp only [laws_markClaimS.l0, Option.bind_some, hrd, hset, w1, w2, w3]
    refine evPos (by omega) ?_
    refine evPos (by omega) ?_
    refine evEq (ih (pre ++ [⟨m, m + 1, m + 2⟩]) _ (m + 3) _ (by simp) ?_ ?_ ?_ ?_) ?_
    · rw [wrapId (by omega), len_snoc]; omega
    · omega
    · omega
    · simp; omega
    · simp [upS_Claim]; omega
theorem markClaimS_ev (xs : List S54) (m : Int) (h0 : 0 ≤ m) (h1 : m + 3 * xs.length ≤ 9223372036854775807) (h2 : xs.length ≤ 9223372036854775806) : Ev (fun k => laws_markClaimS.f k xs m) (m + 3 * xs.length, upS_Claim xs.length m) := by
  simp only [laws_markClaimS.f]
  exact evEq (markClaimS_l0 xs [] xs m 0 rfl rfl h0 h1 (by simpa using h2)) (by simp)


theorem heldClaimS_l0 : ∀ (n : Nat) (pre : List S54) (xs : List S54) (m i : Int), xs = pre ++ upS_Claim n m → i = pre.length → 0 ≤ m → m + 3 * n ≤ 9223372036854775807 → pre.length + n ≤ 9223372036854775806 →
    Ev (fun k => laws_heldClaimS.l0 k xs m i) (m + 3 * n) := by
  intro n
  induction n with
  | zero =>
    intro pre xs m i h hi h0 h1 h2
    have hl := len_nil h
    refine evSucc ?_
    simp only [laws_heldClaimS.l0]
    refine evNeg (by omega) ?_
    exact evSome (by simp)
  | succ n ih =>
    intro pre xs m i h hi h0 h1 h2
    have h' : xs = pre ++ ⟨m, m + 1, m + 2⟩ :: upS_Claim n (m + 3) := h
    have hl := len_cons h'
    rw [upS_Claim_length] at hl
    have hrd := rd_T54_at h' hi
    have w1 : wrap64 (m + 1) = m + 1 := (wrapId (by omega)).trans (by omega)
    have w2 : wrap64 (m + 1 + 1) = m + 2 := (wrapId (by omega)).trans (by omega)
    have w3 : wrap64 (m + 2 + 1) = m + 3 := (wrapId (by omega)).trans (by omega)
    refine evSucc ?_
    simp only [laws_heldClaimS.l0, hrd, w1, w2, w3]
    repeat (first | with_reducible refine evPos True.intro ?_ | with_reducible refine evPos (by omega) ?_)
    refine evEq (ih (pre ++ [⟨m, m + 1, m + 2⟩]) _ (m + 3) _ (snoc h') ?_ ?_ ?_ ?_) ?_
    · rw [wrapId (by omega), len_snoc]; omega
    · omega
    · omega
    · simp; omega
    · omega
theorem heldClaimS_ev (n : Nat) (m : Int) (h0 : 0 ≤ m) (h1 : m + 3 * n ≤ 9223372036854775807) (h2 : n ≤ 9223372036854775806) : Ev (fun k => laws_heldClaimS.f k (upS_Claim n m) m) (m + 3 * n) := by
  simp only [laws_heldClaimS.f]
  exact heldClaimS_l0 n [] _ m 0 rfl rfl h0 h1 (by simpa using h2)

theorem within_eq (a b c : Int) : impl_within.f a b c = some (decide (b ≤ a ∧ a ≤ c)) := by
  unfold impl_within.f
  by_cases h : a ≥ b
  · rw [if_pos h]; exact congrArg some (decide_eq_decide.mpr ⟨fun g => ⟨h, g⟩, fun g => g.2⟩)
  · rw [if_neg h]; exact congrArg some (decide_eq_false (fun g => h g.1)).symm
theorem l1In_eq (a b c : Int) : spec_l1In.f a b c = some (decide (b ≤ a ∧ a ≤ c)) := by
  unfold spec_l1In.f
  by_cases h : a ≥ b
  · rw [if_pos h]; exact congrArg some (decide_eq_decide.mpr ⟨fun g => ⟨h, g⟩, fun g => g.2⟩)
  · rw [if_neg h]; exact congrArg some (decide_eq_false (fun g => h g.1)).symm

theorem isAmount_eq (a : Int) : impl_isAmount.f a = some (decide (-1000000000 ≤ a ∧ a ≤ 1000000000)) := by
  unfold impl_isAmount.f; rw [within_eq]; rfl

def okC (p : Int) (a : S54) : Prop := (0 ≤ a.f0 ∧ a.f0 ≤ p - 1) ∧ (0 ≤ a.f1 ∧ a.f1 ≤ p - 1) ∧ a.f0 ≠ a.f1 ∧ (1 ≤ a.f2 ∧ a.f2 ≤ 1000000000)
instance (p : Int) (a : S54) : Decidable (okC p a) := by unfold okC; infer_instance
def sumC : List S54 → Int
  | [] => 0
  | a :: t => a.f2 + sumC t
theorem sumC_snoc (p : List S54) (a : S54) : sumC (p ++ [a]) = sumC p + a.f2 := by
  induction p with
  | nil => simp [sumC]
  | cons b t ih => simp only [List.cons_append, sumC, ih]; omega
theorem sumC_append (p q : List S54) : sumC (p ++ q) = sumC p + sumC q := by
  induction p with
  | nil => simp [sumC]
  | cons b t ih => simp only [List.cons_append, sumC, ih]; omega
theorem sumC_bd {n : Int} (p : List S54) (h : ∀ a ∈ p, okC n a) : 0 ≤ sumC p ∧ sumC p ≤ 1000000000 * p.length := by
  induction p with
  | nil => simp [sumC]
  | cons b t ih =>
    have h1 := ih (fun a ha => h a (List.mem_cons_of_mem _ ha))
    have h2 := (h b List.mem_cons_self).2.2.2
    simp only [sumC, List.length_cons]
    omega
def goodC (xs : List S54) (p : Int) : Bool := decide ((2 ≤ p ∧ p ≤ 8) ∧ xs.length ≤ 20 ∧ (∀ a ∈ xs, okC p a) ∧ sumC xs ≤ 1000000000)
theorem okC_snoc {n : Int} {pre : List S54} {a : S54} (hok : ∀ b ∈ pre, okC n b) (ha : okC n a) : ∀ b ∈ pre ++ [a], okC n b := by
  intro b hb
  rcases List.mem_append.mp hb with g | g
  · exact hok b g
  · rw [List.mem_singleton.mp g]; exact ha
theorem implValidC_l0 (p : Int) (hp : 2 ≤ p ∧ p ≤ 8) (xs : List S54) (hn : xs.length ≤ 20) : ∀ (rest pre : List S54) (i : Int), xs = pre ++ rest → i = pre.length → (∀ a ∈ pre, okC p a) → Ev (fun k => impl_IsValidClaims.l0 k p (sumC pre) xs (xs.length : Int) i) (goodC xs p) := by
  have hw : wrap64 (p - 1) = p - 1 := wrapId (by omega)
  intro rest
  induction rest with
  | nil =>
    intro pre i h hi hok
    have hl := len_nil h
    have hx : xs = pre := by simpa using h
    have hb := sumC_bd pre hok
    refine evSucc ?_
    simp only [impl_IsValidClaims.l0, isAmount_eq, Option.bind_some]
    refine evNeg (by omega) ?_
    refine evSome ?_
    unfold goodC
    rw [decide_eq_decide, hx]
    exact ⟨fun g => ⟨hp, by rw [← hx]; exact hn, hok, g.2⟩, fun g => ⟨by omega, g.2.2.2⟩⟩
  | cons a t ih =>
    intro pre i h hi hok
    have hl := len_cons h
    have hb := sumC_bd pre hok
    have ha : a ∈ xs := by rw [h]; simp
    refine evSucc ?_
    simp only [impl_IsValidClaims.l0, within_eq, Option.bind_some, decide_eq_true_eq, rd_T54_at h hi, hw]
    refine evPos (by omega) ?_
    refine evPos (by omega) ?_
    refine evPos (by omega) ?_
    have bad : ¬ okC p a → false = goodC xs p := fun n => (decide_eq_false (fun g => n (g.2.2.1 a ha))).symm
    refine evIte (fun c1 => ?_) (fun c1 => evSome (bad (fun g => c1 g.1)))
    refine evIte (fun c2 => ?_) (fun c2 => evSome (bad (fun g => c2 g.2.1)))
    refine evIte (fun c3 => evSome (bad (fun g => g.2.2.1 c3))) (fun c3 => ?_)
    refine evIte (fun c4 => ?_) (fun c4 => evSome (bad (fun g => c4 g.2.2.2)))
    have e : wrap64 (sumC pre + a.f2) = sumC (pre ++ [a]) := by rw [sumC_snoc, wrapId (by omega)]
    rw [e]
    exact ih (pre ++ [a]) _ (snoc h) (by rw [wrapId (by omega), len_snoc]; omega) (okC_snoc hok ⟨c1, c2, c3, c4⟩)
theorem implValidC_ev (xs : List S54) (p : Int) (hn : xs.length ≤ 1048576) : Ev (fun k => impl_IsValidClaims.f k xs p) (goodC xs p) := by
  simp only [impl_IsValidClaims.f, within_eq, Option.bind_some, decide_eq_true_eq]
  refine evIte (fun c1 => ?_) (fun c1 => ?_)
  · refine evSucc ?_
    simp only [impl_IsValidClaims.j0, decide_eq_true_eq]
    refine evIte (fun c2 => ?_) (fun c2 => ?_)
    · exact evSome (decide_eq_false (fun g => by have := g.2.1; omega)).symm
    · exact implValidC_l0 p c1 xs (by omega) xs [] 0 rfl rfl (by simp)
  · refine evSucc ?_
    simp only [impl_IsValidClaims.j0]
    exact evPos (by trivial) (evSome (decide_eq_false (fun g => c1 g.1)).symm)
theorem specGross_l0 (p : Int) (xs : List S54) (hn : xs.length ≤ 20) (hok : ∀ a ∈ xs, okC p a) : ∀ (rest pre : List S54) (i : Int), xs = pre ++ rest → i = pre.length → Ev (fun k => spec_l16Gross.l0 k xs (sumC pre) i) (sumC xs) := by
  intro rest
  induction rest with
  | nil =>
    intro pre i h hi
    have hl := len_nil h
    refine evSucc ?_
    simp only [spec_l16Gross.l0]
    refine evNeg (by omega) ?_
    exact evSome (by rw [h]; simp)
  | cons a t ih =>
    intro pre i h hi
    have hl := len_cons h
    have hp : ∀ b ∈ pre, okC p b := fun b hb => hok b (by rw [h]; simp [hb])
    have hb := sumC_bd pre hp
    have ha := (hok a (by rw [h]; simp)).2.2.2
    refine evSucc ?_
    simp only [spec_l16Gross.l0, rd_T54_at h hi]
    refine evPos (by omega) ?_
    refine evPos (by omega) ?_
    have e : wrap64 (sumC pre + a.f2) = sumC (pre ++ [a]) := by rw [sumC_snoc, wrapId (by omega)]
    rw [e]
    exact ih (pre ++ [a]) _ (snoc h) (by rw [wrapId (by omega), len_snoc]; omega)
theorem specGross_ev (p : Int) (xs : List S54) (hn : xs.length ≤ 20) (hok : ∀ a ∈ xs, okC p a) : Ev (fun k => spec_l16Gross.f k xs) (sumC xs) := by
  simp only [spec_l16Gross.f]
  exact specGross_l0 p xs hn hok xs [] 0 rfl rfl
theorem specGoodC_l0 (p : Int) (hp : 2 ≤ p ∧ p ≤ 8) (xs : List S54) (hn : xs.length ≤ 20) : ∀ (rest pre : List S54) (i : Int), xs = pre ++ rest → i = pre.length → (∀ a ∈ pre, okC p a) → Ev (fun k => spec_l16Good.l0 k xs p i) (goodC xs p) := by
  have hw : wrap64 (p - 1) = p - 1 := wrapId (by omega)
  intro rest
  induction rest with
  | nil =>
    intro pre i h hi hok
    have hl := len_nil h
    have hx : xs = pre := by simpa using h
    refine evSucc ?_
    simp only [spec_l16Good.l0]
    refine evNeg (by omega) ?_
    refine evBind (specGross_ev p xs hn (by rw [hx]; exact hok)) (evSome ?_)
    unfold goodC
    rw [decide_eq_decide]
    exact ⟨fun g => ⟨hp, hn, by rw [hx]; exact hok, g⟩, fun g => g.2.2.2⟩
  | cons a t ih =>
    intro pre i h hi hok
    have hl := len_cons h
    have ha : a ∈ xs := by rw [h]; simp
    refine evSucc ?_
    simp only [spec_l16Good.l0, l1In_eq, Option.bind_some, decide_eq_true_eq, rd_T54_at h hi, hw]
    refine evPos (by omega) ?_
    refine evPos (by omega) ?_
    have bad : ¬ okC p a → false = goodC xs p := fun n => (decide_eq_false (fun g => n (g.2.2.1 a ha))).symm
    refine evIte (fun c1 => ?_) (fun c1 => evSome (bad (fun g => c1 g.1)))
    refine evIte (fun c2 => ?_) (fun c2 => evSome (bad (fun g => c2 g.2.1)))
    refine evIte (fun c3 => evSome (bad (fun g => g.2.2.1 c3))) (fun c3 => ?_)
    refine evIte (fun c4 => ?_) (fun c4 => evSome (bad (fun g => c4 g.2.2.2)))
    exact ih (pre ++ [a]) _ (snoc h) (by rw [wrapId (by omega), len_snoc]; omega) (okC_snoc hok ⟨c1, c2, c3, c4⟩)
theorem specGoodC_ev (xs : List S54) (p : Int) (hn : xs.length ≤ 1048576) : Ev (fun k => spec_l16Good.f k xs p) (goodC xs p) := by
  simp only [spec_l16Good.f, l1In_eq, Option.bind_some, decide_eq_true_eq]
  refine evIte (fun c1 => ?_) (fun c1 => ?_)
  · refine evSucc ?_
    simp only [spec_l16Good.j0, decide_eq_true_eq]
    refine evIte (fun c2 => ?_) (fun c2 => ?_)
    · exact evSome (decide_eq_false (fun g => by have := g.2.1; omega)).symm
    · exact specGoodC_l0 p c1 xs (by omega) xs [] 0 rfl rfl (by simp)
  · refine evSucc ?_
    simp only [spec_l16Good.j0]
    exact evPos (by trivial) (evSome (decide_eq_false (fun g => c1 g.1)).symm)

def posStep (out : List Int) (a : S54) : List Int :=
  (out.set a.f0.toNat (wrap64 (rd out a.f0 - a.f2))).set a.f1.toNat (wrap64 (rd (out.set a.f0.toNat (wrap64 (rd out a.f0 - a.f2))) a.f1 + a.f2))
def posFold : List Int → List S54 → List Int
  | out, [] => out
  | out, a :: t => posFold (posStep out a) t
theorem posStep_length (out : List Int) (a : S54) : (posStep out a).length = out.length := by simp [posStep]
theorem posFold_length : ∀ (xs : List S54) (out : List Int), (posFold out xs).length = out.length
  | [], _ => rfl
  | a :: t, out => by rw [posFold, posFold_length t, posStep_length]
def lsum : List Int → Int
  | [] => 0
  | x :: t => x + lsum t
theorem lsum_set : ∀ (l : List Int) (i : Nat) (v : Int), i < l.length → lsum (l.set i v) = lsum l - l.getD i 0 + v
  | [], _, _, h => by simp at h
  | x :: t, 0, v, _ => by simp [lsum]; omega
  | x :: t, i + 1, v, h => by
    have := lsum_set t i v (by simpa using h)
    simp only [List.set_cons_succ, lsum, this, List.getD_cons_succ]
    omega
theorem lsum_replicate : ∀ m : Nat, lsum (List.replicate m 0) = 0
  | 0 => rfl
  | m + 1 => by rw [List.replicate_succ, lsum, lsum_replicate m]; rfl
theorem mem_set_or {l : List Int} {i : Nat} {v x : Int} (h : x ∈ l.set i v) : x ∈ l ∨ x = v := by
  rcases List.mem_or_eq_of_mem_set h with h | h
  · exact .inl h
  · exact .inr h
theorem rd_mem {l : List Int} {i : Int} (h0 : 0 ≤ i) (h1 : i < l.length) : rd l i ∈ l := by
  rw [rd, List.getD_eq_getElem?_getD, List.getElem?_eq_getElem (by omega)]
  exact List.getElem_mem _
/-- Positions add up to nothing, and none is greater than the sum of all claims. -/
theorem posFold_facts (m : Nat) (xs : List S54) (hok : ∀ a ∈ xs, okC m a) (hs : sumC xs ≤ 1000000000) : ∀ (rest pre : List S54) (out : List Int), xs = pre ++ rest → out.length = m → lsum out = 0 → (∀ x ∈ out, -sumC pre ≤ x ∧ x ≤ sumC pre) →
    lsum (posFold out rest) = 0 ∧ (∀ x ∈ posFold out rest, -1000000000 ≤ x ∧ x ≤ 1000000000) := by
  intro rest
  induction rest with
  | nil =>
    intro pre out h ho hl hb
    have e : xs = pre := by simpa using h
    refine ⟨hl, fun x hx => ?_⟩
    have := hb x hx
    rw [← e] at this
    omega
  | cons a t ih =>
    intro pre out h ho hl hb
    have ha := hok a (by rw [h]; simp)
    have h1 := ha.1
    have h2 := ha.2.1
    have h3 := ha.2.2.1
    have h4 := ha.2.2.2
    have hp : 0 ≤ sumC pre := (sumC_bd pre (fun b hb => hok b (by rw [h]; simp [hb]))).1
    have ht : 0 ≤ sumC t := (sumC_bd t (fun b hb => hok b (by rw [h]; simp [hb]))).1
    have hall : sumC pre + a.f2 + sumC t = sumC xs := by rw [h, sumC_append, sumC]; omega
    have b0 := hb _ (rd_mem (l := out) (i := a.f0) (by omega) (by omega))
    have e0 : wrap64 (rd out a.f0 - a.f2) = rd out a.f0 - a.f2 := wrapId (by omega)
    obtain ⟨o1, ho1⟩ : ∃ o, o = out.set a.f0.toNat (rd out a.f0 - a.f2) := ⟨_, rfl⟩
    have l1 : o1.length = m := by rw [ho1, List.length_set]; exact ho
    have m1 : ∀ x ∈ o1, -(sumC pre + a.f2) ≤ x ∧ x ≤ sumC pre + a.f2 := by
      intro x hx
      rw [ho1] at hx
      rcases mem_set_or hx with g | g
      · have := hb x g; omega
      · omega
    have q1 : rd o1 a.f1 = rd out a.f1 := by
      rw [ho1]
      simp only [rd, List.getD_eq_getElem?_getD]
      rw [List.getElem?_set_ne (by omega)]
    have b1 := hb _ (rd_mem (l := out) (i := a.f1) (by omega) (by omega))
    have e1 : wrap64 (rd o1 a.f1 + a.f2) = rd o1 a.f1 + a.f2 := by rw [q1]; exact wrapId (by omega)
    have hstep : posStep out a = o1.set a.f1.toNat (rd o1 a.f1 + a.f2) := by
      unfold posStep
      rw [e0, ← ho1, e1]
    unfold posFold
    rw [hstep]
    refine ih (pre ++ [a]) _ (snoc h) (by rw [List.length_set]; exact l1) ?_ ?_
    · have z1 : lsum o1 = lsum out - rd out a.f0 + (rd out a.f0 - a.f2) := by rw [ho1]; exact lsum_set out a.f0.toNat _ (by omega)
      have z2 := lsum_set o1 a.f1.toNat (rd o1 a.f1 + a.f2) (by omega)
      have z3 : o1.getD a.f1.toNat 0 = rd o1 a.f1 := rfl
      omega
    · intro x hx
      rw [sumC_snoc]
      rcases mem_set_or hx with g | g
      · exact m1 x g
      · rw [q1] at g; omega

def nz : List Int → Nat
  | [] => 0
  | x :: t => (if x = 0 then 0 else 1) + nz t
theorem nz_set : ∀ (l : List Int) (i : Nat) (v : Int), i < l.length → nz (l.set i v) + (if l.getD i 0 = 0 then 0 else 1) = nz l + (if v = 0 then 0 else 1)
  | [], _, _, h => by simp at h
  | x :: t, 0, v, _ => by simp [nz]; omega
  | x :: t, i + 1, v, h => by
    have := nz_set t i v (by simpa using h)
    simp only [List.set_cons_succ, nz, List.getD_cons_succ]
    omega
theorem nz_le : ∀ l : List Int, nz l ≤ l.length
  | [] => Nat.le_refl _
  | x :: t => by have := nz_le t; simp only [nz, List.length_cons]; split <;> omega
theorem lsum_pos : ∀ l : List Int, (∀ x ∈ l, 0 ≤ x) → 0 ≤ lsum l ∧ (lsum l = 0 → ∀ x ∈ l, x = 0)
  | [], _ => ⟨Int.le_refl _, fun _ x hx => by simp at hx⟩
  | a :: t, h => by
    have i := lsum_pos t (fun x hx => h x (List.mem_cons_of_mem _ hx))
    have ha := h a List.mem_cons_self
    refine ⟨by simp only [lsum]; omega, fun e x hx => ?_⟩
    simp only [lsum] at e
    rcases List.mem_cons.mp hx with rfl | hx
    · omega
    · exact i.2 (by omega) x hx
theorem lsum_neg : ∀ l : List Int, (∀ x ∈ l, x ≤ 0) → lsum l ≤ 0 ∧ (lsum l = 0 → ∀ x ∈ l, x = 0)
  | [], _ => ⟨Int.le_refl _, fun _ x hx => by simp at hx⟩
  | a :: t, h => by
    have i := lsum_neg t (fun x hx => h x (List.mem_cons_of_mem _ hx))
    have ha := h a List.mem_cons_self
    refine ⟨by simp only [lsum]; omega, fun e x hx => ?_⟩
    simp only [lsum] at e
    rcases List.mem_cons.mp hx with rfl | hx
    · omega
    · exact i.2 (by omega) x hx
def IsLo (l : List Int) (i : Nat) : Prop := i < l.length ∧ (∀ j, j < l.length → l.getD i 0 ≤ l.getD j 0) ∧ ∀ j, j < i → l.getD i 0 < l.getD j 0
def IsHi (l : List Int) (i : Nat) : Prop := i < l.length ∧ (∀ j, j < l.length → l.getD j 0 ≤ l.getD i 0) ∧ ∀ j, j < i → l.getD j 0 < l.getD i 0
theorem isLo_one {l : List Int} {i j : Nat} (h : IsLo l i) (k : IsLo l j) : i = j := by
  rcases Nat.lt_trichotomy i j with g | g | g
  · have := k.2.2 i g; have := h.2.1 j k.1; omega
  · exact g
  · have := h.2.2 j g; have := k.2.1 i h.1; omega
theorem isHi_one {l : List Int} {i j : Nat} (h : IsHi l i) (k : IsHi l j) : i = j := by
  rcases Nat.lt_trichotomy i j with g | g | g
  · have := k.2.2 i g; have := h.2.1 j k.1; omega
  · exact g
  · have := h.2.2 j g; have := k.2.1 i h.1; omega
noncomputable def loIx (l : List Int) : Nat := Classical.epsilon (IsLo l)
noncomputable def hiIx (l : List Int) : Nat := Classical.epsilon (IsHi l)
theorem loIx_eq {l : List Int} {i : Nat} (h : IsLo l i) : loIx l = i := isLo_one (Classical.epsilon_spec ⟨i, h⟩) h
theorem hiIx_eq {l : List Int} {i : Nat} (h : IsHi l i) : hiIx l = i := isHi_one (Classical.epsilon_spec ⟨i, h⟩) h
def upAt (l : List Int) (i j : Nat) (n : Int) : List Int := (l.set i (l.getD i 0 + n)).set j ((l.set i (l.getD i 0 + n)).getD j 0 - n)
def amtOf (l : List Int) (i j : Nat) : Int := if -(l.getD i 0) ≤ l.getD j 0 then -(l.getD i 0) else l.getD j 0
noncomputable def multF : Nat → List Int → List S54 → List S54
  | 0, _, out => out
  | k + 1, l, out => if amtOf l (loIx l) (hiIx l) = 0 then out else multF k (upAt l (loIx l) (hiIx l) (amtOf l (loIx l) (hiIx l))) (out ++ [⟨loIx l, hiIx l, amtOf l (loIx l) (hiIx l)⟩])
theorem multF_len : ∀ (k : Nat) (l : List Int) (out : List S54), (multF k l out).length ≤ out.length + k
  | 0, l, out => by simp [multF]
  | k + 1, l, out => by
    unfold multF
    split
    · omega
    · refine Nat.le_trans (multF_len k _ _) ?_
      simp; omega
theorem multF_end {k : Nat} {l : List Int} {out : List S54} {i j : Nat} (hi : IsLo l i) (hj : IsHi l j) (h : amtOf l i j = 0) : multF k l out = out := by
  cases k with
  | zero => rfl
  | succ k => unfold multF; rw [loIx_eq hi, hiIx_eq hj, if_pos h]
theorem multF_go {k : Nat} {l : List Int} {out : List S54} {i j : Nat} (hi : IsLo l i) (hj : IsHi l j) (h : amtOf l i j ≠ 0) : multF (k + 1) l out = multF k (upAt l i j (amtOf l i j)) (out ++ [⟨i, j, amtOf l i j⟩]) := by
  rw [multF, loIx_eq hi, hiIx_eq hj, if_neg h]
theorem getD_mem' {l : List Int} {i : Nat} (h : i < l.length) : l.getD i 0 ∈ l := by
  rw [List.getD_eq_getElem?_getD, List.getElem?_eq_getElem h]
  exact List.getElem_mem _
theorem mem_getD' {l : List Int} {x : Int} (h : x ∈ l) : ∃ j, j < l.length ∧ l.getD j 0 = x := by
  obtain ⟨j, hj, e⟩ := List.getElem_of_mem h
  exact ⟨j, hj, by rw [List.getD_eq_getElem?_getD, List.getElem?_eq_getElem hj]; exact e⟩
/-- A claim between the least and the greatest position: fewer positions are left, and they add up to nothing still. -/
theorem mult_step {l : List Int} {i j : Nat} (hi : IsLo l i) (hj : IsHi l j) (hs : lsum l = 0) (hb : ∀ x ∈ l, -1000000000 ≤ x ∧ x ≤ 1000000000) (hne : amtOf l i j ≠ 0) :
    0 < amtOf l i j ∧ amtOf l i j ≤ 1000000000 ∧ i ≠ j ∧ lsum (upAt l i j (amtOf l i j)) = 0 ∧ nz (upAt l i j (amtOf l i j)) < nz l ∧ (upAt l i j (amtOf l i j)).length = l.length ∧ ∀ x ∈ upAt l i j (amtOf l i j), -1000000000 ≤ x ∧ x ≤ 1000000000 := by
  have bi := hb _ (getD_mem' hi.1)
  have bj := hb _ (getD_mem' hj.1)
  have h1 : l.getD i 0 < 0 := by
    rcases Int.lt_or_le (l.getD i 0) 0 with g | g
    · exact g
    · exfalso
      have hz := (lsum_pos l (fun x hx => by obtain ⟨q, hq, rfl⟩ := mem_getD' hx; have := hi.2.1 q hq; omega)).2 hs
      have z1 := hz _ (getD_mem' hi.1)
      have z2 := hz _ (getD_mem' hj.1)
      exact hne (by unfold amtOf; rw [z1, z2]; rfl)
  have h2 : 0 < l.getD j 0 := by
    rcases Int.lt_or_le 0 (l.getD j 0) with g | g
    · exact g
    · exfalso
      have hz := (lsum_neg l (fun x hx => by obtain ⟨q, hq, rfl⟩ := mem_getD' hx; have := hj.2.1 q hq; omega)).2 hs
      have z1 := hz _ (getD_mem' hi.1)
      omega
  have hij : i ≠ j := by rintro rfl; omega
  obtain ⟨n, hn⟩ : ∃ n, n = amtOf l i j := ⟨_, rfl⟩
  have hn' : (n = -(l.getD i 0) ∧ n ≤ l.getD j 0) ∨ (n = l.getD j 0 ∧ n < -(l.getD i 0)) := by
    rw [hn]; unfold amtOf; split <;> omega
  rw [← hn]
  have e1 : (l.set i (l.getD i 0 + n)).getD j 0 = l.getD j 0 := by
    simp only [List.getD_eq_getElem?_getD]
    rw [List.getElem?_set_ne hij]
  have hup : upAt l i j n = (l.set i (l.getD i 0 + n)).set j (l.getD j 0 - n) := by unfold upAt; rw [e1]
  rw [hup]
  have s1 := lsum_set l i (l.getD i 0 + n) hi.1
  have s2 := lsum_set (l.set i (l.getD i 0 + n)) j (l.getD j 0 - n) (by rw [List.length_set]; exact hj.1)
  have n1 := nz_set l i (l.getD i 0 + n) hi.1
  have n2 := nz_set (l.set i (l.getD i 0 + n)) j (l.getD j 0 - n) (by rw [List.length_set]; exact hj.1)
  rw [e1] at s2 n2
  refine ⟨by omega, by omega, hij, by omega, ?_, by simp, fun x hx => ?_⟩
  · rw [if_neg (by omega)] at n1 n2
    rcases hn' with g | g
    · rw [if_pos (by omega)] at n1
      split at n2 <;> omega
    · rw [if_pos (by omega)] at n2
      split at n1 <;> omega
  · rcases mem_set_or hx with g | g
    · rcases mem_set_or g with q | q
      · exact hb x q
      · omega
    · omega
noncomputable def multA (xs : List S54) (p : Int) : List S54 × Bool := if goodC xs p = true then (multF p.toNat (posFold (List.replicate p.toNat 0) xs) [], true) else ([], false)
theorem multA_len (xs : List S54) (p : Int) : (multA xs p).1.length ≤ 8 := by
  unfold multA
  split
  · rename_i g
    have := (of_decide_eq_true g).1
    have h := multF_len p.toNat (posFold (List.replicate p.toNat 0) xs) []
    simp only [List.length_nil] at h
    show (multF p.toNat (posFold (List.replicate p.toNat 0) xs) []).length ≤ 8
    omega
  · simp

def IsLoK (l : List Int) (k i : Nat) : Prop := i < k ∧ (∀ j, j < k → l.getD i 0 ≤ l.getD j 0) ∧ ∀ j, j < i → l.getD i 0 < l.getD j 0
def IsHiK (l : List Int) (k i : Nat) : Prop := i < k ∧ (∀ j, j < k → l.getD j 0 ≤ l.getD i 0) ∧ ∀ j, j < i → l.getD j 0 < l.getD i 0
theorem isLoK_one (l : List Int) : IsLoK l 1 0 := ⟨by omega, (fun j hj => by (obtain rfl : j = 0 := by omega); exact Int.le_refl _), (fun j hj => by omega)⟩
theorem isHiK_one (l : List Int) : IsHiK l 1 0 := ⟨by omega, (fun j hj => by (obtain rfl : j = 0 := by omega); exact Int.le_refl _), (fun j hj => by omega)⟩
theorem isLoK_new {l : List Int} {k i : Nat} (h : IsLoK l k i) (c : l.getD k 0 < l.getD i 0) : IsLoK l (k + 1) k := by
  refine ⟨by omega, fun j hj => ?_, fun j hj => ?_⟩
  · rcases Nat.lt_or_ge j k with g | g
    · have := h.2.1 j g; omega
    · obtain rfl : j = k := by omega
      exact Int.le_refl _
  · have := h.2.1 j hj; omega
theorem isLoK_old {l : List Int} {k i : Nat} (h : IsLoK l k i) (c : ¬ l.getD k 0 < l.getD i 0) : IsLoK l (k + 1) i := by
  refine ⟨by have := h.1; omega, fun j hj => ?_, h.2.2⟩
  rcases Nat.lt_or_ge j k with g | g
  · exact h.2.1 j g
  · obtain rfl : j = k := by omega
    omega
theorem isHiK_new {l : List Int} {k i : Nat} (h : IsHiK l k i) (c : l.getD i 0 < l.getD k 0) : IsHiK l (k + 1) k := by
  refine ⟨by omega, fun j hj => ?_, fun j hj => ?_⟩
  · rcases Nat.lt_or_ge j k with g | g
    · have := h.2.1 j g; omega
    · obtain rfl : j = k := by omega
      exact Int.le_refl _
  · have := h.2.1 j hj; omega
theorem isHiK_old {l : List Int} {k i : Nat} (h : IsHiK l k i) (c : ¬ l.getD i 0 < l.getD k 0) : IsHiK l (k + 1) i := by
  refine ⟨by have := h.1; omega, fun j hj => ?_, h.2.2⟩
  rcases Nat.lt_or_ge j k with g | g
  · exact h.2.1 j g
  · obtain rfl : j = k := by omega
    omega
theorem isLoK_ex (l : List Int) : ∀ k, ∃ i, IsLoK l (k + 1) i
  | 0 => ⟨0, isLoK_one l⟩
  | k + 1 => by
    obtain ⟨i, hi⟩ := isLoK_ex l k
    by_cases c : l.getD (k + 1) 0 < l.getD i 0
    · exact ⟨_, isLoK_new hi c⟩
    · exact ⟨_, isLoK_old hi c⟩
theorem isHiK_ex (l : List Int) : ∀ k, ∃ i, IsHiK l (k + 1) i
  | 0 => ⟨0, isHiK_one l⟩
  | k + 1 => by
    obtain ⟨i, hi⟩ := isHiK_ex l k
    by_cases c : l.getD i 0 < l.getD (k + 1) 0
    · exact ⟨_, isHiK_new hi c⟩
    · exact ⟨_, isHiK_old hi c⟩
theorem isLo_ex {l : List Int} (h : 0 < l.length) : ∃ i, IsLo l i := by
  obtain ⟨i, hi⟩ := isLoK_ex l (l.length - 1)
  rw [show l.length - 1 + 1 = l.length from by omega] at hi
  exact ⟨i, hi⟩
theorem isHi_ex {l : List Int} (h : 0 < l.length) : ∃ i, IsHi l i := by
  obtain ⟨i, hi⟩ := isHiK_ex l (l.length - 1)
  rw [show l.length - 1 + 1 = l.length from by omega] at hi
  exact ⟨i, hi⟩
theorem foldMin : ∀ (l : List Int) (a : Int), (l.foldl min a = a ∨ l.foldl min a ∈ l) ∧ l.foldl min a ≤ a ∧ ∀ x ∈ l, l.foldl min a ≤ x
  | [], a => ⟨.inl rfl, Int.le_refl _, fun x hx => by simp at hx⟩
  | b :: t, a => by
    obtain ⟨h1, h2, h3⟩ := foldMin t (min a b)
    refine ⟨?_, ?_, fun x hx => ?_⟩
    · rcases h1 with g | g
      · simp only [List.foldl_cons]
        rcases Int.le_total a b with q | q
        · rw [Int.min_eq_left q] at g ⊢; exact .inl g
        · rw [Int.min_eq_right q] at g ⊢; rw [g]; exact .inr List.mem_cons_self
      · exact .inr (List.mem_cons_of_mem _ g)
    · simp only [List.foldl_cons]; exact Int.le_trans h2 (Int.min_le_left _ _)
    · simp only [List.foldl_cons]
      rcases List.mem_cons.mp hx with rfl | hx
      · exact Int.le_trans h2 (Int.min_le_right _ _)
      · exact h3 x hx
theorem foldMax : ∀ (l : List Int) (a : Int), (l.foldl max a = a ∨ l.foldl max a ∈ l) ∧ a ≤ l.foldl max a ∧ ∀ x ∈ l, x ≤ l.foldl max a
  | [], a => ⟨.inl rfl, Int.le_refl _, fun x hx => by simp at hx⟩
  | b :: t, a => by
    obtain ⟨h1, h2, h3⟩ := foldMax t (max a b)
    refine ⟨?_, ?_, fun x hx => ?_⟩
    · rcases h1 with g | g
      · simp only [List.foldl_cons]
        rcases Int.le_total a b with q | q
        · rw [Int.max_eq_right q] at g ⊢; rw [g]; exact .inr List.mem_cons_self
        · rw [Int.max_eq_left q] at g ⊢; exact .inl g
      · exact .inr (List.mem_cons_of_mem _ g)
    · simp only [List.foldl_cons]; exact Int.le_trans (Int.le_max_left _ _) h2
    · simp only [List.foldl_cons]
      rcases List.mem_cons.mp hx with rfl | hx
      · exact Int.le_trans (Int.le_max_right _ _) h2
      · exact h3 x hx
theorem headD_mem {l : List Int} (h : 0 < l.length) : l.headD 0 ∈ l := by
  cases l with
  | nil => simp at h
  | cons a t => exact List.mem_cons_self
theorem minOf_lo {l : List Int} {i : Nat} (h : IsLo l i) : Lib.minOf l = l.getD i 0 := by
  have hl : 0 < l.length := by have := h.1; omega
  obtain ⟨h1, h2, h3⟩ := foldMin l (l.headD 0)
  have hm : Lib.minOf l ∈ l := by
    unfold Lib.minOf
    rcases h1 with g | g
    · rw [g]; exact headD_mem hl
    · exact g
  have a := h3 _ (getD_mem' h.1)
  obtain ⟨j, hj, e⟩ := mem_getD' hm
  have b := h.2.1 j hj
  unfold Lib.minOf at e ⊢
  omega
theorem maxOf_hi {l : List Int} {i : Nat} (h : IsHi l i) : Lib.maxOf l = l.getD i 0 := by
  have hl : 0 < l.length := by have := h.1; omega
  obtain ⟨h1, h2, h3⟩ := foldMax l (l.headD 0)
  have hm : Lib.maxOf l ∈ l := by
    unfold Lib.maxOf
    rcases h1 with g | g
    · rw [g]; exact headD_mem hl
    · exact g
  have a := h3 _ (getD_mem' h.1)
  obtain ⟨j, hj, e⟩ := mem_getD' hm
  have b := h.2.1 j hj
  unfold Lib.maxOf at e ⊢
  omega
theorem index_l0 (l : List Int) (x : Int) (i : Nat) (hl : l.length ≤ 1048576) (hi : i < l.length) (hx : l.getD i 0 = x) (hne : ∀ j, j < i → l.getD j 0 ≠ x) : ∀ (d j : Nat), j + d = i → Ev (fun k => slices_Index_int_int.l0 k l x (l.length : Int) (j : Int)) (i : Int) := by
  intro d
  induction d with
  | zero =>
    intro j hj
    obtain rfl : j = i := by omega
    refine evSucc ?_
    simp only [slices_Index_int_int.l0]
    refine evPos (by omega) ?_
    refine evPos (by omega) ?_
    refine evPos (by omega) ?_
    refine evPos ?_ (evSome rfl)
    rw [rd, Int.toNat_natCast]; exact hx.symm
  | succ d ih =>
    intro j hj
    refine evSucc ?_
    simp only [slices_Index_int_int.l0]
    refine evPos (by omega) ?_
    refine evPos (by omega) ?_
    refine evPos (by omega) ?_
    refine evNeg ?_ ?_
    · rw [rd, Int.toNat_natCast]; exact fun e => hne j (by omega) e.symm
    · have e : wrap64 ((j : Int) + 1) = ((j + 1 : Nat) : Int) := by rw [wrapId (by omega)]; omega
      rw [e]
      exact ih (j + 1) (by omega)
theorem index_ev (l : List Int) (x : Int) (i : Nat) (hl : l.length ≤ 1048576) (hi : i < l.length) (hx : l.getD i 0 = x) (hne : ∀ j, j < i → l.getD j 0 ≠ x) : Ev (fun k => slices_Index_int_int.f k l x) (i : Int) := by
  simp only [slices_Index_int_int.f]
  exact index_l0 l x i hl hi hx hne i 0 (by omega)

def minI (a b : Int) : Int := if b < a then b else a
theorem l1Least_eq (a b : Int) : spec_l1Least.f a b = some (minI a b) := by
  unfold spec_l1Least.f minI
  repeat (first | rfl | (congr 1; omega) | omega | split)
theorem minI_bd (a b : Int) : (minI a b = a ∨ minI a b = b) ∧ minI a b ≤ a ∧ minI a b ≤ b := by unfold minI; split <;> omega
end Go.Proofs.Ytaobdjdmmhglaaa.Pure
