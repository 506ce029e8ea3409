/- The plain law of FnExactRunWaterfall: the printed functions that it uses answer as plain Lean functions do; how a sum is shared and served by ranks, one payment after another. No other condition. -/
import Derived.Test.YtbnhpkkkijjkkaaPL18Dx0
import Derived.Test.YtbnhpkkkijjkkaaPL18Dx1
import Derived.Test.YtbnhpkkkijjkkaaPL18Dx2
import Derived.Test.YtbnhpkkkijjkkaaPL18Dx3
import Derived.Test.YtbnhpkkkijjkkaaPL18Dx4
import Derived.Test.YtbnhpkkkijjkkaaPL18Dx5
import Derived.Test.YtbnhpkkkijjkkaaEvKit
import Derived.Test.YtbnhpkkkijjkkaaKReads
import Derived.Sort.LotA
namespace Go.Proofs.Ytbnhpkkkijjkkaa.Pure
open Go.RowKit Go.Proofs.YtbnhpkkkijjkkaaW.PrintWords Go.Proofs.YtbnhpkkkijjkkaaW.PrintLast Go.Proofs.YtbnhpkkkijjkkaaW.PrintMore Go.Proofs.Ytbnhpkkkijjkkaa.PL18D Go.Proofs.Ytbnhpkkkijjkkaa.EvKit
set_option linter.unusedVariables false
set_option linter.unusedSimpArgs false

theorem rd_T49_at {xs pre t : List S49} {a : S49} (h : xs = pre ++ a :: t) {i : Int} (hi : i = pre.length) : rd_T49 xs i = a := getD_at h hi


theorem rd_T75_at {xs pre t : List S75} {a : S75} (h : xs = pre ++ a :: t) {i : Int} (hi : i = pre.length) : rd_T75 xs i = a := getD_at h hi


def cv_Tranche (x : S75) : S49 := ⟨x.f0, x.f1⟩
theorem toTrancheS_l0 (xs : List S75) (hn : xs.length ≤ 1048576) : ∀ (rest pre : List S75) (cur : List S49) (i : Int), xs = pre ++ rest → i = pre.length → (∃ tl : List S49, tl.length = rest.length ∧ cur = pre.map cv_Tranche ++ tl) →
    Ev (fun k => laws_toTrancheS.l0 k xs cur i) (xs.map cv_Tranche) := by
  intro rest
  induction rest with
  | nil =>
    intro pre cur i h hi hc
    obtain ⟨tl, ht, rfl⟩ := hc
    have hl := len_nil h
    refine evSucc ?_
    simp only [laws_toTrancheS.l0]
    refine evNeg (by omega) ?_
    refine evSome ?_
    have : tl = [] := List.length_eq_zero_iff.mp ht
    subst this
    rw [h]; simp
  | cons a t ih =>
    intro pre cur i h hi hc
    obtain ⟨tl, ht, hcur⟩ := hc
    have hl := len_cons h
    obtain ⟨b, tl, rfl⟩ : ∃ b tl', tl = b :: tl' := by
      cases tl with
      | nil => simp at ht
      | cons b tl => exact ⟨b, tl, rfl⟩
    have hcl := len_cons hcur
    simp at hcl
    refine evSucc ?_
    simp only [laws_toTrancheS.l0]
    refine evPos (by omega) ?_
    refine evPos (by omega) ?_
    simp only [laws_toTranche.f, rd_T75_at h hi, Option.bind_some]
    refine evPos (by omega) ?_
    refine ih (pre ++ [a]) _ _ (snoc h) ?_ ⟨tl, by simpa using ht, ?_⟩
    · rw [wrapId (by omega), len_snoc]; omega
    · rw [set_at hcur (by simpa using hi)]; simp [cv_Tranche]
theorem toTrancheS_ev (xs : List S75) (hn : xs.length ≤ 1048576) : Ev (fun k => laws_toTrancheS.f k xs) (xs.map cv_Tranche) := by
  simp only [laws_toTrancheS.f]
  refine evPos (by omega) ?_
  refine evPos (by omega) ?_
  exact toTrancheS_l0 xs hn xs [] _ 0 rfl rfl ⟨List.replicate xs.length z49, by simp, by simp⟩
theorem szTrancheS_eq (xs : List S75) (h : xs.length ≤ 9223372036854775807) : laws_szTrancheS.f xs 1048576 = some (if xs.length ≤ 1048576 then 1048576 - (xs.length : Int) else -1) := by
  simp only [laws_szTrancheS.f]
  rw [wrapId (by omega)]
  by_cases c : xs.length ≤ 1048576
  · rw [if_neg (by omega), if_pos c]
  · rw [if_pos (by omega), if_neg c]


theorem eqTrancheS_l0 (xs : List S49) (hn : xs.length ≤ 9223372036854775806) : ∀ (rest pre : List S49) (i : Int), xs = pre ++ rest → i = pre.length → Ev (fun k => laws_eqTrancheS.l0 k xs xs i) true := by
  intro rest
  induction rest with
  | nil =>
    intro pre i h hi
    have hl := len_nil h
    refine evSucc ?_
    simp only [laws_eqTrancheS.l0]
    refine evNeg (by omega) ?_
    exact evSome rfl
  | cons a t ih =>
    intro pre i h hi
    have hl := len_cons h
    refine evSucc ?_
    simp only [laws_eqTrancheS.l0]
    refine evPos (by omega) ?_
    refine evPos (by omega) ?_
    refine evPos (by omega) ?_
    refine evBindS (a := true) (by simp [laws_eqTranche.f]) ?_
    refine evPos (by trivial) ?_
    exact ih (pre ++ [a]) _ (snoc h) (by rw [wrapId (by omega), len_snoc]; omega)
theorem eqTrancheS_ev (xs : List S49) (hn : xs.length ≤ 9223372036854775806) : Ev (fun k => laws_eqTrancheS.f k xs xs) true := by
  simp only [laws_eqTrancheS.f]
  exact evPos (by trivial) (eqTrancheS_l0 xs hn xs [] 0 rfl rfl)


def upS_Tranche : Nat → Int → List S49
  | 0, _ => []
  | c + 1, m => ⟨m, m + 1⟩ :: upS_Tranche c (m + 2)
theorem upS_Tranche_length : ∀ (c : Nat) (m : Int), (upS_Tranche c m).length = c
  | 0, _ => rfl
  | c + 1, m => by simp [upS_Tranche, upS_Tranche_length c]
theorem markTrancheS_l0 : ∀ (rest pre : List S49) (xs : List S49) (m i : Int), xs = pre ++ rest → i = pre.length → 0 ≤ m → m + 2 * rest.length ≤ 9223372036854775807 → pre.length + rest.length ≤ 9223372036854775806 →
    Ev (fun k => laws_markTrancheS.l0 k xs m i) (m + 2 * rest.length, pre ++ upS_Tranche rest.length m) := by
  intro rest
  induction rest with
  | nil =>
    intro pre xs m i h hi h0 h1 h2
    have hl := len_nil h
    refine evSucc ?_
    simp only [laws_markTrancheS.l0]
    refine evNeg (by omega) ?_
    exact evSome (by simp [h, upS_Tranche])
  | cons a t ih =>
    intro pre xs m i h hi h0 h1 h2
    have hl := len_cons h
    subst h
    simp only [List.length_cons] at h1 h2
    have hrd : ∀ b : S49, rd_T49 (pre ++ b :: t) i = b := fun b => rd_T49_at rfl hi
    have hset : ∀ b c : S49, (pre ++ b :: t).set i.toNat c = pre ++ c :: t := fun b c => set_at rfl hi
    have w1 : wrap64 (m + 1) = m + 1 := (wrapId (by omega)).trans (by omega)
    have w2 : wrap64 (m + 1 + 1) = m + 2 := (wrapId (by omega)).trans (by omega)
    refine evSucc ?_
    simp only [laws_markTrancheS.l0, Option.bind_some, hrd, hset, w1, w2]
    refine evPos (by omega) ?_
    refine evPos (by omega) ?_
    refine evEq (ih (pre ++ [⟨m, m + 1⟩]) _ (m + 2) _ (by simp) ?_ ?_ ?_ ?_) ?_
    · rw [wrapId (by omega), len_snoc]; omega
    · omega
    · omega
    · simp; omega
    · simp [upS_Tranche]; omega
theorem markTrancheS_ev (xs : List S49) (m : Int) (h0 : 0 ≤ m) (h1 : m + 2 * xs.length ≤ 9223372036854775807) (h2 : xs.length ≤ 9223372036854775806) : Ev (fun k => laws_markTrancheS.f k xs m) (m + 2 * xs.length, upS_Tranche xs.length m) := by
  simp only [laws_markTrancheS.f]
  exact evEq (markTrancheS_l0 xs [] xs m 0 rfl rfl h0 h1 (by simpa using h2)) (by simp)


theorem toIntS_l0 (xs : List Int) (hn : xs.length ≤ 1048576) : ∀ (rest pre : List Int) (cur : List Int) (i : Int), xs = pre ++ rest → i = pre.length → (∃ tl : List Int, tl.length = rest.length ∧ cur = pre ++ tl) →
    Ev (fun k => laws_toIntS.l0 k xs cur i) xs := by
  intro rest
  induction rest with
  | nil =>
    intro pre cur i h hi hc
    obtain ⟨tl, ht, rfl⟩ := hc
    have hl := len_nil h
    refine evSucc ?_
    simp only [laws_toIntS.l0]
    refine evNeg (by omega) ?_
    refine evSome ?_
    have : tl = [] := List.length_eq_zero_iff.mp ht
    subst this
    rw [h]
  | cons a t ih =>
    intro pre cur i h hi hc
    obtain ⟨tl, ht, hcur⟩ := hc
    have hl := len_cons h
    obtain ⟨b, tl, rfl⟩ : ∃ b tl', tl = b :: tl' := by
      cases tl with
      | nil => simp at ht
      | cons b tl => exact ⟨b, tl, rfl⟩
    have hcl := len_cons hcur
    refine evSucc ?_
    simp only [laws_toIntS.l0]
    refine evPos (by omega) ?_
    refine evPos (by omega) ?_
    simp only [rd_at h hi]
    refine evPos (by omega) ?_
    refine ih (pre ++ [a]) _ _ (snoc h) ?_ ⟨tl, by simpa using ht, ?_⟩
    · rw [wrapId (by omega), len_snoc]; omega
    · rw [set_at hcur hi]; simp
theorem toIntS_ev (xs : List Int) (hn : xs.length ≤ 1048576) : Ev (fun k => laws_toIntS.f k xs) xs := by
  simp only [laws_toIntS.f]
  refine evPos (by omega) ?_
  refine evPos (by omega) ?_
  exact toIntS_l0 xs hn xs [] _ 0 rfl rfl ⟨List.replicate xs.length 0, by simp, by simp⟩


theorem eqIntS_l0 (xs : List Int) (hn : xs.length ≤ 9223372036854775806) : ∀ (rest pre : List Int) (i : Int), xs = pre ++ rest → i = pre.length → Ev (fun k => laws_eqIntS.l0 k xs xs i) true := by
  intro rest
  induction rest with
  | nil =>
    intro pre i h hi
    have hl := len_nil h
    refine evSucc ?_
    simp only [laws_eqIntS.l0]
    refine evNeg (by omega) ?_
    exact evSome rfl
  | cons a t ih =>
    intro pre i h hi
    have hl := len_cons h
    refine evSucc ?_
    simp only [laws_eqIntS.l0]
    refine evPos (by omega) ?_
    refine evPos (by omega) ?_
    refine evPos (by omega) ?_
    refine evPos (by trivial) ?_
    exact ih (pre ++ [a]) _ (snoc h) (by rw [wrapId (by omega), len_snoc]; omega)
theorem eqIntS_ev (xs : List Int) (hn : xs.length ≤ 9223372036854775806) : Ev (fun k => laws_eqIntS.f k xs xs) true := by
  simp only [laws_eqIntS.f]
  exact evPos (by trivial) (eqIntS_l0 xs hn xs [] 0 rfl rfl)


theorem vInts_l0 (xs : List Int) (hn : xs.length ≤ 9223372036854775806) : ∀ (rest pre : List Int) (i : Int), xs = pre ++ rest → i = pre.length → Ev (fun k => laws_vInts.l0 k xs xs i) true := by
  intro rest
  induction rest with
  | nil =>
    intro pre i h hi
    have hl := len_nil h
    refine evSucc ?_
    simp only [laws_vInts.l0]
    refine evNeg (by omega) ?_
    exact evSome rfl
  | cons a t ih =>
    intro pre i h hi
    have hl := len_cons h
    refine evSucc ?_
    simp only [laws_vInts.l0]
    refine evPos (by omega) ?_
    refine evPos (by omega) ?_
    refine evPos (by omega) ?_
    refine evPos (by trivial) ?_
    exact ih (pre ++ [a]) _ (snoc h) (by rw [wrapId (by omega), len_snoc]; omega)
theorem vInts_ev (xs : List Int) (hn : xs.length ≤ 9223372036854775806) : Ev (fun k => laws_vInts.f k xs xs) true := by
  simp only [laws_vInts.f]
  exact evPos (by trivial) (vInts_l0 xs hn xs [] 0 rfl rfl)


def upFrom : Nat → Int → List Int
  | 0, _ => []
  | n + 1, m => m :: upFrom n (m + 1)
theorem upFrom_length : ∀ (n : Nat) (m : Int), (upFrom n m).length = n
  | 0, _ => rfl
  | n + 1, m => by simp [upFrom, upFrom_length n]
theorem markIntS_l0 : ∀ (rest pre : List Int) (xs : List Int) (m i : Int), xs = pre ++ rest → i = pre.length → 0 ≤ m → m + rest.length ≤ 9223372036854775807 → pre.length + rest.length ≤ 9223372036854775806 →
    Ev (fun k => laws_markIntS.l0 k xs m i) (m + rest.length, pre ++ upFrom rest.length m) := by
  intro rest
  induction rest with
  | nil =>
    intro pre xs m i h hi h0 h1 h2
    have hl := len_nil h
    refine evSucc ?_
    simp only [laws_markIntS.l0]
    refine evNeg (by omega) ?_
    exact evSome (by simp [h, upFrom])
  | cons a t ih =>
    intro pre xs m i h hi h0 h1 h2
    have hl := len_cons h
    simp only [List.length_cons] at h1 h2
    refine evSucc ?_
    simp only [laws_markIntS.l0]
    refine evPos (by omega) ?_
    refine evPos (by omega) ?_
    refine evEq (ih (pre ++ [m]) _ (wrap64 (m + 1)) _ ?_ ?_ ?_ ?_ ?_) ?_
    · rw [set_at h hi]; simp
    · rw [wrapId (by omega), len_snoc]; omega
    · rw [wrapId (by omega)]; omega
    · rw [wrapId (by omega)]; omega
    · simp; omega
    · rw [wrapId (by omega)]; simp [upFrom]; omega
theorem markIntS_ev (xs : List Int) (m : Int) (h0 : 0 ≤ m) (h1 : m + xs.length ≤ 9223372036854775807) (h2 : xs.length ≤ 9223372036854775806) : Ev (fun k => laws_markIntS.f k xs m) (m + xs.length, upFrom xs.length m) := by
  simp only [laws_markIntS.f]
  exact evEq (markIntS_l0 xs [] xs m 0 rfl rfl h0 h1 (by simpa using h2)) (by simp)


theorem heldIntS_l0 : ∀ (n : Nat) (pre : List Int) (xs : List Int) (m i : Int), xs = pre ++ upFrom n m → i = pre.length → 0 ≤ m → m + n ≤ 9223372036854775807 → pre.length + n ≤ 9223372036854775806 →
    Ev (fun k => laws_heldIntS.l0 k xs m i) (m + n) := by
  intro n
  induction n with
  | zero =>
    intro pre xs m i h hi h0 h1 h2
    have hl := len_nil h
    refine evSucc ?_
    simp only [laws_heldIntS.l0]
    refine evNeg (by omega) ?_
    exact evSome (by simp)
  | succ n ih =>
    intro pre xs m i h hi h0 h1 h2
    have h' : xs = pre ++ m :: upFrom n (m + 1) := h
    have hl := len_cons h'
    rw [upFrom_length] at hl
    refine evSucc ?_
    simp only [laws_heldIntS.l0, rd_at h' hi]
    refine evPos (by omega) ?_
    refine evPos (by omega) ?_
    refine evPos (by trivial) ?_
    refine evEq (ih (pre ++ [m]) _ (wrap64 (m + 1)) _ ?_ ?_ ?_ ?_ ?_) ?_
    · rw [wrapId (by omega)]; exact snoc h'
    · rw [wrapId (by omega), len_snoc]; omega
    · rw [wrapId (by omega)]; omega
    · rw [wrapId (by omega)]; omega
    · simp; omega
    · rw [wrapId (by omega)]; omega
theorem heldIntS_ev (n : Nat) (m : Int) (h0 : 0 ≤ m) (h1 : m + n ≤ 9223372036854775807) (h2 : n ≤ 9223372036854775806) : Ev (fun k => laws_heldIntS.f k (upFrom n m) m) (m + n) := by
  simp only [laws_heldIntS.f]
  exact heldIntS_l0 n [] _ m 0 rfl rfl h0 h1 (by simpa using h2)

theorem within_eq (a b c : Int) : impl_within.f a b c = some (decide (b ≤ a ∧ a ≤ c)) := by
  unfold impl_within.f
  by_cases h : a ≥ b
  · rw [if_pos h]; exact congrArg some (decide_eq_decide.mpr ⟨fun g => ⟨h, g⟩, fun g => g.2⟩)
  · rw [if_neg h]; exact congrArg some (decide_eq_false (fun g => h g.1)).symm
theorem l1In_eq (a b c : Int) : spec_l1In.f a b c = some (decide (b ≤ a ∧ a ≤ c)) := by
  unfold spec_l1In.f
  by_cases h : a ≥ b
  · rw [if_pos h]; exact congrArg some (decide_eq_decide.mpr ⟨fun g => ⟨h, g⟩, fun g => g.2⟩)
  · rw [if_neg h]; exact congrArg some (decide_eq_false (fun g => h g.1)).symm

theorem isAmount_eq (a : Int) : impl_isAmount.f a = some (decide (-1000000000 ≤ a ∧ a ≤ 1000000000)) := by
  unfold impl_isAmount.f; rw [within_eq]; rfl

def okTr (a : S49) : Prop := (1 ≤ a.f0 ∧ a.f0 ≤ 10) ∧ (0 ≤ a.f1 ∧ a.f1 ≤ 1000000000)
instance (a : S49) : Decidable (okTr a) := by unfold okTr; infer_instance
def sumT : List S49 → Int
  | [] => 0
  | a :: t => a.f1 + sumT t
theorem sumT_snoc (p : List S49) (a : S49) : sumT (p ++ [a]) = sumT p + a.f1 := by
  induction p with
  | nil => simp [sumT]
  | cons b t ih => simp only [List.cons_append, sumT, ih]; omega
theorem sumT_bd (p : List S49) (h : ∀ a ∈ p, okTr a) : 0 ≤ sumT p ∧ sumT p ≤ 1000000000 * p.length := by
  induction p with
  | nil => simp [sumT]
  | cons b t ih =>
    have h1 := ih (fun a ha => h a (List.mem_cons_of_mem _ ha))
    have h2 := (h b List.mem_cons_self).2
    simp only [sumT, List.length_cons]
    omega
def goodT (xs : List S49) : Bool := decide ((∀ a ∈ xs, okTr a) ∧ xs.length ≤ 20 ∧ sumT xs ≤ 1000000000)
theorem okTr_snoc {pre : List S49} {a : S49} (hok : ∀ b ∈ pre, okTr b) (ha : okTr a) : ∀ b ∈ pre ++ [a], okTr b := by
  intro b hb
  rcases List.mem_append.mp hb with g | g
  · exact hok b g
  · rw [List.mem_singleton.mp g]; exact ha
theorem implValidT_l0 (xs : List S49) (hn : xs.length ≤ 1048576) : ∀ (rest pre : List S49) (i : Int), xs = pre ++ rest → i = pre.length → (∀ a ∈ pre, okTr a) → Ev (fun k => impl_IsValidTranches.l0 k xs (sumT pre) xs (xs.length : Int) i) (goodT xs) := by
  intro rest
  induction rest with
  | nil =>
    intro pre i h hi hok
    have hl := len_nil h
    have hx : xs = pre := by simpa using h
    have hb := sumT_bd pre hok
    refine evSucc ?_
    simp only [impl_IsValidTranches.l0, isAmount_eq, Option.bind_some]
    refine evNeg (by omega) ?_
    by_cases c : xs.length ≤ 20
    · refine evPos (by omega) ?_
      refine evSome ?_
      unfold goodT
      rw [decide_eq_decide, hx]
      exact ⟨fun g => ⟨hok, by rw [← hx]; exact c, g.2⟩, fun g => ⟨by omega, g.2.2⟩⟩
    · refine evNeg (by omega) ?_
      exact evSome (decide_eq_false (fun g => c g.2.1)).symm
  | cons a t ih =>
    intro pre i h hi hok
    have hl := len_cons h
    have hb := sumT_bd pre hok
    have ha : a ∈ xs := by rw [h]; simp
    refine evSucc ?_
    simp only [impl_IsValidTranches.l0, within_eq, Option.bind_some, decide_eq_true_eq, rd_T49_at h hi]
    refine evPos (by omega) ?_
    refine evPos (by omega) ?_
    refine evPos (by omega) ?_
    have bad : ¬ okTr a → false = goodT xs := fun n => (decide_eq_false (fun g => n (g.1 a ha))).symm
    refine evIte (fun c1 => ?_) (fun c1 => evSome (bad (fun g => c1 g.1)))
    refine evIte (fun c2 => ?_) (fun c2 => evSome (bad (fun g => c2 g.2)))
    have e : wrap64 (sumT pre + a.f1) = sumT (pre ++ [a]) := by rw [sumT_snoc, wrapId (by omega)]
    rw [e]
    exact ih (pre ++ [a]) _ (snoc h) (by rw [wrapId (by omega), len_snoc]; omega) (okTr_snoc hok ⟨c1, c2⟩)
theorem implValidT_ev (xs : List S49) (hn : xs.length ≤ 1048576) : Ev (fun k => impl_IsValidTranches.f k xs) (goodT xs) := by
  simp only [impl_IsValidTranches.f]
  exact implValidT_l0 xs hn xs [] 0 rfl rfl (by simp)
theorem specGoodT_l0 (xs : List S49) (hn : xs.length ≤ 1048576) : ∀ (rest pre : List S49) (i : Int), xs = pre ++ rest → i = pre.length → (∀ a ∈ pre, okTr a) → Ev (fun k => spec_l18Good.l0 k xs (sumT pre) i) (goodT xs) := by
  intro rest
  induction rest with
  | nil =>
    intro pre i h hi hok
    have hl := len_nil h
    have hx : xs = pre := by simpa using h
    refine evSucc ?_
    simp only [spec_l18Good.l0]
    refine evNeg (by omega) ?_
    refine evSucc ?_
    simp only [spec_l18Good.j1]
    refine evNeg (by simp) ?_
    by_cases c : xs.length ≤ 20
    · refine evPos (by omega) ?_
      refine evSome ?_
      unfold goodT
      rw [decide_eq_decide, hx]
      exact ⟨fun g => ⟨hok, by rw [← hx]; exact c, g⟩, fun g => g.2.2⟩
    · refine evNeg (by omega) ?_
      exact evSome (decide_eq_false (fun g => c g.2.1)).symm
  | cons a t ih =>
    intro pre i h hi hok
    have hl := len_cons h
    have hb := sumT_bd pre hok
    have ha : a ∈ xs := by rw [h]; simp
    refine evSucc ?_
    simp only [spec_l18Good.l0]
    refine evPos (by omega) ?_
    refine evSucc ?_
    simp only [spec_l18Good.j1, l1In_eq, Option.bind_some, decide_eq_true_eq, rd_T49_at h hi]
    refine evIte (fun c0 => ?_) (fun c0 => ?_)
    · refine evPos (by omega) ?_
      refine evPos (by omega) ?_
      have bad : ¬ okTr a → false = goodT xs := fun n => (decide_eq_false (fun g => n (g.1 a ha))).symm
      refine evIte (fun c1 => ?_) (fun c1 => evSome (bad (fun g => c1 g.1)))
      refine evIte (fun c2 => ?_) (fun c2 => evSome (bad (fun g => c2 g.2)))
      have e : wrap64 (sumT pre + a.f1) = sumT (pre ++ [a]) := by rw [sumT_snoc, wrapId (by omega)]
      rw [e]
      exact ih (pre ++ [a]) _ (snoc h) (by rw [wrapId (by omega), len_snoc]; omega) (okTr_snoc hok ⟨c1, c2⟩)
    · refine evNeg (by omega) ?_
      exact evSome (decide_eq_false (fun g => by omega)).symm
theorem specGoodT_ev (xs : List S49) (hn : xs.length ≤ 1048576) : Ev (fun k => spec_l18Good.f k xs) (goodT xs) := by
  simp only [spec_l18Good.f]
  exact specGoodT_l0 xs hn xs [] 0 rfl rfl (by simp)

def ranksL : List Int := [1, 2, 3, 4, 5, 6, 7, 8, 9, 10]
theorem ranks_drop {r : Int} (h1 : 1 ≤ r) (h2 : r ≤ 10) : ranksL.drop (r - 1).toNat = r :: ranksL.drop (r + 1 - 1).toNat := by
  have : r = 1 ∨ r = 2 ∨ r = 3 ∨ r = 4 ∨ r = 5 ∨ r = 6 ∨ r = 7 ∨ r = 8 ∨ r = 9 ∨ r = 10 := by omega
  rcases this with rfl | rfl | rfl | rfl | rfl | rfl | rfl | rfl | rfl | rfl <;> decide
theorem ranksUp_l0 : ∀ (m : Nat) (r : Int) (out : List Int), r + m = 11 → 1 ≤ r → (out.length : Int) = r - 1 → Ev (fun k => impl_ranksUp.l0 k out r) (out ++ ranksL.drop (r - 1).toNat) := by
  intro m
  induction m with
  | zero =>
    intro r out h1 h2 ho
    obtain rfl : r = 11 := by omega
    refine evSucc ?_
    simp only [impl_ranksUp.l0]
    refine evNeg (by omega) (evSome ?_)
    rw [show ranksL.drop ((11 : Int) - 1).toNat = [] from by decide, List.append_nil]
  | succ m ih =>
    intro r out h1 h2 ho
    refine evSucc ?_
    simp only [impl_ranksUp.l0]
    refine evPos (by omega) ?_
    refine evPos (by omega) ?_
    rw [wrapId (x := r + 1) (by omega), ranks_drop h2 (by omega)]
    refine evEq (ih (r + 1) (out ++ [r]) (by omega) (by omega) (by simp; omega)) ?_
    simp
theorem ranksUp_ev : Ev (fun k => impl_ranksUp.f k) ranksL := by
  simp only [impl_ranksUp.f]
  exact ranksUp_l0 10 1 [] rfl (by omega) rfl

def sumI : List Int → Int
  | [] => 0
  | a :: t => a + sumI t
def sumWI : Int → List Int → Int
  | s, [] => s
  | s, a :: t => sumWI (wrap64 (s + a)) t
theorem implSumOf_l0 (xs : List Int) (hn : xs.length ≤ 9223372036854775806) : ∀ (rest pre : List Int) (s i : Int), xs = pre ++ rest → i = pre.length → Ev (fun k => impl_sumOf.l0 k s xs (xs.length : Int) i) (sumWI s rest) := by
  intro rest
  induction rest with
  | nil =>
    intro pre s i h hi
    have hl := len_nil h
    refine evSucc ?_
    simp only [impl_sumOf.l0]
    refine evNeg (by omega) ?_
    exact evSome rfl
  | cons a t ih =>
    intro pre s i h hi
    have hl := len_cons h
    refine evSucc ?_
    simp only [impl_sumOf.l0, rd_at h hi]
    refine evPos (by omega) ?_
    refine evPos (by omega) ?_
    refine evPos (by omega) ?_
    exact ih (pre ++ [a]) _ _ (snoc h) (by rw [wrapId (by omega), len_snoc]; omega)
theorem implSumOf_ev (xs : List Int) (hn : xs.length ≤ 9223372036854775806) : Ev (fun k => impl_sumOf.f k xs) (sumWI 0 xs) := by
  simp only [impl_sumOf.f]
  exact implSumOf_l0 xs hn xs [] 0 0 rfl rfl
/-- Without a wrap where all parts are at least 0 and the whole is small. -/
theorem sumI_nonneg (xs : List Int) (h : ∀ x ∈ xs, 0 ≤ x) : 0 ≤ sumI xs := by
  induction xs with
  | nil => simp [sumI]
  | cons a t ih =>
    have h1 := h a List.mem_cons_self
    have h2 := ih (fun x hx => h x (List.mem_cons_of_mem _ hx))
    simp only [sumI]; omega
theorem sumWI_eq : ∀ (xs : List Int) (s : Int), (∀ x ∈ xs, 0 ≤ x) → 0 ≤ s → s + sumI xs ≤ 9223372036854775807 → sumWI s xs = s + sumI xs
  | [], s, _, _, _ => by simp [sumWI, sumI]
  | a :: t, s, h, h0, h1 => by
    have ha := h a List.mem_cons_self
    have ht : ∀ x ∈ t, 0 ≤ x := fun x hx => h x (List.mem_cons_of_mem _ hx)
    have hs := sumI_nonneg t ht
    simp only [sumI] at h1
    simp only [sumWI, sumI]
    rw [wrapId (by omega), sumWI_eq t (s + a) ht (by omega) (by omega)]
    omega

/-- Reads of a row by a plain place. -/
def rdN (xs : List Int) (i : Nat) : Int := xs.getD i 0
theorem rdN_set (xs : List Int) (i j : Nat) (v : Int) (hi : i < xs.length) : rdN (xs.set i v) j = if j = i then v else rdN xs j := by
  unfold rdN
  simp only [List.getD_eq_getElem?_getD, List.getElem?_set]
  by_cases h : i = j
  · subst h; simp [hi]
  · simp [h, Ne.symm h]
/-- Whole parts and remainders of a share. -/
def quoL (t al : Int) (ws : List Int) : List Int := ws.map (fun w => (t * w).tdiv al)
def remL (t al : Int) (ws : List Int) : List Int := ws.map (fun w => (t * w).tmod al)
/-- The place of the greatest number, the first of equals: from place i on, b the best so far. -/
def bestL (rs : List Int) : List Int → Nat → Nat → Nat
  | [], _, b => b
  | r :: t, i, b => bestL rs t (i + 1) (if rdN rs b < r then i else b)
def best (rs : List Int) : Nat := bestL rs (rs.drop 1) 1 0
/-- b comes before every other place. -/
def Lead (rs : List Int) (n b : Nat) : Prop := ∀ j, j < n → j ≠ b → rdN rs j < rdN rs b ∨ (rdN rs j = rdN rs b ∧ b < j)
theorem bestL_ok (rs : List Int) : ∀ (rest pre : List Int) (i b : Nat), rs = pre ++ rest → i = pre.length → b < i → Lead rs i b → bestL rs rest i b < rs.length ∧ Lead rs rs.length (bestL rs rest i b)
  | [], pre, i, b, h, hi, hb, hl => by
    have e : rs.length = i := by rw [h, hi]; simp
    rw [bestL, e]
    exact ⟨hb, hl⟩
  | r :: t, pre, i, b, h, hi, hb, hl => by
    have hr : rdN rs i = r := by subst h hi; simp [rdN]
    rw [bestL]
    refine bestL_ok rs t (pre ++ [r]) (i + 1) _ (by rw [h]; simp) (by rw [hi]; simp) (by split <;> omega) ?_
    intro j hj hne
    by_cases c : rdN rs b < r
    · rw [if_pos c] at hne ⊢
      rw [hr]
      have hji : j < i := by omega
      by_cases e : j = b
      · subst e; exact Or.inl c
      · rcases hl j hji e with q | q
        · exact Or.inl (by omega)
        · exact Or.inl (by omega)
    · rw [if_neg c] at hne ⊢
      by_cases e : j = i
      · subst e; rw [hr]; omega
      · exact hl j (by omega) hne
theorem best_ok (rs : List Int) (h : 0 < rs.length) : best rs < rs.length ∧ Lead rs rs.length (best rs) := by
  cases rs with
  | nil => simp at h
  | cons a t => exact bestL_ok (a :: t) t [a] 1 0 rfl rfl (by omega) (fun j hj hne => by omega)
theorem best_eq (rs : List Int) (b : Nat) (hb : b < rs.length) (hl : Lead rs rs.length b) : best rs = b := by
  obtain ⟨h1, h2⟩ := best_ok rs (by omega)
  by_cases e : best rs = b
  · exact e
  · have q1 := hl _ h1 e
    have q2 := h2 b hb (Ne.symm e)
    omega
/-- One unit more at a place. -/
def inc (out : List Int) (i : Nat) : List Int := out.set i (wrap64 (rdN out i + 1))
theorem inc_length (out : List Int) (i : Nat) : (inc out i).length = out.length := by simp [inc]
/-- The reference's way: the greatest remainder gets a unit and is struck. -/
def giveS : Nat → List Int → List Int → List Int
  | 0, out, _ => out
  | k + 1, out, rs => giveS k (inc out (best rs)) (rs.set (best rs) (-1))
/-- The program's way: along an order. -/
def giveI : List Nat → List Int → List Int
  | [], out => out
  | i :: t, out => giveI t (inc out i)
theorem giveI_snoc (is : List Nat) (i : Nat) : ∀ out, giveI (is ++ [i]) out = inc (giveI is out) i := by
  induction is with
  | nil => intro out; rfl
  | cons a t ih => intro out; simp only [List.cons_append, giveI]; exact ih _
theorem giveI_length (is : List Nat) : ∀ out, (giveI is out).length = out.length := by
  induction is with
  | nil => intro out; rfl
  | cons a t ih => intro out; simp only [giveI]; rw [ih, inc_length]
theorem giveS_length : ∀ (k : Nat) (out rs : List Int), (giveS k out rs).length = out.length
  | 0, _, _ => rfl
  | k + 1, out, rs => by rw [giveS, giveS_length k, inc_length]
/-- Place i comes before place j. -/
def Bef (rs : List Int) (i j : Nat) : Prop := rdN rs j < rdN rs i ∨ (rdN rs j = rdN rs i ∧ i < j)
theorem give_eq : ∀ (ord : List Nat) (k : Nat) (out rs : List Int), k ≤ ord.length → ord.Nodup → (∀ i ∈ ord, i < rs.length ∧ 0 ≤ rdN rs i) → (∀ j, j < rs.length → j ∉ ord → rdN rs j = -1) → ord.Pairwise (Bef rs) → giveS k out rs = giveI (ord.take k) out
  | _, 0, _, _, _, _, _, _, _ => by simp [giveS, giveI]
  | [], k + 1, _, _, hk, _, _, _, _ => by simp at hk
  | b :: t, k + 1, out, rs, hk, hd, hin, hout, hp => by
    obtain ⟨hb1, hb0⟩ := hin b List.mem_cons_self
    obtain ⟨hbt, hd2⟩ := List.nodup_cons.mp hd
    obtain ⟨hpb, hp2⟩ := List.pairwise_cons.mp hp
    have e : best rs = b := best_eq rs b hb1 (fun j hj hne => by
      by_cases m : j ∈ t
      · exact hpb j m
      · have := hout j hj (fun q => by rcases List.mem_cons.mp q with q | q; exact hne q; exact m q)
        exact Or.inl (by omega))
    have hne : ∀ i ∈ t, i ≠ b := fun i hi q => hbt (q ▸ hi)
    rw [giveS, e, List.take_succ_cons, giveI]
    refine give_eq t k _ _ (by simpa using hk) hd2 ?_ ?_ ?_
    · intro i hi
      have q := hin i (List.mem_cons_of_mem _ hi)
      rw [rdN_set _ _ _ _ hb1, if_neg (hne i hi), List.length_set]
      exact q
    · intro j hj hm
      rw [List.length_set] at hj
      rw [rdN_set _ _ _ _ hb1]
      by_cases q : j = b
      · rw [if_pos q]
      · rw [if_neg q]
        exact hout j hj (fun z => by rcases List.mem_cons.mp z with z | z; exact q z; exact hm z)
    · refine List.Pairwise.imp_of_mem ?_ hp2
      intro i j hi hj q
      unfold Bef at q ⊢
      rw [rdN_set _ _ _ _ hb1, rdN_set _ _ _ _ hb1, if_neg (hne i hi), if_neg (hne j hj)]
      exact q
section order
open Go.Sort
variable {m : Nat}
theorem ltB_swo (rs : List Int) : SWO (α := Fin (m + 1)) (fun x y => decide (rdN rs y.val < rdN rs x.val ∨ (rdN rs y.val = rdN rs x.val ∧ x.val < y.val))) where
  irrefl := fun x => decide_eq_false (by omega)
  trans := fun x y z h1 h2 => by
    have h1 := of_decide_eq_true h1
    have h2 := of_decide_eq_true h2
    exact decide_eq_true (by omega)
  ntrans := fun x y z h1 h2 => by
    have h1 := of_decide_eq_false h1
    have h2 := of_decide_eq_false h2
    exact decide_eq_false (by omega)
theorem swp_g (d : Array (Fin (m + 1))) {i j : Nat} (hi : i < d.size) (hj : j < d.size) (k : Nat) : (swp d i j)[k]! = if k = j then d[i]! else if k = i then d[j]! else d[k]! := swp_get d hi hj k
theorem inner_eq (lt1 lt2 : Fin (m + 1) → Fin (m + 1) → Bool) (hlt : ∀ x y : Fin (m + 1), y.val < x.val → lt1 x y = lt2 x y) : ∀ (j : Nat) (d : Array (Fin (m + 1))), j < d.size → (∀ p, p < j → d[p]!.val < d[j]!.val) → insInner lt1 0 j d = insInner lt2 0 j d ∧ (insInner lt1 0 j d).size = d.size ∧ (∀ p, j < p → (insInner lt1 0 j d)[p]! = d[p]!) ∧ (∀ p, p ≤ j → ∃ q, q ≤ j ∧ (insInner lt1 0 j d)[p]! = d[q]!)
  | 0, d, _, _ => by
    exact ⟨rfl, rfl, fun _ _ => rfl, fun p hp => ⟨p, hp, rfl⟩⟩
  | j + 1, d, hj, hd => by
    have hl := hlt d[j + 1]! d[j]! (hd j (by omega))
    simp only [insInner]
    rw [← hl]
    by_cases c : (decide (j + 1 > 0) && lt1 d[j + 1]! d[j]!) = true
    · rw [if_pos c, if_pos c]
      have g := swp_g d hj (show j < d.size by omega)
      have ih := inner_eq lt1 lt2 hlt j (swp d (j + 1) j) (by rw [swp_size]; omega) (fun p hp => by
        rw [g, g, if_neg (by omega), if_neg (by omega), if_pos rfl]
        exact hd p (by omega))
      refine ⟨ih.1, by rw [ih.2.1, swp_size], fun p hp => ?_, fun p hp => ?_⟩
      · rw [ih.2.2.1 p (by omega), g, if_neg (by omega), if_neg (by omega)]
      · by_cases e : p ≤ j
        · obtain ⟨q, hq, hq2⟩ := ih.2.2.2 p e
          rw [hq2, g]
          by_cases e1 : q = j
          · rw [if_pos e1]; exact ⟨j + 1, by omega, rfl⟩
          · rw [if_neg e1, if_neg (by omega)]; exact ⟨q, by omega, rfl⟩
        · rw [ih.2.2.1 p (by omega), g, if_neg (by omega), if_pos (by omega)]
          exact ⟨j, by omega, rfl⟩
    · rw [if_neg c, if_neg c]
      exact ⟨rfl, rfl, fun _ _ => rfl, fun p hp => ⟨p, hp, rfl⟩⟩
theorem insOuter_go' (lt : Fin (m + 1) → Fin (m + 1) → Bool) (a b i : Nat) (d : Array (Fin (m + 1))) (h : i < b) : insOuter lt a b i d = insOuter lt a b (i + 1) (insInner lt a i d) := by rw [insOuter, if_pos h]
theorem insOuter_stop' (lt : Fin (m + 1) → Fin (m + 1) → Bool) (a b i : Nat) (d : Array (Fin (m + 1))) (h : ¬ i < b) : insOuter lt a b i d = d := by rw [insOuter, if_neg h]
theorem outer_eq (lt1 lt2 : Fin (m + 1) → Fin (m + 1) → Bool) (hlt : ∀ x y : Fin (m + 1), y.val < x.val → lt1 x y = lt2 x y) : ∀ (k i : Nat) (d : Array (Fin (m + 1))), i + k = m + 1 → d.size = m + 1 → (∀ p, i ≤ p → p < m + 1 → d[p]!.val = p) → (∀ p, p < i → d[p]!.val < i) → insOuter lt1 0 (m + 1) i d = insOuter lt2 0 (m + 1) i d
  | 0, i, d, hk, _, _, _ => by rw [insOuter_stop' lt1 0 (m + 1) i d (by omega), insOuter_stop' lt2 0 (m + 1) i d (by omega)]
  | k + 1, i, d, hk, hs, h1, h2 => by
    rw [insOuter_go' lt1 0 (m + 1) i d (by omega), insOuter_go' lt2 0 (m + 1) i d (by omega)]
    have hi := inner_eq lt1 lt2 hlt i d (by omega) (fun p hp => by rw [h1 i (by omega) (by omega)]; exact h2 p hp)
    rw [← hi.1]
    refine outer_eq lt1 lt2 hlt k (i + 1) _ (by omega) (by rw [hi.2.1]; exact hs) (fun p hp hp2 => ?_) (fun p hp => ?_)
    · rw [hi.2.2.1 p (by omega)]; exact h1 p (by omega) hp2
    · obtain ⟨q, hq, hq2⟩ := hi.2.2.2 p (by omega)
      rw [hq2]
      by_cases e : q = i
      · rw [e, h1 i (by omega) (by omega)]; omega
      · have := h2 q (by omega); omega
theorem inner_size (lt : Fin (m + 1) → Fin (m + 1) → Bool) (a : Nat) : ∀ (j : Nat) (d : Array (Fin (m + 1))), (insInner lt a j d).size = d.size
  | 0, _ => rfl
  | j + 1, d => by
    simp only [insInner]
    split
    · rw [inner_size lt a j, swp_size]
    · rfl
theorem outer_size (lt : Fin (m + 1) → Fin (m + 1) → Bool) (a b : Nat) : ∀ (k i : Nat) (d : Array (Fin (m + 1))), b - i = k → (insOuter lt a b i d).size = d.size
  | 0, i, d, h => by rw [insOuter_stop' lt a b i d (by omega)]
  | k + 1, i, d, h => by rw [insOuter_go' lt a b i d (by omega), outer_size lt a b k (i + 1) _ (by omega), inner_size]
theorem sort_size (lt : Fin (m + 1) → Fin (m + 1) → Bool) (d : Array (Fin (m + 1))) (a b : Nat) : (insertionSort lt d a b).size = d.size := by
  unfold insertionSort; exact outer_size lt a b _ _ d rfl
theorem sort_none (lt : Fin (m + 1) → Fin (m + 1) → Bool) (d : Array (Fin (m + 1))) (a : Nat) : insertionSort lt d a a = d := by
  unfold insertionSort; exact insOuter_stop' lt a a (a + 1) d (by omega)
/-- The row of places, as it is before it is sorted. -/
def iotaA (m : Nat) : Array (Fin (m + 1)) := Array.ofFn (fun i : Fin (m + 1) => i)
theorem iotaA_size : (iotaA m).size = m + 1 := by simp [iotaA]
theorem iotaA_at (p : Nat) (hp : p < m + 1) : (iotaA m)[p]!.val = p := by
  rw [getElem!_pos _ p (by rw [iotaA_size]; exact hp)]
  simp [iotaA]
theorem iotaA_nodup : ((iotaA m).toList.map (fun x : Fin (m + 1) => x.val)).Nodup := by
  rw [iotaA, Array.toList_ofFn, List.map_ofFn]
  rw [List.nodup_iff_pairwise_ne, List.pairwise_iff_getElem]
  intro i j hi hj hij
  rw [List.getElem_ofFn, List.getElem_ofFn]
  simp only [Function.comp]
  omega
/-- The order that the program's sort makes. -/
def ordOf (lt : Fin (m + 1) → Fin (m + 1) → Bool) : List Nat := (insertionSort lt (iotaA m) 0 (m + 1)).toList.map (fun x => x.val)
theorem extract_all {β : Type} (D : Array β) (n : Nat) (h : D.size = n) : D.extract 0 n = D := by subst h; exact Array.extract_size
theorem ord_ok (rs : List Int) (lt : Fin (m + 1) → Fin (m + 1) → Bool) (hlt : ∀ x y, lt x y = decide (rdN rs y.val < rdN rs x.val)) :
    (ordOf lt).length = m + 1 ∧ (ordOf lt).Nodup ∧ (∀ i ∈ ordOf lt, i < m + 1) ∧ (∀ j, j < m + 1 → j ∈ ordOf lt) ∧ (ordOf lt).Pairwise (Bef rs) := by
  obtain ⟨lt2, hl2⟩ : ∃ f : Fin (m + 1) → Fin (m + 1) → Bool, f = fun (x y : Fin (m + 1)) => decide (rdN rs y.val < rdN rs x.val ∨ (rdN rs y.val = rdN rs x.val ∧ x.val < y.val)) := ⟨_, rfl⟩
  have hS : SWO lt2 := by rw [hl2]; exact ltB_swo rs
  have e0 : insertionSort lt (iotaA m) 0 (m + 1) = insertionSort lt2 (iotaA m) 0 (m + 1) := by
    unfold insertionSort
    refine outer_eq lt lt2 (fun x y h => ?_) m 1 (iotaA m) (by omega) iotaA_size (fun p _ hp => iotaA_at p hp) (fun p hp => by rw [iotaA_at p (by omega)]; exact hp)
    rw [hlt, hl2]
    exact decide_eq_decide.mpr (by omega)
  obtain ⟨hP, hSo⟩ := insertionSort_holds hS (iotaA m) 0 (m + 1) (Nat.zero_le _) (by rw [iotaA_size]; exact Nat.le_refl _)
  obtain ⟨hs, _, hperm⟩ := hP
  unfold ordOf
  rw [e0]
  generalize insertionSort lt2 (iotaA m) 0 (m + 1) = D at hs hperm hSo
  rw [iotaA_size] at hs
  have x1 : D.extract 0 (m + 1) = D := extract_all D (m + 1) hs
  have x2 : (iotaA m).extract 0 (m + 1) = iotaA m := extract_all _ (m + 1) iotaA_size
  rw [x1, x2] at hperm
  have hpm := hperm.map (fun x : Fin (m + 1) => x.val)
  have hnd : (D.toList.map (fun x : Fin (m + 1) => x.val)).Nodup := hpm.nodup_iff.mpr iotaA_nodup
  refine ⟨by simp [hs], hnd, fun i hi => ?_, fun j hj => ?_, ?_⟩
  · obtain ⟨x, _, rfl⟩ := List.mem_map.mp hi
    exact x.isLt
  · refine hpm.mem_iff.mpr (List.mem_map.mpr ⟨⟨j, hj⟩, ?_, rfl⟩)
    rw [iotaA, Array.toList_ofFn, List.mem_ofFn]
    exact ⟨⟨j, hj⟩, rfl⟩
  · rw [List.pairwise_iff_getElem]
    intro i j hi hj hij
    have hi' : i < D.size := by simpa using hi
    have hj' : j < D.size := by simpa using hj
    have h1 := hSo i j (Nat.zero_le _) hij (by omega)
    have ne := (List.pairwise_iff_getElem.mp (List.nodup_iff_pairwise_ne.mp hnd)) i j hi hj hij
    rw [getElem!_pos D i hi', getElem!_pos D j hj'] at h1
    simp only [List.getElem_map, Array.getElem_toList] at ne ⊢
    rw [hl2] at h1
    have h1 := of_decide_eq_false h1
    unfold Bef
    omega
end order
/-- What a total comes to, shared by weights. -/
def shareA (t : Int) (ws : List Int) : List Int := giveS (t - sumI (quoL t (sumI ws) ws)).toNat (quoL t (sumI ws) ws) (remL t (sumI ws) ws)
theorem quoL_length (t al : Int) (ws : List Int) : (quoL t al ws).length = ws.length := by simp [quoL]
theorem remL_length (t al : Int) (ws : List Int) : (remL t al ws).length = ws.length := by simp [remL]
theorem shareA_length (t : Int) (ws : List Int) : (shareA t ws).length = ws.length := by rw [shareA, giveS_length, quoL_length]
/-- Nothing is lost: the parts and the remainders. -/
theorem quo_rem (t al : Int) : ∀ ws : List Int, al * sumI (quoL t al ws) + sumI (remL t al ws) = t * sumI ws
  | [] => by simp [quoL, remL, sumI]
  | w :: ws => by
    have ih := quo_rem t al ws
    have h := Int.mul_tdiv_add_tmod (t * w) al
    simp only [quoL, remL, List.map_cons, sumI] at ih ⊢
    rw [Int.mul_add, Int.mul_add]
    omega
theorem rem_bd {t al : Int} (hal : 0 < al) (ht : 0 ≤ t) {ws : List Int} (hw : ∀ w ∈ ws, 0 ≤ w) : (∀ r ∈ remL t al ws, 0 ≤ r ∧ r < al) := by
  intro r hr
  obtain ⟨w, hm, rfl⟩ := List.mem_map.mp hr
  have h0 : 0 ≤ t * w := Int.mul_nonneg ht (hw w hm)
  exact ⟨Int.tmod_nonneg _ h0, by have := Int.tmod_lt_of_pos (t * w) hal; exact this⟩
theorem sum_lt {al : Int} (hal : 0 < al) : ∀ (rs : List Int), (∀ r ∈ rs, 0 ≤ r ∧ r < al) → 0 ≤ sumI rs ∧ sumI rs ≤ al * rs.length
  | [], _ => by simp [sumI]
  | r :: t, h => by
    have ih := sum_lt hal t (fun x hx => h x (List.mem_cons_of_mem _ hx))
    have h1 := h r List.mem_cons_self
    simp only [sumI, List.length_cons]
    have e : al * ((t.length + 1 : Nat) : Int) = al * t.length + al := by rw [Int.natCast_add, Int.mul_add]; simp
    rw [e]; omega
/-- What is left behind the whole parts is not negative and at most one unit a part. -/
theorem left_bd {t : Int} (ht : 0 ≤ t) {ws : List Int} (hw : ∀ w ∈ ws, 0 ≤ w) (hs : 0 < sumI ws) : 0 ≤ t - sumI (quoL t (sumI ws) ws) ∧ t - sumI (quoL t (sumI ws) ws) ≤ ws.length := by
  have h1 := quo_rem t (sumI ws) ws
  have h2 := sum_lt hs (remL t (sumI ws) ws) (rem_bd hs ht hw)
  rw [remL_length] at h2
  generalize sumI ws = al at h1 h2 hs ⊢
  generalize sumI (quoL t al ws) = q at h1 ⊢
  generalize sumI (remL t al ws) = r at h1 h2
  have e : al * (t - q) = r := by rw [Int.mul_sub, Int.mul_comm al t]; omega
  constructor
  · by_cases c : 0 ≤ t - q
    · exact c
    · have : al * (t - q) < 0 := Int.mul_neg_of_pos_of_neg hs (by omega)
      omega
  · have : al * (t - q) ≤ al * ws.length := by omega
    exact Int.le_of_mul_le_mul_left this hs
theorem quo_bd {t al : Int} (hal : 0 < al) (ht : 0 ≤ t) {ws : List Int} (hw : ∀ w ∈ ws, 0 ≤ w) : ∀ q ∈ quoL t al ws, 0 ≤ q := by
  intro q hq
  obtain ⟨w, hm, rfl⟩ := List.mem_map.mp hq
  exact Int.tdiv_nonneg (Int.mul_nonneg ht (hw w hm)) (by omega)
theorem sumI_set : ∀ (xs : List Int) (i : Nat) (v : Int), i < xs.length → sumI (xs.set i v) = sumI xs - rdN xs i + v
  | [], i, v, h => by simp at h
  | a :: t, 0, v, _ => by simp [rdN, sumI]; omega
  | a :: t, i + 1, v, h => by
    have ih := sumI_set t i v (by simpa using h)
    have e : rdN (a :: t) (i + 1) = rdN t i := by simp [rdN]
    rw [List.set_cons_succ, sumI, sumI, ih, e]; omega
theorem sumI_mem : ∀ (xs : List Int), (∀ x ∈ xs, 0 ≤ x) → ∀ x ∈ xs, x ≤ sumI xs
  | [], _, x, hx => by simp at hx
  | a :: t, h, x, hx => by
    have h1 := h a List.mem_cons_self
    have h2 := sumI_nonneg t (fun y hy => h y (List.mem_cons_of_mem _ hy))
    rw [sumI]
    rcases List.mem_cons.mp hx with e | e
    · subst e; omega
    · have := sumI_mem t (fun y hy => h y (List.mem_cons_of_mem _ hy)) x e; omega
theorem rdN_mem {xs : List Int} {i : Nat} (h : i < xs.length) : rdN xs i ∈ xs := by
  rw [rdN, List.getD_eq_getElem?_getD, List.getElem?_eq_getElem h]
  exact List.getElem_mem h
theorem giveS_sum : ∀ (k : Nat) (out rs : List Int), out.length = rs.length → 0 < rs.length → (∀ x ∈ out, 0 ≤ x) → sumI out + k ≤ 9223372036854775807 → sumI (giveS k out rs) = sumI out + k ∧ ∀ x ∈ giveS k out rs, 0 ≤ x
  | 0, out, rs, _, _, h, _ => by simp [giveS]; exact h
  | k + 1, out, rs, hl, hp, h, hb => by
    have h1 := (best_ok rs hp).1
    have hm := rdN_mem (xs := out) (i := best rs) (by omega)
    have hx := sumI_mem out h _ hm
    have h0 := h _ hm
    have hw : wrap64 (rdN out (best rs) + 1) = rdN out (best rs) + 1 := wrapId (by omega)
    have hs : sumI (inc out (best rs)) = sumI out + 1 := by rw [inc, sumI_set _ _ _ (by omega), hw]; omega
    have hn : ∀ x ∈ inc out (best rs), 0 ≤ x := fun x hx => by
      rcases List.mem_or_eq_of_mem_set hx with q | q
      · exact h x q
      · rw [q, hw]; omega
    have ih := giveS_sum k (inc out (best rs)) (rs.set (best rs) (-1)) (by rw [inc_length, List.length_set]; exact hl) (by rw [List.length_set]; exact hp) hn (by omega)
    rw [giveS]
    exact ⟨by rw [ih.1, hs]; omega, ih.2⟩
/-- A share's parts are not negative and add up to the total. -/
theorem shareA_sum {t : Int} (ht : 0 ≤ t ∧ t ≤ 1000000000) {ws : List Int} (hw : ∀ w ∈ ws, 0 ≤ w) (hs : 0 < sumI ws) : sumI (shareA t ws) = t ∧ ∀ x ∈ shareA t ws, 0 ≤ x := by
  have h1 := left_bd ht.1 hw hs
  have hp : 0 < ws.length := by
    cases ws with
    | nil => simp [sumI] at hs
    | cons a b => simp
  have h2 := giveS_sum (t - sumI (quoL t (sumI ws) ws)).toNat (quoL t (sumI ws) ws) (remL t (sumI ws) ws) (by rw [quoL_length, remL_length]) (by rw [remL_length]; exact hp) (quo_bd hs ht.1 hw) (by omega)
  exact ⟨by rw [shareA, h2.1]; omega, h2.2⟩
/-- The program's way comes to the same. -/
theorem shareA_ord {m : Nat} {t : Int} (ht : 0 ≤ t) {ws : List Int} (hl : ws.length = m + 1) (hw : ∀ w ∈ ws, 0 ≤ w) (hs : 0 < sumI ws) (lt : Fin (m + 1) → Fin (m + 1) → Bool) (hlt : ∀ x y, lt x y = decide (rdN (remL t (sumI ws) ws) y.val < rdN (remL t (sumI ws) ws) x.val)) :
    giveI ((ordOf lt).take (t - sumI (quoL t (sumI ws) ws)).toNat) (quoL t (sumI ws) ws) = shareA t ws := by
  obtain ⟨o1, o2, o3, o4, o5⟩ := ord_ok (remL t (sumI ws) ws) lt hlt
  have h1 := left_bd ht hw hs
  refine (give_eq (ordOf lt) _ _ _ (by omega) o2 (fun i hi => ?_) (fun j hj hm => ?_) o5).symm
  · have q := o3 i hi
    rw [remL_length, hl]
    refine ⟨q, ?_⟩
    exact (rem_bd hs ht hw _ (rdN_mem (by rw [remL_length]; omega))).1
  · rw [remL_length, hl] at hj
    exact absurd (o4 j hj) hm

/-- The places of a rank, from place i on, and the dues there. -/
def ownL (r : Int) : List S49 → Nat → List Nat
  | [], _ => []
  | a :: t, i => if a.f0 = r then i :: ownL r t (i + 1) else ownL r t (i + 1)
def dueL (r : Int) : List S49 → List Int
  | [] => []
  | a :: t => if a.f0 = r then a.f1 :: dueL r t else dueL r t
theorem ownL_length (r : Int) : ∀ (xs : List S49) (i : Nat), (ownL r xs i).length = (dueL r xs).length
  | [], _ => rfl
  | a :: t, i => by
    have h := ownL_length r t (i + 1)
    simp only [ownL, dueL]
    split <;> simp [h]
theorem ownL_mem (r : Int) : ∀ (xs : List S49) (i : Nat), ∀ j ∈ ownL r xs i, i ≤ j ∧ j < i + xs.length ∧ ∃ a, xs[j - i]? = some a ∧ a.f0 = r
  | [], i, j, h => by simp [ownL] at h
  | a :: t, i, j, h => by
    have ih := ownL_mem r t (i + 1) j
    have go : j ∈ ownL r t (i + 1) → i ≤ j ∧ j < i + (a :: t).length ∧ ∃ b, (a :: t)[j - i]? = some b ∧ b.f0 = r := fun q => by
      obtain ⟨h1, h2, b, h3, h4⟩ := ih q
      have e : j - i = (j - (i + 1)) + 1 := by omega
      exact ⟨by omega, by simp; omega, b, by rw [e, List.getElem?_cons_succ]; exact h3, h4⟩
    simp only [ownL] at h
    by_cases c : a.f0 = r
    · rw [if_pos c] at h
      rcases List.mem_cons.mp h with q | q
      · subst q; exact ⟨by omega, by simp, a, by simp, c⟩
      · exact go q
    · rw [if_neg c] at h; exact go h
theorem ownL_snoc (r : Int) : ∀ (p : List S49) (a : S49) (i : Nat), ownL r (p ++ [a]) i = ownL r p i ++ (if a.f0 = r then [i + p.length] else [])
  | [], a, i => by simp [ownL]
  | b :: t, a, i => by
    have h := ownL_snoc r t a (i + 1)
    simp only [List.cons_append, ownL, h, List.length_cons]
    have e : i + 1 + t.length = i + (t.length + 1) := by omega
    rw [e]
    split <;> simp
theorem dueL_snoc (r : Int) : ∀ (p : List S49) (a : S49), dueL r (p ++ [a]) = dueL r p ++ (if a.f0 = r then [a.f1] else [])
  | [], a => by simp [dueL]
  | b :: t, a => by
    have h := dueL_snoc r t a
    simp only [List.cons_append, dueL, h]
    split <;> simp
theorem dueL_bd (r : Int) : ∀ (xs : List S49), (∀ a ∈ xs, okTr a) → ∀ d ∈ dueL r xs, 0 ≤ d ∧ d ≤ 1000000000
  | [], _, d, h => by simp [dueL] at h
  | a :: t, hx, d, h => by
    have ih := dueL_bd r t (fun b hb => hx b (List.mem_cons_of_mem _ hb)) d
    have ha := (hx a List.mem_cons_self).2
    simp only [dueL] at h
    by_cases c : a.f0 = r
    · rw [if_pos c] at h
      rcases List.mem_cons.mp h with q | q
      · subst q; exact ha
      · exact ih q
    · rw [if_neg c] at h; exact ih h
theorem dueL_len (r : Int) : ∀ (xs : List S49), (dueL r xs).length ≤ xs.length
  | [] => by simp [dueL]
  | a :: t => by
    have ih := dueL_len r t
    simp only [dueL]
    split <;> simp <;> omega
/-- A row's numbers laid at places. -/
def setAll : List Int → List Nat → List Int → List Int
  | out, i :: is, p :: ps => setAll (out.set i p) is ps
  | out, _, _ => out
theorem setAll_length : ∀ (is : List Nat) (ps out : List Int), (setAll out is ps).length = out.length
  | [], _, _ => by simp [setAll]
  | i :: is, [], _ => by simp [setAll]
  | i :: is, p :: ps, out => by simp only [setAll]; rw [setAll_length is ps, List.length_set]
theorem setAll_far : ∀ (is : List Nat) (ps out : List Int) (j : Nat), j ∉ is → rdN (setAll out is ps) j = rdN out j
  | [], _, _, _, _ => by simp [setAll]
  | i :: is, [], _, _, _ => by simp [setAll]
  | i :: is, p :: ps, out, j, h => by
    simp only [setAll]
    rw [setAll_far is ps _ j (fun q => h (List.mem_cons_of_mem _ q))]
    unfold rdN
    rw [List.getD_eq_getElem?_getD, List.getD_eq_getElem?_getD, List.getElem?_set_ne (fun q : i = j => h (by rw [← q]; exact List.mem_cons_self))]
theorem setAll_zero : ∀ (is : List Nat) (ps out : List Int), (∀ i ∈ is, i < out.length ∧ rdN out i = 0) → (∀ p ∈ ps, p = 0) → setAll out is ps = out
  | [], _, _, _, _ => by simp [setAll]
  | i :: is, [], _, _, _ => by simp [setAll]
  | i :: is, p :: ps, out, h, hp => by
    obtain ⟨h1, h2⟩ := h i List.mem_cons_self
    have e : out.set i p = out := by
      rw [hp p List.mem_cons_self]
      refine List.ext_getElem? (fun j => ?_)
      rw [List.getElem?_set]
      by_cases q : i = j
      · subst q
        rw [if_pos rfl, if_pos h1, List.getElem?_eq_getElem h1]
        rw [rdN, List.getD_eq_getElem?_getD, List.getElem?_eq_getElem h1] at h2
        exact congrArg some h2.symm
      · rw [if_neg q]
    simp only [setAll]
    rw [e]
    exact setAll_zero is ps out (fun i hi => h i (List.mem_cons_of_mem _ hi)) (fun p hp' => hp p (List.mem_cons_of_mem _ hp'))
/-- Parts cut to the dues; then filled up with what is left. -/
def cutL : List Int → List Int → List Int
  | o :: os, d :: ds => (if d < o then d else o) :: cutL os ds
  | _, _ => []
def fillL : Int → List Int → List Int → List Int
  | left, o :: os, d :: ds => (o + (if left < d - o then left else d - o)) :: fillL (left - (if left < d - o then left else d - o)) os ds
  | _, _, _ => []
def weightsL (ds : List Int) : List Int := if ds.any (fun d => decide (1000000 < d)) then ds.map (fun d => (d + 999).tdiv 1000) else ds
def divideA (ds : List Int) (t : Int) : List Int := fillL (t - sumI (cutL (shareA t (weightsL ds)) ds)) (cutL (shareA t (weightsL ds)) ds) ds
theorem cutL_length : ∀ (os ds : List Int), os.length = ds.length → (cutL os ds).length = ds.length
  | [], [], _ => rfl
  | [], d :: ds, h => by simp at h
  | o :: os, [], h => by simp at h
  | o :: os, d :: ds, h => by simp only [cutL, List.length_cons]; rw [cutL_length os ds (by simpa using h)]
theorem fillL_length : ∀ (os ds : List Int) (l : Int), os.length = ds.length → (fillL l os ds).length = ds.length
  | [], [], _, _ => rfl
  | [], d :: ds, _, h => by simp at h
  | o :: os, [], _, h => by simp at h
  | o :: os, d :: ds, l, h => by simp only [fillL, List.length_cons]; rw [fillL_length os ds _ (by simpa using h)]
/-- Each part lies between nothing and its due. -/
def Fits : List Int → List Int → Prop
  | o :: os, d :: ds => (0 ≤ o ∧ o ≤ d) ∧ Fits os ds
  | [], [] => True
  | _, _ => False
theorem cutL_fits : ∀ (os ds : List Int), os.length = ds.length → (∀ o ∈ os, 0 ≤ o) → (∀ d ∈ ds, 0 ≤ d) → Fits (cutL os ds) ds ∧ sumI (cutL os ds) ≤ sumI os
  | [], [], _, _, _ => ⟨True.intro, Int.le_refl _⟩
  | [], d :: ds, h, _, _ => by simp at h
  | o :: os, [], h, _, _ => by simp at h
  | o :: os, d :: ds, h, ho, hd => by
    have ih := cutL_fits os ds (by simpa using h) (fun x hx => ho x (List.mem_cons_of_mem _ hx)) (fun x hx => hd x (List.mem_cons_of_mem _ hx))
    have h1 := ho o List.mem_cons_self
    have h2 := hd d List.mem_cons_self
    simp only [cutL, Fits, sumI]
    refine ⟨⟨by split <;> omega, ih.1⟩, by have := ih.2; split <;> omega⟩
theorem fits_sum : ∀ (os ds : List Int), Fits os ds → 0 ≤ sumI os ∧ sumI os ≤ sumI ds ∧ os.length = ds.length
  | [], [], _ => by simp [sumI]
  | [], d :: ds, h => h.elim
  | o :: os, [], h => h.elim
  | o :: os, d :: ds, h => by
    have ih := fits_sum os ds h.2
    have h1 := h.1
    simp only [sumI, List.length_cons]
    omega
theorem fits_mem : ∀ (os ds : List Int), Fits os ds → ∀ o ∈ os, 0 ≤ o
  | [], [], _, o, ho => by simp at ho
  | [], d :: ds, h, _, _ => h.elim
  | o :: os, [], h, _, _ => h.elim
  | o :: os, d :: ds, h, x, hx => by
    rcases List.mem_cons.mp hx with q | q
    · rw [q]; exact h.1.1
    · exact fits_mem os ds h.2 x q
theorem fillL_fits : ∀ (os ds : List Int) (l : Int), Fits os ds → 0 ≤ l → l ≤ sumI ds - sumI os → Fits (fillL l os ds) ds ∧ sumI (fillL l os ds) = sumI os + l
  | [], [], l, _, h0, h1 => by simp [sumI] at h1; simp [fillL, Fits, sumI]; omega
  | [], d :: ds, _, h, _, _ => h.elim
  | o :: os, [], _, h, _, _ => h.elim
  | o :: os, d :: ds, l, h, h0, h1 => by
    have hs := fits_sum os ds h.2
    have ho := h.1
    simp only [sumI] at h1
    simp only [fillL, Fits, sumI]
    by_cases c : l < d - o
    · rw [if_pos c]
      have ih := fillL_fits os ds (l - l) h.2 (by omega) (by omega)
      exact ⟨⟨by omega, ih.1⟩, by rw [ih.2]; omega⟩
    · rw [if_neg c]
      have ih := fillL_fits os ds (l - (d - o)) h.2 (by omega) (by omega)
      exact ⟨⟨by omega, ih.1⟩, by rw [ih.2]; omega⟩
theorem weightsL_length (ds : List Int) : (weightsL ds).length = ds.length := by unfold weightsL; split <;> simp
theorem up_pos {d : Int} (h : 0 < d) : 0 < (d + 999).tdiv 1000 := by
  rw [Int.tdiv_eq_ediv_of_nonneg (by omega)]; omega
theorem up_nonneg {d : Int} (h : 0 ≤ d) : 0 ≤ (d + 999).tdiv 1000 := Int.tdiv_nonneg (by omega) (by omega)
theorem up_le {d : Int} (h : 0 ≤ d ∧ d ≤ 1000000000) : (d + 999).tdiv 1000 ≤ 1000000 := by
  rw [Int.tdiv_eq_ediv_of_nonneg (by omega)]; omega
theorem sumI_pos : ∀ (ds : List Int), (∀ d ∈ ds, 0 ≤ d) → (0 < sumI ds ↔ ∃ d ∈ ds, 0 < d)
  | [], _ => by simp [sumI]
  | a :: t, h => by
    have ih := sumI_pos t (fun x hx => h x (List.mem_cons_of_mem _ hx))
    have h1 := h a List.mem_cons_self
    have h2 := sumI_nonneg t (fun x hx => h x (List.mem_cons_of_mem _ hx))
    simp only [sumI]
    constructor
    · intro q
      by_cases c : 0 < a
      · exact ⟨a, List.mem_cons_self, c⟩
      · obtain ⟨d, m, z⟩ := ih.mp (by omega)
        exact ⟨d, List.mem_cons_of_mem _ m, z⟩
    · rintro ⟨d, m, z⟩
      rcases List.mem_cons.mp m with q | q
      · subst q; omega
      · have := ih.mpr ⟨d, q, z⟩; omega
/-- The weights: each between 0 and 1000000, their sum above 0. -/
theorem weightsL_ok {ds : List Int} (h : ∀ d ∈ ds, 0 ≤ d ∧ d ≤ 1000000000) (hs : 0 < sumI ds) : (∀ w ∈ weightsL ds, 0 ≤ w ∧ w ≤ 1000000) ∧ 0 < sumI (weightsL ds) := by
  have h0 : ∀ d ∈ ds, 0 ≤ d := fun d hd => (h d hd).1
  unfold weightsL
  split
  · rename_i c
    refine ⟨fun w hw => ?_, ?_⟩
    · obtain ⟨d, hd, rfl⟩ := List.mem_map.mp hw
      exact ⟨up_nonneg (h0 d hd), up_le (h d hd)⟩
    · refine (sumI_pos _ (fun w hw => ?_)).mpr ?_
      · obtain ⟨d, hd, rfl⟩ := List.mem_map.mp hw
        exact up_nonneg (h0 d hd)
      · obtain ⟨d, hd, z⟩ := (sumI_pos ds h0).mp hs
        exact ⟨_, List.mem_map.mpr ⟨d, hd, rfl⟩, up_pos z⟩
  · rename_i c
    refine ⟨fun w hw => ⟨h0 w hw, ?_⟩, hs⟩
    by_cases q : 1000000 < w
    · exact absurd (List.any_eq_true.mpr ⟨w, hw, decide_eq_true q⟩) c
    · omega
/-- A sum less than the dues, divided: each part between nothing and its due, all of it given. -/
theorem divideA_ok {ds : List Int} (h : ∀ d ∈ ds, 0 ≤ d ∧ d ≤ 1000000000) {t : Int} (ht : 0 ≤ t ∧ t ≤ 1000000000) (hs : t < sumI ds) : Fits (divideA ds t) ds ∧ sumI (divideA ds t) = t := by
  have hw := weightsL_ok h (by omega)
  have hsh := shareA_sum ht (fun w hw' => (hw.1 w hw').1) hw.2
  have hc := cutL_fits (shareA t (weightsL ds)) ds (by rw [shareA_length, weightsL_length]) hsh.2 (fun d hd => (h d hd).1)
  have hf := fillL_fits _ ds (t - sumI (cutL (shareA t (weightsL ds)) ds)) hc.1 (by have := hc.2; rw [hsh.1] at this; omega) (by have := hc.2; omega)
  exact ⟨hf.1, by rw [divideA, hf.2]; omega⟩
theorem fits_self : ∀ (ds : List Int), (∀ d ∈ ds, 0 ≤ d) → Fits ds ds
  | [], _ => True.intro
  | d :: ds, h => ⟨⟨h d List.mem_cons_self, Int.le_refl _⟩, fits_self ds (fun x hx => h x (List.mem_cons_of_mem _ hx))⟩
/-- What a rank's tranches get of a sum. -/
def partsA (ds : List Int) (c : Int) : List Int := if c < sumI ds then divideA ds c else ds
theorem partsA_ok {ds : List Int} (h : ∀ d ∈ ds, 0 ≤ d ∧ d ≤ 1000000000) {c : Int} (hc : 0 ≤ c ∧ c ≤ 1000000000) : Fits (partsA ds c) ds ∧ sumI (partsA ds c) = (if c < sumI ds then c else sumI ds) := by
  unfold partsA
  split
  · rename_i q; exact divideA_ok h hc q
  · exact ⟨fits_self ds (fun d hd => (h d hd).1), rfl⟩
/-- One rank, as the reference serves it. -/
def rankS (xs : List S49) (r : Int) (out : List Int) (c : Int) : List Int × Int :=
  if sumI (dueL r xs) = 0 then (out, c) else (setAll out (ownL r xs 0) (partsA (dueL r xs) c), c - (if c < sumI (dueL r xs) then c else sumI (dueL r xs)))
/-- One rank, as the program serves it. -/
def rankI (xs : List S49) (r : Int) (out : List Int) (c : Int) : List Int × Int :=
  if (ownL r xs 0).length = 0 ∨ c = 0 then (out, c) else (setAll out (ownL r xs 0) (partsA (dueL r xs) c), c - sumI (partsA (dueL r xs) c))
theorem allzero : ∀ (ds : List Int), (∀ d ∈ ds, 0 ≤ d) → sumI ds = 0 → ∀ d ∈ ds, d = 0
  | [], _, _, d, hd => by simp at hd
  | a :: t, h, hs, d, hd => by
    have h1 := h a List.mem_cons_self
    have h2 := sumI_nonneg t (fun x hx => h x (List.mem_cons_of_mem _ hx))
    simp only [sumI] at hs
    rcases List.mem_cons.mp hd with q | q
    · omega
    · exact allzero t (fun x hx => h x (List.mem_cons_of_mem _ hx)) (by omega) d q
theorem rank_eq {xs : List S49} (hx : ∀ a ∈ xs, okTr a) (r : Int) (out : List Int) (c : Int) (hc : 0 ≤ c ∧ c ≤ 1000000000) (hl : out.length = xs.length) (hz : ∀ i ∈ ownL r xs 0, rdN out i = 0) : rankI xs r out c = rankS xs r out c := by
  have hd := dueL_bd r xs hx
  have hp := partsA_ok hd hc
  have hin : ∀ i ∈ ownL r xs 0, i < out.length ∧ rdN out i = 0 := fun i hi => ⟨by have := (ownL_mem r xs 0 i hi).2.1; omega, hz i hi⟩
  have hn : 0 ≤ sumI (dueL r xs) := sumI_nonneg _ (fun d q => (hd d q).1)
  have hpn := fits_mem _ _ hp.1
  unfold rankI rankS
  by_cases c1 : (ownL r xs 0).length = 0 ∨ c = 0
  · rw [if_pos c1]
    by_cases c2 : sumI (dueL r xs) = 0
    · rw [if_pos c2]
    · rw [if_neg c2]
      rcases c1 with q | q
      · rw [ownL_length] at q
        rw [List.length_eq_zero_iff.mp q] at c2
        exact absurd rfl c2
      · subst q
        have hlt : (0 : Int) < sumI (dueL r xs) := by omega
        rw [if_pos hlt] at hp ⊢
        rw [setAll_zero _ _ _ hin (allzero _ hpn hp.2)]
        rfl
  · rw [if_neg c1]
    by_cases c2 : sumI (dueL r xs) = 0
    · rw [if_pos c2]
      have hlt : ¬ c < sumI (dueL r xs) := by omega
      rw [if_neg hlt, c2] at hp
      rw [setAll_zero _ _ _ hin (allzero _ hpn hp.2), hp.2]
      simp
    · rw [if_neg c2, hp.2]
theorem rankS_length (xs : List S49) (r : Int) (out : List Int) (c : Int) : (rankS xs r out c).1.length = out.length := by
  unfold rankS; split
  · rfl
  · exact setAll_length _ _ _
theorem rankS_bd {xs : List S49} (hx : ∀ a ∈ xs, okTr a) (r : Int) (out : List Int) (c : Int) (hc : 0 ≤ c ∧ c ≤ 1000000000) : 0 ≤ (rankS xs r out c).2 ∧ (rankS xs r out c).2 ≤ c := by
  have hn : 0 ≤ sumI (dueL r xs) := sumI_nonneg _ (fun d q => (dueL_bd r xs hx d q).1)
  unfold rankS; split
  · simp; omega
  · simp only; split <;> omega
/-- Ranks served in an order. -/
def serveS (xs : List S49) : List Int → List Int → Int → List Int × Int
  | [], out, c => (out, c)
  | r :: t, out, c => serveS xs t (rankS xs r out c).1 (rankS xs r out c).2
def serveI (xs : List S49) : List Int → List Int → Int → List Int × Int
  | [], out, c => (out, c)
  | r :: t, out, c => serveI xs t (rankI xs r out c).1 (rankI xs r out c).2
theorem serve_eq {xs : List S49} (hx : ∀ a ∈ xs, okTr a) : ∀ (rs : List Int) (out : List Int) (c : Int), rs.Nodup → (0 ≤ c ∧ c ≤ 1000000000) → out.length = xs.length → (∀ r ∈ rs, ∀ i ∈ ownL r xs 0, rdN out i = 0) → serveI xs rs out c = serveS xs rs out c
  | [], _, _, _, _, _, _ => rfl
  | r :: t, out, c, hd, hc, hl, hz => by
    have e := rank_eq hx r out c hc hl (hz r List.mem_cons_self)
    have hb := rankS_bd hx r out c hc
    obtain ⟨d1, d2⟩ := List.nodup_cons.mp hd
    rw [serveI, serveS, e]
    refine serve_eq hx t _ _ d2 ⟨hb.1, by omega⟩ (by rw [rankS_length]; exact hl) (fun r' hr' i hi => ?_)
    have q := hz r' (List.mem_cons_of_mem _ hr') i hi
    unfold rankS
    split
    · exact q
    · simp only
      rw [setAll_far _ _ _ _ (fun m => ?_)]
      · exact q
      · obtain ⟨_, _, a, h1, h2⟩ := ownL_mem r xs 0 i m
        obtain ⟨_, _, b, h3, h4⟩ := ownL_mem r' xs 0 i hi
        rw [h1] at h3
        injection h3 with h3
        subst h3
        exact d1 (by rw [← h2, h4]; exact hr')
def zerosN (n : Nat) : List Int := List.replicate n 0
theorem zerosN_rd (n i : Nat) : rdN (zerosN n) i = 0 := by
  rw [rdN, zerosN, List.getD_eq_getElem?_getD]
  by_cases h : i < n
  · rw [List.getElem?_eq_getElem (by simpa using h)]; simp
  · rw [List.getElem?_eq_none (by simpa using Nat.le_of_not_lt h)]; rfl
theorem serveI_eq {xs : List S49} (hx : ∀ a ∈ xs, okTr a) (rs : List Int) (c : Int) (hd : rs.Nodup) (hc : 0 ≤ c ∧ c ≤ 1000000000) : serveI xs rs (zerosN xs.length) c = serveS xs rs (zerosN xs.length) c :=
  serve_eq hx rs _ c hd hc (by simp [zerosN]) (fun r _ i _ => zerosN_rd _ i)
theorem serveS_length (xs : List S49) : ∀ (rs : List Int) (out : List Int) (c : Int), (serveS xs rs out c).1.length = out.length
  | [], _, _ => rfl
  | r :: t, out, c => by rw [serveS, serveS_length xs t, rankS_length]
theorem serveS_bd {xs : List S49} (hx : ∀ a ∈ xs, okTr a) : ∀ (rs : List Int) (out : List Int) (c : Int), (0 ≤ c ∧ c ≤ 1000000000) → 0 ≤ (serveS xs rs out c).2 ∧ (serveS xs rs out c).2 ≤ c
  | [], _, c, h => by simp [serveS]; omega
  | r :: t, out, c, h => by
    have h1 := rankS_bd hx r out c h
    have h2 := serveS_bd hx t (rankS xs r out c).1 (rankS xs r out c).2 ⟨h1.1, by omega⟩
    rw [serveS]
    omega
def ranksD : List Int := [10, 9, 8, 7, 6, 5, 4, 3, 2, 1]
/-- Cash distributed, and a loss allocated. -/
def distA (rs : List Int) (xs : List S49) (c : Int) : List Int × Int × Bool := if goodT xs = true ∧ (0 ≤ c ∧ c ≤ 1000000000) then ((serveS xs rs (zerosN xs.length) c).1, (serveS xs rs (zerosN xs.length) c).2, true) else ([], 0, false)
theorem cutL_sum_nonneg : ∀ (os ds : List Int), (∀ o ∈ os, 0 ≤ o) → (∀ d ∈ ds, 0 ≤ d) → 0 ≤ sumI (cutL os ds)
  | [], _, _, _ => by simp [cutL, sumI]
  | o :: os, [], _, _ => by simp [cutL, sumI]
  | o :: os, d :: ds, ho, hd => by
    have ih := cutL_sum_nonneg os ds (fun x hx => ho x (List.mem_cons_of_mem _ hx)) (fun x hx => hd x (List.mem_cons_of_mem _ hx))
    have h1 := ho o List.mem_cons_self
    have h2 := hd d List.mem_cons_self
    simp only [cutL, sumI]
    split <;> omega
theorem split_at {xs : List Int} {k : Nat} (h : k < xs.length) : ∃ a t, xs.drop k = a :: t ∧ xs.drop (k + 1) = t ∧ xs.getD k 0 = a := by
  refine ⟨xs[k], xs.drop (k + 1), List.drop_eq_getElem_cons h, rfl, ?_⟩
  rw [List.getD_eq_getElem?_getD, List.getElem?_eq_getElem h]; rfl
theorem getD_mid (p : List Int) (a : Int) (t : List Int) : (p ++ a :: t).getD p.length 0 = a := by simp
theorem set_mid (p : List Int) (a v : Int) (t : List Int) : (p ++ a :: t).set p.length v = (p ++ [v]) ++ t := by simp
theorem weightsL_map (ds : List Int) (B : Bool) (hB : B = ds.any (fun d => decide (1000000 < d))) : weightsL ds = ds.map (fun d => if B = true then (d + 999).tdiv 1000 else d) := by
  unfold weightsL
  rw [← hB]
  cases B with
  | true => simp
  | false => simp
theorem cutL_same (os ds : List Int) : os.length = ds.length → (∀ d ∈ ds, 0 ≤ d) → (∀ o ∈ os, 0 ≤ o) → 0 ≤ sumI os - sumI (cutL os ds) := by
  intro h hd ho
  have := (cutL_fits os ds h ho hd).2
  omega

theorem specL2Sum_l0 (xs : List Int) (hn : xs.length ≤ 1048576) : ∀ (rest pre : List Int) (s i : Int), xs = pre ++ rest → i = pre.length → Ev (fun k => spec_l2Sum.l0 k xs s i) (sumWI s rest) := by
  intro rest
  induction rest with
  | nil =>
    intro pre s i h hi
    have hl := len_nil h
    refine evSucc ?_
    simp only [spec_l2Sum.l0]
    refine evNeg (by omega) ?_
    exact evSome rfl
  | cons a t ih =>
    intro pre s i h hi
    have hl := len_cons h
    refine evSucc ?_
    simp only [spec_l2Sum.l0, rd_at h hi]
    refine evPos (by omega) ?_
    refine evPos (by omega) ?_
    exact ih (pre ++ [a]) _ _ (snoc h) (by rw [wrapId (by omega), len_snoc]; omega)
theorem specL2Sum_ev (xs : List Int) (hn : xs.length ≤ 1048576) : Ev (fun k => spec_l2Sum.f k xs) (sumWI 0 xs) := by
  simp only [spec_l2Sum.f]
  exact specL2Sum_l0 xs hn xs [] 0 0 rfl rfl
theorem rd_nat (xs : List Int) (b : Nat) : rd xs (b : Int) = rdN xs b := by rw [rd, rdN, Int.toNat_natCast]
theorem sumI_le : ∀ (xs : List Int) (B : Int), (∀ x ∈ xs, x ≤ B) → sumI xs ≤ B * xs.length
  | [], B, _ => by simp [sumI]
  | a :: t, B, h => by
    have ih := sumI_le t B (fun x hx => h x (List.mem_cons_of_mem _ hx))
    have h1 := h a List.mem_cons_self
    have e : B * ((t.length + 1 : Nat) : Int) = B * t.length + B := by rw [Int.natCast_add, Int.mul_add]; simp
    simp only [sumI, List.length_cons]
    rw [e]; omega
theorem quoL_snoc (t al : Int) (p : List Int) (w : Int) : quoL t al (p ++ [w]) = quoL t al p ++ [(t * w).tdiv al] := by simp [quoL]
theorem remL_snoc (t al : Int) (p : List Int) (w : Int) : remL t al (p ++ [w]) = remL t al p ++ [(t * w).tmod al] := by simp [remL]
theorem sumI_snoc : ∀ (p : List Int) (w : Int), sumI (p ++ [w]) = sumI p + w
  | [], w => by simp [sumI]
  | a :: t, w => by rw [List.cons_append, sumI, sumI, sumI_snoc t w]; omega
theorem prod_bd {t w : Int} (ht : 0 ≤ t ∧ t ≤ 1000000000) (hw : 0 ≤ w ∧ w ≤ 1000000000) : 0 ≤ t * w ∧ t * w ≤ 1000000000000000000 := by
  refine ⟨Int.mul_nonneg ht.1 hw.1, ?_⟩
  have h := Int.mul_le_mul ht.2 hw.2 hw.1 (by omega : (0 : Int) ≤ 1000000000)
  omega
theorem quo_one {t w al : Int} (ht : 0 ≤ t ∧ t ≤ 1000000000) (hw : 0 ≤ w ∧ w ≤ 1000000000) (hal : 0 < al) : wrap64 (t * w) = t * w ∧ wrap64 ((t * w).tdiv al) = (t * w).tdiv al := by
  have h := prod_bd ht hw
  refine ⟨wrapId (by omega), wrapId ?_⟩
  have h1 := Int.tdiv_nonneg h.1 (Int.le_of_lt hal)
  have h2 := Int.tdiv_le_self al h.1
  omega
theorem specShare_l2 (out rs : List Int) (n : Int) (R : List Int) (hl : out.length = rs.length) (hrl : rs.length ≤ 1048576) : ∀ (rest pre : List Int) (i b : Nat), rs = pre ++ rest → i = pre.length → b < i →
    Ev (fun k => spec_l2Share.l1 k (inc out (bestL rs rest i b)) (rs.set (bestL rs rest i b) (-1)) (wrap64 (n - 1))) R → Ev (fun k => spec_l2Share.l2 k out rs n (b : Int) (i : Int)) R := by
  intro rest
  induction rest with
  | nil =>
    intro pre i b h hi hb next
    have hl2 : rs.length = i := by rw [h, hi]; simp
    refine evSucc ?_
    simp only [spec_l2Share.l2, rd_nat]
    refine evNeg (by omega) ?_
    refine evPos (by omega) ?_
    refine evPos (by omega) ?_
    refine evPos (by omega) ?_
    rw [bestL, inc] at next
    rw [Int.toNat_natCast]
    exact next
  | cons a t ih =>
    intro pre i b h hi hb next
    have hl2 : rs.length = i + (t.length + 1) := by rw [h, hi]; simp
    have ha : rdN rs i = a := by subst h hi; simp [rdN]
    refine evSucc ?_
    simp only [spec_l2Share.l2, rd_nat]
    refine evPos (by omega) ?_
    refine evPos (by omega) ?_
    refine evPos (by omega) ?_
    refine evPos (by omega) ?_
    have e : wrap64 ((i : Int) + 1) = ((i + 1 : Nat) : Int) := by rw [wrapId (by omega)]; omega
    rw [e, ha]
    rw [bestL] at next
    by_cases c : rdN rs b < a
    · rw [if_pos c] at next
      refine evPos (by omega) ?_
      exact ih (pre ++ [a]) (i + 1) i (snoc h) (by rw [hi]; simp) (by omega) next
    · rw [if_neg c] at next
      refine evNeg (by omega) ?_
      exact ih (pre ++ [a]) (i + 1) b (snoc h) (by rw [hi]; simp) (by omega) next
theorem specShare_l1 : ∀ (n : Nat) (out rs : List Int), out.length = rs.length → 0 < rs.length → rs.length ≤ 1048576 → n ≤ 1048576 → Ev (fun k => spec_l2Share.l1 k out rs (n : Int)) (giveS n out rs)
  | 0, out, rs, _, _, _, _ => by
    refine evSucc ?_
    simp only [spec_l2Share.l1]
    exact evNeg (by omega) (evSome rfl)
  | n + 1, out, rs, hl, hp, hr, hn => by
    refine evSucc ?_
    simp only [spec_l2Share.l1]
    refine evPos (by omega) ?_
    have ih := specShare_l1 n (inc out (best rs)) (rs.set (best rs) (-1)) (by rw [inc_length, List.length_set]; exact hl) (by rw [List.length_set]; exact hp) (by rw [List.length_set]; exact hr) (by omega)
    have e : wrap64 (((n + 1 : Nat) : Int) - 1) = (n : Int) := by rw [wrapId (by omega)]; omega
    cases rs with
    | nil => simp at hp
    | cons a t =>
      refine specShare_l2 out (a :: t) ((n + 1 : Nat) : Int) _ hl hr t [a] 1 0 rfl rfl (by omega) ?_
      rw [e]
      exact ih
theorem specShare_l0 {t al : Int} (ht : 0 ≤ t ∧ t ≤ 1000000000) (ws : List Int) (hw : ∀ w ∈ ws, 0 ≤ w ∧ w ≤ 1000000000) (hal : 0 < al) (hn : ws.length ≤ 1048576) (R : List Int) (next : Ev (fun k => spec_l2Share.l1 k (quoL t al ws) (remL t al ws) (wrap64 (t - sumI (quoL t al ws)))) R) :
    ∀ (rest pre : List Int) (i : Int), ws = pre ++ rest → i = pre.length → Ev (fun k => spec_l2Share.l0 k t ws al (quoL t al pre) (remL t al pre) (wrap64 (t - sumI (quoL t al pre))) i) R := by
  intro rest
  induction rest with
  | nil =>
    intro pre i h hi
    have hl := len_nil h
    have hx : ws = pre := by simpa using h
    refine evSucc ?_
    simp only [spec_l2Share.l0]
    refine evNeg (by omega) ?_
    rw [← hx]
    exact next
  | cons a tl ih =>
    intro pre i h hi
    have hl := len_cons h
    have hw1 := hw a (by rw [h]; simp)
    obtain ⟨e1, e2⟩ := quo_one ht hw1 hal
    have hq := quoL_length t al pre
    have hr := remL_length t al pre
    have hrd : rd (quoL t al pre ++ [(t * a).tdiv al]) i = (t * a).tdiv al := rd_at (pre := quoL t al pre) (t := []) rfl (by rw [hq]; exact hi)
    refine evSucc ?_
    simp only [spec_l2Share.l0, rd_at h hi, e1, e2, Option.bind_some, hrd]
    refine evPos (by omega) ?_
    refine evPos (by omega) ?_
    refine evNeg (by omega) ?_
    refine evPos (by omega) ?_
    refine evPos (by omega) ?_
    refine evPos (by rw [List.length_append, List.length_singleton]; omega) ?_
    have ih2 := ih (pre ++ [a]) (i + 1) (snoc h) (by rw [len_snoc]; omega)
    rw [quoL_snoc, remL_snoc, sumI_snoc] at ih2
    rw [wrap_sub_l, wrapId (x := i + 1) (by omega), show t - sumI (quoL t al pre) - (t * a).tdiv al = t - (sumI (quoL t al pre) + (t * a).tdiv al) from by omega]
    exact ih2
theorem specShare_ev {t : Int} (ht : 0 ≤ t ∧ t ≤ 1000000000) (ws : List Int) (hw : ∀ w ∈ ws, 0 ≤ w ∧ w ≤ 1000000000) (hs : 0 < sumI ws) (hn : ws.length ≤ 1048576) : Ev (fun k => spec_l2Share.f k t ws) (shareA t ws) := by
  have hw0 : ∀ w ∈ ws, 0 ≤ w := fun w q => (hw w q).1
  have hb := left_bd ht.1 hw0 hs
  have hle := sumI_le ws 1000000000 (fun w q => (hw w q).2)
  have hsw : sumWI 0 ws = sumI ws := by rw [sumWI_eq ws 0 hw0 (by omega) (by omega)]; omega
  have hp : 0 < ws.length := by
    cases ws with
    | nil => simp [sumI] at hs
    | cons a b => simp
  simp only [spec_l2Share.f]
  refine evBind (specL2Sum_ev ws hn) ?_
  rw [hsw]
  have h1 := specShare_l1 (t - sumI (quoL t (sumI ws) ws)).toNat (quoL t (sumI ws) ws) (remL t (sumI ws) ws) (by rw [quoL_length, remL_length]) (by rw [remL_length]; exact hp) (by rw [remL_length]; exact hn) (by omega)
  have h0 := specShare_l0 ht ws hw hs hn (shareA t ws) (by
    rw [wrapId (x := t - sumI (quoL t (sumI ws) ws)) (by omega)]
    rw [Int.toNat_of_nonneg hb.1] at h1
    exact h1) ws [] 0 rfl rfl
  have e : wrap64 (t - sumI (quoL t (sumI ws) [])) = t := by
    rw [show sumI (quoL t (sumI ws) []) = 0 from rfl]
    exact (congrArg wrap64 (by omega)).trans (wrapId (by omega))
  rw [e] at h0
  exact h0

theorem ranksL_drop : ∀ k, k < 10 → ranksL.drop k = ((k : Int) + 1) :: ranksL.drop (k + 1) := by
  intro k hk
  have : k = 0 ∨ k = 1 ∨ k = 2 ∨ k = 3 ∨ k = 4 ∨ k = 5 ∨ k = 6 ∨ k = 7 ∨ k = 8 ∨ k = 9 := by omega
  rcases this with rfl | rfl | rfl | rfl | rfl | rfl | rfl | rfl | rfl | rfl <;> decide
theorem ranksD_drop : ∀ k, k < 10 → ranksD.drop k = (10 - (k : Int)) :: ranksD.drop (k + 1) := by
  intro k hk
  have : k = 0 ∨ k = 1 ∨ k = 2 ∨ k = 3 ∨ k = 4 ∨ k = 5 ∨ k = 6 ∨ k = 7 ∨ k = 8 ∨ k = 9 := by omega
  rcases this with rfl | rfl | rfl | rfl | rfl | rfl | rfl | rfl | rfl | rfl <;> decide
theorem good_parts {xs : List S49} (g : goodT xs = true) : (∀ a ∈ xs, okTr a) ∧ xs.length ≤ 20 := by
  have h := of_decide_eq_true g
  exact ⟨h.1, h.2.1⟩
theorem distA_yes {rs : List Int} {xs : List S49} {c : Int} (g : goodT xs = true) (h : 0 ≤ c ∧ c ≤ 1000000000) : distA rs xs c = ((serveS xs rs (zerosN xs.length) c).1, (serveS xs rs (zerosN xs.length) c).2, true) := if_pos ⟨g, h⟩
theorem distA_no {rs : List Int} {xs : List S49} {c : Int} (h : ¬ (goodT xs = true ∧ (0 ≤ c ∧ c ≤ 1000000000))) : distA rs xs c = ([], 0, false) := if_neg h
theorem distA_len (rs : List Int) (xs : List S49) (c : Int) (hn : xs.length ≤ 1048576) : (distA rs xs c).1.length ≤ 1048576 := by
  unfold distA
  split
  · simp only; rw [serveS_length]; simp [zerosN]; exact hn
  · simp

def recOne (p d : Int) : Int := if d = 0 then 1000 else (p * 1000).tdiv d
def recL : List Int → List S49 → List Int
  | p :: ps, a :: t => recOne p a.f1 :: recL ps t
  | _, _ => []
def recA (xs : List S49) (c : Int) : List Int × Bool := if (distA ranksL xs c).2.2 = true then (recL (distA ranksL xs c).1 xs, true) else ([], false)
theorem recL_len : ∀ (ps : List Int) (xs : List S49), (recL ps xs).length ≤ xs.length
  | [], _ => by simp [recL]
  | p :: ps, [] => by simp [recL]
  | p :: ps, a :: t => by have := recL_len ps t; simp [recL]; exact this
theorem recA_len (xs : List S49) (c : Int) (hn : xs.length ≤ 1048576) : (recA xs c).1.length ≤ 1048576 := by
  unfold recA
  split
  · have := recL_len (distA ranksL xs c).1 xs; simp only; omega
  · simp
theorem setAll_all {P : Int → Prop} : ∀ (is : List Nat) (ps out : List Int), (∀ x ∈ out, P x) → (∀ p ∈ ps, P p) → ∀ x ∈ setAll out is ps, P x
  | [], _, _, h, _ => by simpa [setAll] using h
  | i :: is, [], _, h, _ => by simpa [setAll] using h
  | i :: is, p :: ps, out, h, hp => by
    simp only [setAll]
    refine setAll_all is ps _ (fun x hx => ?_) (fun q hq => hp q (List.mem_cons_of_mem _ hq))
    rcases List.mem_or_eq_of_mem_set hx with q | q
    · exact h x q
    · rw [q]; exact hp p List.mem_cons_self
theorem rankS_all {xs : List S49} (hx : ∀ a ∈ xs, okTr a) (r : Int) (out : List Int) (c : Int) (hc : 0 ≤ c ∧ c ≤ 1000000000) (h : ∀ x ∈ out, 0 ≤ x ∧ x ≤ 1000000000) : ∀ x ∈ (rankS xs r out c).1, 0 ≤ x ∧ x ≤ 1000000000 := by
  unfold rankS
  split
  · exact h
  · refine setAll_all _ _ _ h (fun p hp => ?_)
    have hk := partsA_ok (dueL_bd r xs hx) hc
    have h1 := fits_mem _ _ hk.1 p hp
    have h2 := sumI_mem _ (fits_mem _ _ hk.1) p hp
    rw [hk.2] at h2
    refine ⟨h1, ?_⟩
    split at h2 <;> omega
theorem serveS_all {xs : List S49} (hx : ∀ a ∈ xs, okTr a) : ∀ (rs : List Int) (out : List Int) (c : Int), (0 ≤ c ∧ c ≤ 1000000000) → (∀ x ∈ out, 0 ≤ x ∧ x ≤ 1000000000) → ∀ x ∈ (serveS xs rs out c).1, 0 ≤ x ∧ x ≤ 1000000000
  | [], _, _, _, h => h
  | r :: t, out, c, hc, h => by
    have hb := rankS_bd hx r out c hc
    exact serveS_all hx t _ _ ⟨hb.1, by omega⟩ (rankS_all hx r out c hc h)
theorem distA_ok {rs : List Int} {xs : List S49} {c : Int} (h : (distA rs xs c).2.2 = true) : (∀ x ∈ (distA rs xs c).1, 0 ≤ x ∧ x ≤ 1000000000) ∧ (distA rs xs c).1.length = xs.length ∧ goodT xs = true ∧ (0 ≤ c ∧ c ≤ 1000000000) := by
  unfold distA at h ⊢
  split at h
  · rename_i g
    rw [if_pos g]
    exact ⟨serveS_all (good_parts g.1).1 rs _ _ g.2 (fun x hx => by rw [List.eq_of_mem_replicate hx]; omega), by simp only; rw [serveS_length]; simp [zerosN], g⟩
  · simp at h
theorem rec_bd {p d : Int} (hp : 0 ≤ p ∧ p ≤ 1000000000) (hd : 0 < d) : 0 ≤ (p * 1000).tdiv d ∧ (p * 1000).tdiv d ≤ 1000000000000 := by
  have h0 : 0 ≤ p * 1000 := by omega
  exact ⟨Int.tdiv_nonneg h0 (by omega), by have := Int.tdiv_le_self d h0; omega⟩

theorem rdN_at {xs : List Int} {i : Nat} (h : i < xs.length) : rdN xs i = xs[i] := by rw [rdN, List.getD_eq_getElem?_getD, List.getElem?_eq_getElem h]; rfl
theorem ownL_nodup (r : Int) : ∀ (xs : List S49) (i : Nat), (ownL r xs i).Nodup
  | [], _ => by simp [ownL]
  | a :: t, i => by
    simp only [ownL]
    split
    · refine List.nodup_cons.mpr ⟨fun h => ?_, ownL_nodup r t (i + 1)⟩
      have := (ownL_mem r t (i + 1) i h).1
      omega
    · exact ownL_nodup r t (i + 1)
/-- A tranche of a rank: its place among those of the rank. -/
theorem own_idx (r : Int) : ∀ (xs : List S49) (i0 k : Nat) (a : S49), xs[k]? = some a → a.f0 = r → ∃ j : Nat, (ownL r xs i0)[j]? = some (i0 + k) ∧ (dueL r xs)[j]? = some a.f1
  | [], _, k, a, h, _ => by simp at h
  | b :: t, i0, 0, a, h, hr => by
    have e : b = a := by simpa using h
    subst e
    exact ⟨0, by simp [ownL, hr], by simp [dueL, hr]⟩
  | b :: t, i0, k + 1, a, h, hr => by
    obtain ⟨j, h1, h2⟩ := own_idx r t (i0 + 1) k a (by simpa using h) hr
    have e : i0 + 1 + k = i0 + (k + 1) := by omega
    by_cases c : b.f0 = r
    · exact ⟨j + 1, by simp only [ownL, if_pos c, List.getElem?_cons_succ]; rw [h1, e], by simp only [dueL, if_pos c, List.getElem?_cons_succ]; exact h2⟩
    · exact ⟨j, by simp only [ownL, if_neg c]; rw [h1, e], by simp only [dueL, if_neg c]; exact h2⟩
theorem setAll_at : ∀ (is : List Nat) (ps out : List Int) (j i : Nat), is.Nodup → is[j]? = some i → j < ps.length → i < out.length → rdN (setAll out is ps) i = rdN ps j
  | [], _, _, j, _, _, h, _, _ => by simp at h
  | a :: is, [], _, j, _, _, _, h, _ => by simp at h
  | a :: is, p :: ps, out, 0, i, hd, h, _, hi => by
    have e : a = i := by simpa using h
    subst e
    simp only [setAll]
    rw [setAll_far is ps _ a (List.nodup_cons.mp hd).1, rdN_set _ _ _ _ hi, if_pos rfl]
    rfl
  | a :: is, p :: ps, out, j + 1, i, hd, h, hp, hi => by
    simp only [setAll]
    rw [setAll_at is ps _ j i (List.nodup_cons.mp hd).2 (by simpa using h) (by simpa using hp) (by rw [List.length_set]; exact hi)]
    rfl
theorem setAll_sum : ∀ (is : List Nat) (ps out : List Int), is.Nodup → is.length = ps.length → (∀ i ∈ is, i < out.length ∧ rdN out i = 0) → sumI (setAll out is ps) = sumI out + sumI ps
  | [], [], _, _, _, _ => by simp [setAll, sumI]
  | [], p :: ps, _, _, h, _ => by simp at h
  | a :: is, [], _, _, h, _ => by simp at h
  | a :: is, p :: ps, out, hd, hl, hz => by
    obtain ⟨h1, h2⟩ := hz a List.mem_cons_self
    obtain ⟨n1, n2⟩ := List.nodup_cons.mp hd
    simp only [setAll, sumI]
    rw [setAll_sum is ps _ n2 (by simpa using hl) (fun i hi => ?_), sumI_set _ _ _ h1, h2]
    · omega
    · obtain ⟨q1, q2⟩ := hz i (List.mem_cons_of_mem _ hi)
      refine ⟨by rw [List.length_set]; exact q1, ?_⟩
      rw [rdN_set _ _ _ _ h1, if_neg (fun e : i = a => n1 (by rw [← e]; exact hi))]
      exact q2
theorem fits_at : ∀ (ps ds : List Int), Fits ps ds → ∀ (j : Nat) (d : Int), ds[j]? = some d → 0 ≤ rdN ps j ∧ rdN ps j ≤ d ∧ j < ps.length
  | [], [], _, j, d, h => by simp at h
  | [], d :: ds, h, _, _, _ => h.elim
  | p :: ps, [], h, _, _, _ => h.elim
  | p :: ps, d :: ds, h, 0, e, he => by
    have q : d = e := by simpa using he
    subst q
    exact ⟨h.1.1, h.1.2, by simp⟩
  | p :: ps, d :: ds, h, j + 1, e, he => by
    have ih := fits_at ps ds h.2 j e (by simpa using he)
    exact ⟨ih.1, ih.2.1, by simpa using ih.2.2⟩
/-- What serving one rank does to each tranche. -/
theorem rank_step {xs : List S49} (hx : ∀ a ∈ xs, okTr a) (r : Int) (out : List Int) (c : Int) (hc : 0 ≤ c ∧ c ≤ 1000000000) (hl : out.length = xs.length) (hz : ∀ (i : Nat) (a : S49), xs[i]? = some a → a.f0 = r → rdN out i = 0) :
    (∀ (i : Nat) (a : S49), xs[i]? = some a → (a.f0 ≠ r → rdN (rankS xs r out c).1 i = rdN out i) ∧ (a.f0 = r → (0 ≤ rdN (rankS xs r out c).1 i ∧ rdN (rankS xs r out c).1 i ≤ a.f1) ∧ (0 < (rankS xs r out c).2 → rdN (rankS xs r out c).1 i = a.f1) ∧ (0 < rdN (rankS xs r out c).1 i → 0 < c))) ∧ sumI (rankS xs r out c).1 + (rankS xs r out c).2 = sumI out + c := by
  have hd := dueL_bd r xs hx
  have hn := sumI_nonneg (dueL r xs) (fun d q => (hd d q).1)
  have hp := partsA_ok hd hc
  unfold rankS
  by_cases h0 : sumI (dueL r xs) = 0
  · rw [if_pos h0]
    refine ⟨fun i a ha => ⟨fun _ => rfl, fun hr => ?_⟩, rfl⟩
    obtain ⟨j, _, h2⟩ := own_idx r xs 0 i a ha hr
    have h3 := allzero _ (fun d q => (hd d q).1) h0 a.f1 (List.mem_of_getElem? h2)
    have h4 := hz i a ha hr
    simp only
    rw [h4, h3]
    omega
  · rw [if_neg h0]
    have hnd := ownL_nodup r xs 0
    have hin : ∀ i ∈ ownL r xs 0, i < out.length ∧ rdN out i = 0 := fun i hi => by
      obtain ⟨_, h2, a, h3, h4⟩ := ownL_mem r xs 0 i hi
      exact ⟨by omega, hz i a (by simpa using h3) h4⟩
    refine ⟨fun i a ha => ⟨fun hr => ?_, fun hr => ?_⟩, ?_⟩
    · simp only
      refine setAll_far _ _ _ _ (fun m => ?_)
      obtain ⟨_, _, b, h3, h4⟩ := ownL_mem r xs 0 i m
      rw [Nat.sub_zero, ha] at h3
      injection h3 with h3
      exact hr (h3 ▸ h4)
    · obtain ⟨j, h1, h2⟩ := own_idx r xs 0 i a ha hr
      rw [Nat.zero_add] at h1
      obtain ⟨f1, f2, f3⟩ := fits_at _ _ hp.1 j a.f1 h2
      have hi : i < out.length := by have := (hin i (List.mem_of_getElem? h1)).1; exact this
      simp only
      rw [setAll_at _ _ _ j i hnd h1 f3 hi]
      refine ⟨⟨f1, f2⟩, fun hc' => ?_, fun hpos => ?_⟩
      · by_cases q : c < sumI (dueL r xs)
        · rw [if_pos q] at hc'; omega
        · unfold partsA
          rw [if_neg q, rdN, List.getD_eq_getElem?_getD, h2]; rfl
      · have h5 := sumI_mem _ (fits_mem _ _ hp.1) _ (rdN_mem f3)
        rw [hp.2] at h5
        split at h5 <;> omega
    · simp only
      rw [setAll_sum _ _ _ hnd (by rw [ownL_length]; exact (fits_sum _ _ hp.1).2.2.symm) hin, hp.2]
      omega
/-- What holds while ranks are served: rem: those still to come. -/
structure Srv (bef : Int → Int → Prop) (xs : List S49) (c0 : Int) (rem : List Int) (out : List Int) (c : Int) : Prop where
  len : out.length = xs.length
  bd : 0 ≤ c ∧ c ≤ 1000000000
  sum : sumI out + c = c0
  fit : ∀ (i : Nat) (a : S49), xs[i]? = some a → 0 ≤ rdN out i ∧ rdN out i ≤ a.f1
  zero : ∀ (i : Nat) (a : S49), xs[i]? = some a → a.f0 ∈ rem → rdN out i = 0
  full : 0 < c → ∀ (i : Nat) (a : S49), xs[i]? = some a → a.f0 ∉ rem → rdN out i = a.f1
  ord : ∀ (i : Nat) (a : S49) (k : Nat) (b : S49), xs[i]? = some a → xs[k]? = some b → b.f0 ∉ rem → bef b.f0 a.f0 → 0 < rdN out i → rdN out k = b.f1
  gone : ∀ (i : Nat) (a : S49), xs[i]? = some a → a.f0 ∉ rem → ∀ r ∈ rem, bef a.f0 r
theorem Srv.step {bef : Int → Int → Prop} (has : ∀ x y, bef x y → ¬ bef y x) {xs : List S49} (hx : ∀ a ∈ xs, okTr a) {c0 r : Int} {t out : List Int} {c : Int} (hr : r ∉ t) (hb : ∀ y ∈ t, bef r y) (h : Srv bef xs c0 (r :: t) out c) : Srv bef xs c0 t (rankS xs r out c).1 (rankS xs r out c).2 := by
  obtain ⟨hs, hsum⟩ := rank_step hx r out c h.bd h.len (fun i a ha e => h.zero i a ha (by rw [e]; exact List.mem_cons_self))
  have hbd := rankS_bd hx r out c h.bd
  generalize (rankS xs r out c).2 = c' at hs hsum hbd ⊢
  have hlen := rankS_length xs r out c
  generalize (rankS xs r out c).1 = out' at hs hsum hlen ⊢
  have nrem : ∀ x, x ∉ t → x ≠ r → x ∉ r :: t := fun x h1 h2 h3 => by rcases List.mem_cons.mp h3 with q | q; exact h2 q; exact h1 q
  refine ⟨hlen.trans h.len, ⟨hbd.1, by have := h.bd.2; omega⟩, by have := h.sum; omega, fun i a ha => ?_, fun i a ha hm => ?_, fun hc i a ha hm => ?_, fun i a k b ha hb' hm hbf hpos => ?_, fun i a ha hm y hy => ?_⟩
  · by_cases e : a.f0 = r
    · exact ((hs i a ha).2 e).1
    · rw [(hs i a ha).1 e]; exact h.fit i a ha
  · have e : a.f0 ≠ r := fun q => hr (q ▸ hm)
    rw [(hs i a ha).1 e]
    exact h.zero i a ha (List.mem_cons_of_mem _ hm)
  · by_cases e : a.f0 = r
    · exact ((hs i a ha).2 e).2.1 hc
    · rw [(hs i a ha).1 e]
      exact h.full (by omega) i a ha (nrem _ hm e)
  · by_cases e : a.f0 = r
    · have hc := ((hs i a ha).2 e).2.2 hpos
      have ek : b.f0 ≠ r := fun q => by rw [q, e] at hbf; exact has _ _ hbf hbf
      rw [(hs k b hb').1 ek]
      exact h.full hc k b hb' (nrem _ hm ek)
    · rw [(hs i a ha).1 e] at hpos
      by_cases ek : b.f0 = r
      · by_cases ei : a.f0 ∈ r :: t
        · have := h.zero i a ha ei; omega
        · have := h.gone i a ha ei r List.mem_cons_self
          rw [ek] at hbf
          exact absurd this (has _ _ hbf)
      · rw [(hs k b hb').1 ek]
        exact h.ord i a k b ha hb' (nrem _ hm ek) hbf hpos
  · by_cases e : a.f0 = r
    · rw [e]; exact hb y hy
    · exact h.gone i a ha (nrem _ hm e) y (List.mem_cons_of_mem _ hy)
theorem Srv.all {bef : Int → Int → Prop} (has : ∀ x y, bef x y → ¬ bef y x) {xs : List S49} (hx : ∀ a ∈ xs, okTr a) {c0 : Int} : ∀ (rs out : List Int) (c : Int), rs.Nodup → rs.Pairwise bef → Srv bef xs c0 rs out c → Srv bef xs c0 [] (serveS xs rs out c).1 (serveS xs rs out c).2
  | [], _, _, _, _, h => h
  | r :: t, out, c, hd, hp, h => by
    obtain ⟨n1, n2⟩ := List.nodup_cons.mp hd
    obtain ⟨p1, p2⟩ := List.pairwise_cons.mp hp
    exact Srv.all has hx t _ _ n2 p2 (h.step has hx n1 p1)
theorem Srv.start {bef : Int → Int → Prop} {xs : List S49} (hx : ∀ a ∈ xs, okTr a) (rs : List Int) (hrs : ∀ r, 1 ≤ r ∧ r ≤ 10 → r ∈ rs) {c : Int} (hc : 0 ≤ c ∧ c ≤ 1000000000) : Srv bef xs c rs (zerosN xs.length) c := by
  have hall : ∀ (i : Nat) (a : S49), xs[i]? = some a → a.f0 ∈ rs ∧ okTr a := fun i a ha => ⟨hrs _ (hx a (List.mem_of_getElem? ha)).1, hx a (List.mem_of_getElem? ha)⟩
  have hs : sumI (zerosN xs.length) = 0 := by
    unfold zerosN
    induction xs.length with
    | zero => rfl
    | succ n ih => rw [List.replicate_succ, sumI, ih]; rfl
  refine ⟨by simp [zerosN], hc, by omega, fun i a ha => ?_, fun i a ha _ => zerosN_rd _ i, fun _ i a ha hm => absurd (hall i a ha).1 hm, fun i a k b ha hb hm _ _ => absurd (hall k b hb).1 hm, fun i a ha hm => absurd (hall i a ha).1 hm⟩
  rw [zerosN_rd]
  have := (hall i a ha).2.2.1
  omega
theorem inL : ∀ r : Int, 1 ≤ r ∧ r ≤ 10 → r ∈ ranksL := by
  intro r h
  have : r = 1 ∨ r = 2 ∨ r = 3 ∨ r = 4 ∨ r = 5 ∨ r = 6 ∨ r = 7 ∨ r = 8 ∨ r = 9 ∨ r = 10 := by omega
  rcases this with rfl | rfl | rfl | rfl | rfl | rfl | rfl | rfl | rfl | rfl <;> decide
theorem inD : ∀ r : Int, 1 ≤ r ∧ r ≤ 10 → r ∈ ranksD := by
  intro r h
  have : r = 1 ∨ r = 2 ∨ r = 3 ∨ r = 4 ∨ r = 5 ∨ r = 6 ∨ r = 7 ∨ r = 8 ∨ r = 9 ∨ r = 10 := by omega
  rcases this with rfl | rfl | rfl | rfl | rfl | rfl | rfl | rfl | rfl | rfl <;> decide
theorem dist_facts {xs : List S49} {c : Int} (g : goodT xs = true) (hc : 0 ≤ c ∧ c ≤ 1000000000) : Srv (fun x y => x < y) xs c [] (distA ranksL xs c).1 (distA ranksL xs c).2.1 := by
  rw [distA_yes g hc]
  exact Srv.all (fun x y h1 h2 => by omega) (good_parts g).1 ranksL _ _ (by decide) (by decide) (Srv.start (good_parts g).1 ranksL inL hc)
theorem alloc_facts {xs : List S49} {c : Int} (g : goodT xs = true) (hc : 0 ≤ c ∧ c ≤ 1000000000) : Srv (fun x y => y < x) xs c [] (distA ranksD xs c).1 (distA ranksD xs c).2.1 := by
  rw [distA_yes g hc]
  exact Srv.all (fun x y h1 h2 => by omega) (good_parts g).1 ranksD _ _ (by decide) (by decide) (Srv.start (good_parts g).1 ranksD inD hc)
theorem rec_le {p d : Int} (hp : 0 ≤ p ∧ p ≤ d) : 0 ≤ recOne p d ∧ recOne p d ≤ 1000 := by
  unfold recOne
  split
  · omega
  · rename_i h
    have h0 : 0 ≤ p * 1000 := by omega
    refine ⟨Int.tdiv_nonneg h0 (by omega), ?_⟩
    rw [Int.tdiv_eq_ediv_of_nonneg h0]
    exact Int.ediv_le_of_le_mul (by omega) (by omega)
theorem recL_all : ∀ (ps : List Int) (xs : List S49), ps.length = xs.length → (∀ (i : Nat) (a : S49), xs[i]? = some a → 0 ≤ rdN ps i ∧ rdN ps i ≤ a.f1) → (∀ x ∈ recL ps xs, 0 ≤ x ∧ x ≤ 1000) ∧ (recL ps xs).length = xs.length
  | [], [], _, _ => by simp [recL]
  | [], a :: t, h, _ => by simp at h
  | p :: ps, [], h, _ => by simp at h
  | p :: ps, a :: t, h, hf => by
    have ih := recL_all ps t (by simpa using h) (fun i b hb => hf (i + 1) b (by simpa using hb))
    have h1 := rec_le (hf 0 a (by simp))
    simp only [recL, List.length_cons]
    exact ⟨fun x hx => by rcases List.mem_cons.mp hx with q | q; rw [q]; exact h1; exact ih.1 x q, by rw [ih.2]⟩

theorem rSum_l0 (xs : List Int) (hn : xs.length ≤ 1048576) : ∀ (rest pre : List Int) (s i : Int), xs = pre ++ rest → i = pre.length → Ev (fun k => laws_rSum.l0 k xs s i) (sumWI s rest) := by
  intro rest
  induction rest with
  | nil =>
    intro pre s i h hi
    have hl := len_nil h
    refine evSucc ?_
    simp only [laws_rSum.l0]
    refine evNeg (by omega) ?_
    exact evSome rfl
  | cons a t ih =>
    intro pre s i h hi
    have hl := len_cons h
    refine evSucc ?_
    simp only [laws_rSum.l0, rd_at h hi]
    refine evPos (by omega) ?_
    refine evPos (by omega) ?_
    exact ih (pre ++ [a]) _ _ (snoc h) (by rw [wrapId (by omega), len_snoc]; omega)
theorem rSum_ev (xs : List Int) (hn : xs.length ≤ 1048576) (h0 : ∀ x ∈ xs, 0 ≤ x) (h1 : sumI xs ≤ 9223372036854775807) : Ev (fun k => laws_rSum.f k xs) (sumI xs) := by
  simp only [laws_rSum.f]
  refine evEq (rSum_l0 xs hn xs [] 0 0 rfl rfl) ?_
  rw [sumWI_eq xs 0 h0 (by omega) (by omega)]; omega

/-- What is still due behind a payment. -/
def subT : List S49 → List Int → List S49
  | a :: t, p :: ps => ⟨a.f0, a.f1 - p⟩ :: subT t ps
  | _, _ => []
theorem subT_len : ∀ (xs : List S49) (ps : List Int), ps.length = xs.length → (subT xs ps).length = xs.length
  | [], [], _ => rfl
  | [], p :: ps, h => by simp at h
  | a :: t, [], h => by simp at h
  | a :: t, p :: ps, h => by simp only [subT, List.length_cons]; rw [subT_len t ps (by simpa using h)]
theorem subT_at : ∀ (xs : List S49) (ps : List Int), ps.length = xs.length → ∀ (i : Nat) (a : S49), xs[i]? = some a → (subT xs ps)[i]? = some ⟨a.f0, a.f1 - rdN ps i⟩
  | [], _, _, i, a, h => by simp at h
  | b :: t, [], hl, _, _, _ => by simp at hl
  | b :: t, p :: ps, hl, 0, a, h => by
    have e : b = a := by simpa using h
    subst e
    simp [subT, rdN]
  | b :: t, p :: ps, hl, i + 1, a, h => by
    have ih := subT_at t ps (by simpa using hl) i a (by simpa using h)
    simp only [subT, List.getElem?_cons_succ]
    rw [ih]
    rfl
theorem sub_good : ∀ (xs : List S49) (ps : List Int), ps.length = xs.length → (∀ (i : Nat) (a : S49), xs[i]? = some a → 0 ≤ rdN ps i ∧ rdN ps i ≤ a.f1) → (∀ a ∈ xs, okTr a) → (∀ a ∈ subT xs ps, okTr a) ∧ sumT (subT xs ps) ≤ sumT xs
  | [], [], _, _, _ => by simp [subT]
  | [], p :: ps, h, _, _ => by simp at h
  | a :: t, [], h, _, _ => by simp at h
  | a :: t, p :: ps, h, hf, ho => by
    have ih := sub_good t ps (by simpa using h) (fun i b hb => hf (i + 1) b (by simpa using hb)) (fun b hb => ho b (List.mem_cons_of_mem _ hb))
    have h0 := hf 0 a (by simp)
    have h1 := ho a List.mem_cons_self
    have e0 : rdN (p :: ps) 0 = p := rfl
    rw [e0] at h0
    simp only [subT, sumT]
    refine ⟨fun b hb => ?_, by omega⟩
    rcases List.mem_cons.mp hb with q | q
    · rw [q]
      exact ⟨h1.1, by show (0 : Int) ≤ a.f1 - p; omega, by have := h1.2.2; show a.f1 - p ≤ 1000000000; omega⟩
    · exact ih.1 b q
theorem goodT_sub {xs : List S49} {ps : List Int} (g : goodT xs = true) (hl : ps.length = xs.length) (hf : ∀ (i : Nat) (a : S49), xs[i]? = some a → 0 ≤ rdN ps i ∧ rdN ps i ≤ a.f1) : goodT (subT xs ps) = true := by
  have h := g
  unfold goodT at h
  have h := of_decide_eq_true h
  have q := sub_good xs ps hl hf h.1
  unfold goodT
  exact decide_eq_true ⟨q.1, by rw [subT_len xs ps hl]; exact h.2.1, by have := h.2.2; omega⟩
/-- Payments one after another: what each tranche gets each time, what is due in the end, what is left. -/
def runW : List S49 → Int → List Int → List (List Int) × List S49 × Int
  | xs, rest, [] => ([], xs, rest)
  | xs, rest, c :: t => ((distA ranksL xs (rest + c)).1 :: (runW (subT xs (distA ranksL xs (rest + c)).1) (distA ranksL xs (rest + c)).2.1 t).1, (runW (subT xs (distA ranksL xs (rest + c)).1) (distA ranksL xs (rest + c)).2.1 t).2)
def colS (ps : List (List Int)) (k : Nat) : Int := sumI (ps.map (fun p => rdN p k))
def allS (ps : List (List Int)) : Int := sumI (ps.map sumI)
theorem runW_facts : ∀ (cs : List Int) (xs : List S49) (rest : Int), goodT xs = true → 0 ≤ rest → (∀ c ∈ cs, 0 ≤ c) → rest + sumI cs ≤ 1000000000 →
    (runW xs rest cs).1.length = cs.length ∧ (∀ p ∈ (runW xs rest cs).1, p.length = xs.length ∧ ∀ x ∈ p, 0 ≤ x ∧ x ≤ 1000000000) ∧ (runW xs rest cs).2.1.length = xs.length ∧ goodT (runW xs rest cs).2.1 = true ∧ 0 ≤ (runW xs rest cs).2.2 ∧ allS (runW xs rest cs).1 + (runW xs rest cs).2.2 = rest + sumI cs ∧
    (∀ (k : Nat) (a : S49), xs[k]? = some a → ∃ b, (runW xs rest cs).2.1[k]? = some b ∧ colS (runW xs rest cs).1 k + b.f1 = a.f1)
  | [], xs, rest, g, h0, _, h1 => by
    refine ⟨rfl, by simp [runW], rfl, g, h0, by simp [runW, allS, sumI], fun k a ha => ⟨a, ha, by simp [runW, colS, sumI]⟩⟩
  | c :: t, xs, rest, g, h0, hc, h1 => by
    have hcc := hc c List.mem_cons_self
    have ht : ∀ d ∈ t, 0 ≤ d := fun d hd => hc d (List.mem_cons_of_mem _ hd)
    have hst := sumI_nonneg t ht
    simp only [sumI] at h1
    have hb : 0 ≤ rest + c ∧ rest + c ≤ 1000000000 := by omega
    have sv := dist_facts g hb
    have hyes : (distA ranksL xs (rest + c)).2.2 = true := by rw [distA_yes g hb]
    have hok := distA_ok hyes
    simp only [runW]
    generalize distA ranksL xs (rest + c) = D at sv hok ⊢
    obtain ⟨ps, lf, ok⟩ := D
    simp only at sv hok ⊢
    have g2 := goodT_sub g sv.len sv.fit
    have hs := sv.sum
    have hps := sumI_nonneg ps (fun x hx => (hok.1 x hx).1)
    have hn := sv.bd
    obtain ⟨r1, r2, r3, r4, r5, r6, r7⟩ := runW_facts t (subT xs ps) lf g2 hn.1 ht (by omega)
    have hl := subT_len xs ps sv.len
    refine ⟨by simp [r1], fun p hp => ?_, by rw [r3, hl], r4, r5, ?_, fun k a ha => ?_⟩
    · rcases List.mem_cons.mp hp with q | q
      · rw [q]; exact ⟨sv.len, hok.1⟩
      · have := r2 p q; rw [hl] at this; exact this
    · simp only [allS, List.map_cons, sumI] at r6 ⊢
      omega
    · obtain ⟨b, hb1, hb2⟩ := r7 k _ (subT_at xs ps sv.len k a ha)
      refine ⟨b, hb1, ?_⟩
      simp only [colS, List.map_cons, sumI] at hb2 ⊢
      omega
def okCash (cs : List Int) : Prop := (∀ c ∈ cs, 0 ≤ c ∧ c ≤ 1000000000) ∧ cs.length ≤ 20 ∧ sumI cs ≤ 1000000000
instance (cs : List Int) : Decidable (okCash cs) := by unfold okCash; infer_instance
def runA (xs : List S49) (cs : List Int) : List (List Int) × List Int × Bool := if goodT xs = true ∧ okCash cs then ((runW xs 0 cs).1, (runW xs 0 cs).2.1.map (fun a => a.f1), true) else ([], [], false)
theorem runA_no {xs : List S49} {cs : List Int} (h : ¬ (goodT xs = true ∧ okCash cs)) : runA xs cs = ([], [], false) := if_neg h
theorem runA_yes {xs : List S49} {cs : List Int} (g : goodT xs = true) (h : okCash cs) : runA xs cs = ((runW xs 0 cs).1, (runW xs 0 cs).2.1.map (fun a => a.f1), true) := if_pos ⟨g, h⟩

def okAm (xs : List Int) : Prop := xs.length ≤ 20 ∧ ∀ x ∈ xs, -1000000000 ≤ x ∧ x ≤ 1000000000
instance (xs : List Int) : Decidable (okAm xs) := by unfold okAm; infer_instance
theorem okAm_any {xs : List Int} (h : xs.length ≤ 20) : decide (okAm xs) = !(xs.any (fun x => !decide (-1000000000 ≤ x ∧ x ≤ 1000000000))) := by
  cases hq : xs.any (fun x => !decide (-1000000000 ≤ x ∧ x ≤ 1000000000)) with
  | true =>
    obtain ⟨x, hx, hx2⟩ := List.any_eq_true.mp hq
    refine decide_eq_false (fun g => ?_)
    rw [decide_eq_true (g.2 x hx)] at hx2
    cases hx2
  | false =>
    refine decide_eq_true ⟨h, fun x hx => ?_⟩
    have h1 := List.any_eq_false.mp hq x hx
    have h2 : decide (-1000000000 ≤ x ∧ x ≤ 1000000000) = true := by simpa using h1
    exact of_decide_eq_true h2
end Go.Proofs.Ytbnhpkkkijjkkaa.Pure
