/- The law FnExactConcentrationExcess over the printed functions: for all arguments of Go's kinds there is a number of rounds at which it answers true. No other condition. -/
import Derived.Test.YtiaakolalhdelaaRFnExactConcentrationExcessx0
import Derived.Test.YtiaakolalhdelaaRFnExactConcentrationExcessx1
import Derived.Test.YtiaakolalhdelaaRFnExactConcentrationExcessx2
import Derived.Test.YtiaakolalhdelaaRFnExactConcentrationExcessx3
import Derived.Test.YtiaakolalhdelaaRFnExactConcentrationExcessx4
import Derived.Test.YtiaakolalhdelaaRFnExactConcentrationExcessx5
import Derived.Test.YtiaakolalhdelaaEvKit
import Derived.Test.YtiaakolalhdelaaKReads
namespace Go.Proofs.Ytiaakolalhdelaa.Pure
open Go.RowKit Go.Proofs.YtiaakolalhdelaaW.PrintWords Go.Proofs.YtiaakolalhdelaaW.PrintLast Go.Proofs.YtiaakolalhdelaaW.PrintMore Go.Proofs.Ytiaakolalhdelaa.PFnExactConcentrationExcess Go.Proofs.Ytiaakolalhdelaa.EvKit
set_option linter.unusedVariables false
set_option linter.unusedSimpArgs false

theorem rd_T51_at {xs pre t : List S51} {a : S51} (h : xs = pre ++ a :: t) {i : Int} (hi : i = pre.length) : rd_T51 xs i = a := getD_at h hi


theorem rd_T68_at {xs pre t : List S68} {a : S68} (h : xs = pre ++ a :: t) {i : Int} (hi : i = pre.length) : rd_T68 xs i = a := getD_at h hi


def cv_Asset (x : S68) : S51 := ⟨x.f0, x.f1, x.f2⟩
theorem toAssetS_l0 (xs : List S68) (hn : xs.length ≤ 1048576) : ∀ (rest pre : List S68) (cur : List S51) (i : Int), xs = pre ++ rest → i = pre.length → (∃ tl : List S51, tl.length = rest.length ∧ cur = pre.map cv_Asset ++ tl) →
    Ev (fun k => laws_toAssetS.l0 k xs cur i) (xs.map cv_Asset) := by
  intro rest
  induction rest with
  | nil =>
    intro pre cur i h hi hc
    obtain ⟨tl, ht, rfl⟩ := hc
    have hl := len_nil h
    refine evSucc ?_
    simp only [laws_toAssetS.l0]
    refine evNeg (by omega) ?_
    refine evSome ?_
    have : tl = [] := List.length_eq_zero_iff.mp ht
    subst this
    rw [h]; simp
  | cons a t ih =>
    intro pre cur i h hi hc
    obtain ⟨tl, ht, hcur⟩ := hc
    have hl := len_cons h
    obtain ⟨b, tl, rfl⟩ : ∃ b tl', tl = b :: tl' := by
      cases tl with
      | nil => simp at ht
      | cons b tl => exact ⟨b, tl, rfl⟩
    have hcl := len_cons hcur
    simp at hcl
    refine evSucc ?_
    simp only [laws_toAssetS.l0]
    refine evPos (by omega) ?_
    refine evPos (by omega) ?_
    simp only [laws_toAsset.f, rd_T68_at h hi, Option.bind_some]
    refine evPos (by omega) ?_
    refine ih (pre ++ [a]) _ _ (snoc h) ?_ ⟨tl, by simpa using ht, ?_⟩
    · rw [wrapId (by omega), len_snoc]; omega
    · rw [set_at hcur (by simpa using hi)]; simp [cv_Asset]
theorem toAssetS_ev (xs : List S68) (hn : xs.length ≤ 1048576) : Ev (fun k => laws_toAssetS.f k xs) (xs.map cv_Asset) := by
  simp only [laws_toAssetS.f]
  refine evPos (by omega) ?_
  refine evPos (by omega) ?_
  exact toAssetS_l0 xs hn xs [] _ 0 rfl rfl ⟨List.replicate xs.length z51, by simp, by simp⟩
theorem szAssetS_eq (xs : List S68) (h : xs.length ≤ 9223372036854775807) : laws_szAssetS.f xs 1048576 = some (if xs.length ≤ 1048576 then 1048576 - (xs.length : Int) else -1) := by
  simp only [laws_szAssetS.f]
  rw [wrapId (by omega)]
  by_cases c : xs.length ≤ 1048576
  · rw [if_neg (by omega), if_pos c]
  · rw [if_pos (by omega), if_neg c]


theorem eqAssetS_l0 (xs : List S51) (hn : xs.length ≤ 9223372036854775806) : ∀ (rest pre : List S51) (i : Int), xs = pre ++ rest → i = pre.length → Ev (fun k => laws_eqAssetS.l0 k xs xs i) true := by
  intro rest
  induction rest with
  | nil =>
    intro pre i h hi
    have hl := len_nil h
    refine evSucc ?_
    simp only [laws_eqAssetS.l0]
    refine evNeg (by omega) ?_
    exact evSome rfl
  | cons a t ih =>
    intro pre i h hi
    have hl := len_cons h
    refine evSucc ?_
    simp only [laws_eqAssetS.l0]
    refine evPos (by omega) ?_
    refine evPos (by omega) ?_
    refine evPos (by omega) ?_
    refine evBindS (a := true) (by simp [laws_eqAsset.f]) ?_
    refine evPos (by trivial) ?_
    exact ih (pre ++ [a]) _ (snoc h) (by rw [wrapId (by omega), len_snoc]; omega)
theorem eqAssetS_ev (xs : List S51) (hn : xs.length ≤ 9223372036854775806) : Ev (fun k => laws_eqAssetS.f k xs xs) true := by
  simp only [laws_eqAssetS.f]
  exact evPos (by trivial) (eqAssetS_l0 xs hn xs [] 0 rfl rfl)


def upS_Asset : Nat → Int → List S51
  | 0, _ => []
  | c + 1, m => ⟨m, m + 1, m + 2⟩ :: upS_Asset c (m + 3)
theorem upS_Asset_length : ∀ (c : Nat) (m : Int), (upS_Asset c m).length = c
  | 0, _ => rfl
  | c + 1, m => by simp [upS_Asset, upS_Asset_length c]
theorem markAssetS_l0 : ∀ (rest pre : List S51) (xs : List S51) (m i : Int), xs = pre ++ rest → i = pre.length → 0 ≤ m → m + 3 * rest.length ≤ 9223372036854775807 → pre.length + rest.length ≤ 9223372036854775806 →
    Ev (fun k => laws_markAssetS.l0 k xs m i) (m + 3 * rest.length, pre ++ upS_Asset rest.length m) := by
  intro rest
  induction rest with
  | nil =>
    intro pre xs m i h hi h0 h1 h2
    have hl := len_nil h
    refine evSucc ?_
    simp only [laws_markAssetS.l0]
    refine evNeg (by omega) ?_
    exact evSome (by simp [h, upS_Asset])
  | cons a t ih =>
    intro pre xs m i h hi h0 h1 h2
    have hl := len_cons h
    subst h
    simp only [List.length_cons] at h1 h2
    have hrd : ∀ b : S51, rd_T51 (pre ++ b :: t) i = b := fun b => rd_T51_at rfl hi
    have hset : ∀ b c : S51, (pre ++ b :: t).set i.toNat c = pre ++ c :: t := fun b c => set_at rfl hi
    have w1 : wrap64 (m + 1) = m + 1 := (wrapId (by omega)).trans (by omega)
    have w2 : wrap64 (m + 1 + 1) = m + 2 := (wrapId (by omega)).trans (by omega)
    have w3 : wrap64 (m + 2 + 1) = m + 3 := (wrapId (by omega)).trans (by omega)
    refine evSucc ?_
    simp only [laws_markAssetS.l0, Option.bind_some, hrd, hset, w1, w2, w3]
    refine evPos (by omega) ?_
    refine evPos (by omega) ?_
    refine evEq (ih (pre ++ [⟨m, m + 1, m + 2⟩]) _ (m + 3) _ (by simp) ?_ ?_ ?_ ?_) ?_
    · rw [wrapId (by omega), len_snoc]; omega
    · omega
    · omega
    · simp; omega
    · simp [upS_Asset]; omega
theorem markAssetS_ev (xs : List S51) (m : Int) (h0 : 0 ≤ m) (h1 : m + 3 * xs.length ≤ 9223372036854775807) (h2 : xs.length ≤ 9223372036854775806) : Ev (fun k => laws_markAssetS.f k xs m) (m + 3 * xs.length, upS_Asset xs.length m) := by
  simp only [laws_markAssetS.f]
  exact evEq (markAssetS_l0 xs [] xs m 0 rfl rfl h0 h1 (by simpa using h2)) (by simp)


theorem eqIntS_l0 (xs : List Int) (hn : xs.length ≤ 9223372036854775806) : ∀ (rest pre : List Int) (i : Int), xs = pre ++ rest → i = pre.length → Ev (fun k => laws_eqIntS.l0 k xs xs i) true := by
  intro rest
  induction rest with
  | nil =>
    intro pre i h hi
    have hl := len_nil h
    refine evSucc ?_
    simp only [laws_eqIntS.l0]
    refine evNeg (by omega) ?_
    exact evSome rfl
  | cons a t ih =>
    intro pre i h hi
    have hl := len_cons h
    refine evSucc ?_
    simp only [laws_eqIntS.l0]
    refine evPos (by omega) ?_
    refine evPos (by omega) ?_
    refine evPos (by omega) ?_
    refine evPos (by trivial) ?_
    exact ih (pre ++ [a]) _ (snoc h) (by rw [wrapId (by omega), len_snoc]; omega)
theorem eqIntS_ev (xs : List Int) (hn : xs.length ≤ 9223372036854775806) : Ev (fun k => laws_eqIntS.f k xs xs) true := by
  simp only [laws_eqIntS.f]
  exact evPos (by trivial) (eqIntS_l0 xs hn xs [] 0 rfl rfl)


def upFrom : Nat → Int → List Int
  | 0, _ => []
  | n + 1, m => m :: upFrom n (m + 1)
theorem upFrom_length : ∀ (n : Nat) (m : Int), (upFrom n m).length = n
  | 0, _ => rfl
  | n + 1, m => by simp [upFrom, upFrom_length n]
theorem markIntS_l0 : ∀ (rest pre : List Int) (xs : List Int) (m i : Int), xs = pre ++ rest → i = pre.length → 0 ≤ m → m + rest.length ≤ 9223372036854775807 → pre.length + rest.length ≤ 9223372036854775806 →
    Ev (fun k => laws_markIntS.l0 k xs m i) (m + rest.length, pre ++ upFrom rest.length m) := by
  intro rest
  induction rest with
  | nil =>
    intro pre xs m i h hi h0 h1 h2
    have hl := len_nil h
    refine evSucc ?_
    simp only [laws_markIntS.l0]
    refine evNeg (by omega) ?_
    exact evSome (by simp [h, upFrom])
  | cons a t ih =>
    intro pre xs m i h hi h0 h1 h2
    have hl := len_cons h
    simp only [List.length_cons] at h1 h2
    refine evSucc ?_
    simp only [laws_markIntS.l0]
    refine evPos (by omega) ?_
    refine evPos (by omega) ?_
    refine evEq (ih (pre ++ [m]) _ (wrap64 (m + 1)) _ ?_ ?_ ?_ ?_ ?_) ?_
    · rw [set_at h hi]; simp
    · rw [wrapId (by omega), len_snoc]; omega
    · rw [wrapId (by omega)]; omega
    · rw [wrapId (by omega)]; omega
    · simp; omega
    · rw [wrapId (by omega)]; simp [upFrom]; omega
theorem markIntS_ev (xs : List Int) (m : Int) (h0 : 0 ≤ m) (h1 : m + xs.length ≤ 9223372036854775807) (h2 : xs.length ≤ 9223372036854775806) : Ev (fun k => laws_markIntS.f k xs m) (m + xs.length, upFrom xs.length m) := by
  simp only [laws_markIntS.f]
  exact evEq (markIntS_l0 xs [] xs m 0 rfl rfl h0 h1 (by simpa using h2)) (by simp)


theorem heldIntS_l0 : ∀ (n : Nat) (pre : List Int) (xs : List Int) (m i : Int), xs = pre ++ upFrom n m → i = pre.length → 0 ≤ m → m + n ≤ 9223372036854775807 → pre.length + n ≤ 9223372036854775806 →
    Ev (fun k => laws_heldIntS.l0 k xs m i) (m + n) := by
  intro n
  induction n with
  | zero =>
    intro pre xs m i h hi h0 h1 h2
    have hl := len_nil h
    refine evSucc ?_
    simp only [laws_heldIntS.l0]
    refine evNeg (by omega) ?_
    exact evSome (by simp)
  | succ n ih =>
    intro pre xs m i h hi h0 h1 h2
    have h' : xs = pre ++ m :: upFrom n (m + 1) := h
    have hl := len_cons h'
    rw [upFrom_length] at hl
    refine evSucc ?_
    simp only [laws_heldIntS.l0, rd_at h' hi]
    refine evPos (by omega) ?_
    refine evPos (by omega) ?_
    refine evPos (by trivial) ?_
    refine evEq (ih (pre ++ [m]) _ (wrap64 (m + 1)) _ ?_ ?_ ?_ ?_ ?_) ?_
    · rw [wrapId (by omega)]; exact snoc h'
    · rw [wrapId (by omega), len_snoc]; omega
    · rw [wrapId (by omega)]; omega
    · rw [wrapId (by omega)]; omega
    · simp; omega
    · rw [wrapId (by omega)]; omega
theorem heldIntS_ev (n : Nat) (m : Int) (h0 : 0 ≤ m) (h1 : m + n ≤ 9223372036854775807) (h2 : n ≤ 9223372036854775806) : Ev (fun k => laws_heldIntS.f k (upFrom n m) m) (m + n) := by
  simp only [laws_heldIntS.f]
  exact heldIntS_l0 n [] _ m 0 rfl rfl h0 h1 (by simpa using h2)

theorem within_eq (a b c : Int) : impl_within.f a b c = some (decide (b ≤ a ∧ a ≤ c)) := by
  unfold impl_within.f
  by_cases h : a ≥ b
  · rw [if_pos h]; exact congrArg some (decide_eq_decide.mpr ⟨fun g => ⟨h, g⟩, fun g => g.2⟩)
  · rw [if_neg h]; exact congrArg some (decide_eq_false (fun g => h g.1)).symm
theorem l1In_eq (a b c : Int) : spec_l1In.f a b c = some (decide (b ≤ a ∧ a ≤ c)) := by
  unfold spec_l1In.f
  by_cases h : a ≥ b
  · rw [if_pos h]; exact congrArg some (decide_eq_decide.mpr ⟨fun g => ⟨h, g⟩, fun g => g.2⟩)
  · rw [if_neg h]; exact congrArg some (decide_eq_false (fun g => h g.1)).symm

theorem isAmount_eq (a : Int) : impl_isAmount.f a = some (decide (-1000000000 ≤ a ∧ a ≤ 1000000000)) := by
  unfold impl_isAmount.f; rw [within_eq]; rfl

def okA (a : S51) : Prop := (0 ≤ a.f0 ∧ a.f0 ≤ 9) ∧ (0 ≤ a.f1 ∧ a.f1 ≤ 1000000000) ∧ (0 ≤ a.f2 ∧ a.f2 ≤ 1000)
instance (a : S51) : Decidable (okA a) := by unfold okA; infer_instance
def sumA : List S51 → Int
  | [] => 0
  | a :: t => a.f1 + sumA t
theorem sumA_snoc (p : List S51) (a : S51) : sumA (p ++ [a]) = sumA p + a.f1 := by
  induction p with
  | nil => simp [sumA]
  | cons b t ih => simp only [List.cons_append, sumA, ih]; omega
theorem sumA_bd (p : List S51) (h : ∀ a ∈ p, okA a) : 0 ≤ sumA p ∧ sumA p ≤ 1000000000 * p.length := by
  induction p with
  | nil => simp [sumA]
  | cons b t ih =>
    have h1 := ih (fun a ha => h a (List.mem_cons_of_mem _ ha))
    have h2 := (h b List.mem_cons_self).2.1
    simp only [sumA, List.length_cons]
    omega
def goodA (xs : List S51) : Bool := decide ((∀ a ∈ xs, okA a) ∧ xs.length ≤ 20 ∧ sumA xs ≤ 1000000000)
theorem okA_snoc {pre : List S51} {a : S51} (hok : ∀ b ∈ pre, okA b) (ha : okA a) : ∀ b ∈ pre ++ [a], okA b := by
  intro b hb
  rcases List.mem_append.mp hb with g | g
  · exact hok b g
  · rw [List.mem_singleton.mp g]; exact ha
theorem implValid_l0 (xs : List S51) (hn : xs.length ≤ 1048576) : ∀ (rest pre : List S51) (i : Int), xs = pre ++ rest → i = pre.length → (∀ a ∈ pre, okA a) → Ev (fun k => impl_IsValidAssets.l0 k xs (sumA pre) xs (xs.length : Int) i) (goodA xs) := by
  intro rest
  induction rest with
  | nil =>
    intro pre i h hi hok
    have hl := len_nil h
    have hx : xs = pre := by simpa using h
    have hb := sumA_bd pre hok
    refine evSucc ?_
    simp only [impl_IsValidAssets.l0, isAmount_eq, Option.bind_some]
    refine evNeg (by omega) ?_
    by_cases c : xs.length ≤ 20
    · refine evPos (by omega) ?_
      refine evSome ?_
      unfold goodA
      rw [decide_eq_decide, hx]
      exact ⟨fun g => ⟨hok, by rw [← hx]; exact c, g.2⟩, fun g => ⟨by omega, g.2.2⟩⟩
    · refine evNeg (by omega) ?_
      exact evSome (decide_eq_false (fun g => c g.2.1)).symm
  | cons a t ih =>
    intro pre i h hi hok
    have hl := len_cons h
    have hb := sumA_bd pre hok
    have ha : a ∈ xs := by rw [h]; simp
    refine evSucc ?_
    simp only [impl_IsValidAssets.l0, within_eq, Option.bind_some, decide_eq_true_eq, rd_T51_at h hi]
    refine evPos (by omega) ?_
    refine evPos (by omega) ?_
    refine evPos (by omega) ?_
    have bad : ¬ okA a → false = goodA xs := fun n => (decide_eq_false (fun g => n (g.1 a ha))).symm
    refine evIte (fun c1 => ?_) (fun c1 => evSome (bad (fun g => c1 g.1)))
    refine evIte (fun c2 => ?_) (fun c2 => evSome (bad (fun g => c2 g.2.1)))
    refine evIte (fun c3 => ?_) (fun c3 => evSome (bad (fun g => c3 g.2.2)))
    have e : wrap64 (sumA pre + a.f1) = sumA (pre ++ [a]) := by rw [sumA_snoc, wrapId (by omega)]
    rw [e]
    exact ih (pre ++ [a]) _ (snoc h) (by rw [wrapId (by omega), len_snoc]; omega) (okA_snoc hok ⟨c1, c2, c3⟩)
theorem implValid_ev (xs : List S51) (hn : xs.length ≤ 1048576) : Ev (fun k => impl_IsValidAssets.f k xs) (goodA xs) := by
  simp only [impl_IsValidAssets.f]
  exact implValid_l0 xs hn xs [] 0 rfl rfl (by simp)
theorem specGood_l0 (xs : List S51) (hn : xs.length ≤ 1048576) : ∀ (rest pre : List S51) (i : Int), xs = pre ++ rest → i = pre.length → (∀ a ∈ pre, okA a) → Ev (fun k => spec_l17Good.l0 k xs (sumA pre) i) (goodA xs) := by
  intro rest
  induction rest with
  | nil =>
    intro pre i h hi hok
    have hl := len_nil h
    have hx : xs = pre := by simpa using h
    refine evSucc ?_
    simp only [spec_l17Good.l0]
    refine evNeg (by omega) ?_
    refine evSucc ?_
    simp only [spec_l17Good.j1]
    refine evNeg (by simp) ?_
    by_cases c : xs.length ≤ 20
    · refine evPos (by omega) ?_
      refine evSome ?_
      unfold goodA
      rw [decide_eq_decide, hx]
      exact ⟨fun g => ⟨hok, by rw [← hx]; exact c, g⟩, fun g => g.2.2⟩
    · refine evNeg (by omega) ?_
      exact evSome (decide_eq_false (fun g => c g.2.1)).symm
  | cons a t ih =>
    intro pre i h hi hok
    have hl := len_cons h
    have hb := sumA_bd pre hok
    have ha : a ∈ xs := by rw [h]; simp
    refine evSucc ?_
    simp only [spec_l17Good.l0]
    refine evPos (by omega) ?_
    refine evSucc ?_
    simp only [spec_l17Good.j1, l1In_eq, Option.bind_some, decide_eq_true_eq, rd_T51_at h hi]
    refine evIte (fun c0 => ?_) (fun c0 => ?_)
    · refine evPos (by omega) ?_
      refine evPos (by omega) ?_
      have bad : ¬ okA a → false = goodA xs := fun n => (decide_eq_false (fun g => n (g.1 a ha))).symm
      refine evIte (fun c1 => ?_) (fun c1 => evSome (bad (fun g => c1 g.1)))
      refine evIte (fun c2 => ?_) (fun c2 => evSome (bad (fun g => c2 g.2.1)))
      refine evIte (fun c3 => ?_) (fun c3 => evSome (bad (fun g => c3 g.2.2)))
      have e : wrap64 (sumA pre + a.f1) = sumA (pre ++ [a]) := by rw [sumA_snoc, wrapId (by omega)]
      rw [e]
      exact ih (pre ++ [a]) _ (snoc h) (by rw [wrapId (by omega), len_snoc]; omega) (okA_snoc hok ⟨c1, c2, c3⟩)
    · refine evNeg (by omega) ?_
      exact evSome (decide_eq_false (fun g => by omega)).symm
theorem specGood_ev (xs : List S51) (hn : xs.length ≤ 1048576) : Ev (fun k => spec_l17Good.f k xs) (goodA xs) := by
  simp only [spec_l17Good.f]
  exact specGood_l0 xs hn xs [] 0 rfl rfl (by simp)

def max0 (x : Int) : Int := if 0 < x then x else 0
theorem max0_bd (x : Int) : 0 ≤ max0 x ∧ (x ≤ 1000000000 → max0 x ≤ 1000000000) ∧ (max0 x ≤ 1000000000 → x ≤ 1000000000) := by unfold max0; split <;> omega

def sumI : List Int → Int
  | [] => 0
  | a :: t => a + sumI t
def sumWI : Int → List Int → Int
  | s, [] => s
  | s, a :: t => sumWI (wrap64 (s + a)) t
theorem implSumOf_l0 (xs : List Int) (hn : xs.length ≤ 9223372036854775806) : ∀ (rest pre : List Int) (s i : Int), xs = pre ++ rest → i = pre.length → Ev (fun k => impl_sumOf.l0 k s xs (xs.length : Int) i) (sumWI s rest) := by
  intro rest
  induction rest with
  | nil =>
    intro pre s i h hi
    have hl := len_nil h
    refine evSucc ?_
    simp only [impl_sumOf.l0]
    refine evNeg (by omega) ?_
    exact evSome rfl
  | cons a t ih =>
    intro pre s i h hi
    have hl := len_cons h
    refine evSucc ?_
    simp only [impl_sumOf.l0, rd_at h hi]
    refine evPos (by omega) ?_
    refine evPos (by omega) ?_
    refine evPos (by omega) ?_
    exact ih (pre ++ [a]) _ _ (snoc h) (by rw [wrapId (by omega), len_snoc]; omega)
theorem implSumOf_ev (xs : List Int) (hn : xs.length ≤ 9223372036854775806) : Ev (fun k => impl_sumOf.f k xs) (sumWI 0 xs) := by
  simp only [impl_sumOf.f]
  exact implSumOf_l0 xs hn xs [] 0 0 rfl rfl
/-- Without a wrap where all parts are at least 0 and the whole is small. -/
theorem sumI_nonneg (xs : List Int) (h : ∀ x ∈ xs, 0 ≤ x) : 0 ≤ sumI xs := by
  induction xs with
  | nil => simp [sumI]
  | cons a t ih =>
    have h1 := h a List.mem_cons_self
    have h2 := ih (fun x hx => h x (List.mem_cons_of_mem _ hx))
    simp only [sumI]; omega
theorem sumWI_eq : ∀ (xs : List Int) (s : Int), (∀ x ∈ xs, 0 ≤ x) → 0 ≤ s → s + sumI xs ≤ 9223372036854775807 → sumWI s xs = s + sumI xs
  | [], s, _, _, _ => by simp [sumWI, sumI]
  | a :: t, s, h, h0, h1 => by
    have ha := h a List.mem_cons_self
    have ht : ∀ x ∈ t, 0 ≤ x := fun x hx => h x (List.mem_cons_of_mem _ hx)
    have hs := sumI_nonneg t ht
    simp only [sumI] at h1
    simp only [sumWI, sumI]
    rw [wrapId (by omega), sumWI_eq t (s + a) ht (by omega) (by omega)]
    omega

def addK (out : List Int) (a : S51) : List Int := out.set a.f0.toNat (rd out a.f0 + a.f1)
def foldK : List Int → List S51 → List Int
  | out, [] => out
  | out, a :: t => foldK (addK out a) t
/-- What holds of the sums by kind after some assets: ten numbers, none negative, that add up to s. -/
def isSums (out : List Int) (s : Int) : Prop := out.length = 10 ∧ (∀ x ∈ out, 0 ≤ x) ∧ sumI out = s
theorem sumI_set : ∀ (xs : List Int) (j : Nat) (v : Int), j < xs.length → sumI (xs.set j v) = sumI xs - xs.getD j 0 + v
  | [], j, v, h => by simp at h
  | a :: t, 0, v, h => by simp only [List.set_cons_zero, sumI, List.getD_cons_zero]; omega
  | a :: t, j + 1, v, h => by
    simp only [List.set_cons_succ, sumI, List.getD_cons_succ]
    rw [sumI_set t j v (by simpa using h)]; omega
theorem getD_le_sumI : ∀ (xs : List Int) (j : Nat), (∀ x ∈ xs, 0 ≤ x) → 0 ≤ xs.getD j 0 ∧ xs.getD j 0 ≤ sumI xs
  | [], j, h => by simp [sumI]
  | a :: t, 0, h => by
    have h1 := h a List.mem_cons_self
    have h2 := sumI_nonneg t (fun x hx => h x (List.mem_cons_of_mem _ hx))
    simp [sumI]; omega
  | a :: t, j + 1, h => by
    have h1 := h a List.mem_cons_self
    have h2 := getD_le_sumI t j (fun x hx => h x (List.mem_cons_of_mem _ hx))
    simp only [List.getD_cons_succ, sumI]; omega
theorem isSums_add {out : List Int} {s : Int} (h : isSums out s) {a : S51} (ha : okA a) : isSums (addK out a) (s + a.f1) ∧ (0 ≤ rd out a.f0 ∧ rd out a.f0 ≤ s) := by
  obtain ⟨h1, h2, h3⟩ := h
  have hb : 0 ≤ rd out a.f0 ∧ rd out a.f0 ≤ sumI out := getD_le_sumI out a.f0.toNat h2
  have := ha.1; have := ha.2.1
  have hj : a.f0.toNat < out.length := by omega
  refine ⟨⟨by simp [addK, h1], fun x hx => ?_, ?_⟩, by omega⟩
  · rcases List.mem_or_eq_of_mem_set hx with g | g
    · exact h2 x g
    · omega
  · unfold addK
    rw [sumI_set out _ _ hj]
    show sumI out - rd out a.f0 + (rd out a.f0 + a.f1) = _
    omega
def capK (allowed : Int) (x : Int) : Int := max0 (wrap64 (x - allowed))
def excessA (xs : List S51) (limit : Int) : List Int × Bool :=
  if goodA xs = true ∧ 0 ≤ limit ∧ limit ≤ 1000 then
    ((foldK (List.replicate 10 0) xs).map (capK (wrap64 (Int.tdiv (wrap64 (sumA xs * limit)) 1000))), true)
  else ([], false)
theorem sumA_nonneg_of (xs : List S51) (h : ∀ a ∈ xs, okA a) : 0 ≤ sumA xs := (sumA_bd xs h).1
theorem implExcess_l1 (al : Int) (ys : List Int) (hn : ys.length = 10) : ∀ (rest pre : List Int) (cur : List Int) (i : Int), ys = pre ++ rest → i = pre.length → cur = pre.map (capK al) ++ rest →
    Ev (fun k => impl_ConcentrationExcess.l1 k cur al 10 i) (ys.map (capK al), true) := by
  intro rest
  induction rest with
  | nil =>
    intro pre cur i h hi hc
    have hl := len_nil h
    refine evSucc ?_
    simp only [impl_ConcentrationExcess.l1]
    refine evNeg (by omega) ?_
    exact evSome (by rw [hc, h]; simp)
  | cons a t ih =>
    intro pre cur i h hi hc
    have hl := len_cons h
    have hcl := len_cons hc
    have hi' : i = (pre.map (capK al)).length := by simpa using hi
    rw [List.length_map] at hcl
    refine evSucc ?_
    simp only [impl_ConcentrationExcess.l1, rd_at hc hi']
    refine evPos (by omega) ?_
    refine evPos (by omega) ?_
    refine evPos (by omega) ?_
    refine ih (pre ++ [a]) _ _ (snoc h) (by rw [wrapId (by omega), len_snoc]; omega) ?_
    rw [set_at hc hi']
    simp only [List.map_append, List.map_cons, List.map_nil, List.append_assoc, List.singleton_append]
    rfl
theorem implExcess_l0 (xs : List S51) (hg : goodA xs = true) (limit : Int) (hl : 0 ≤ limit ∧ limit ≤ 1000) : ∀ (rest pre : List S51) (out : List Int) (i : Int), xs = pre ++ rest → i = pre.length → isSums out (sumA pre) →
    Ev (fun k => impl_ConcentrationExcess.l0 k limit out xs (xs.length : Int) i) ((foldK out rest).map (capK (wrap64 (Int.tdiv (wrap64 (sumA xs * limit)) 1000))), true) := by
  have hg' := of_decide_eq_true hg
  intro rest
  induction rest with
  | nil =>
    intro pre out i h hi hs
    have hl := len_nil h
    have hx : xs = pre := by simpa using h
    subst hx
    refine evSucc ?_
    simp only [impl_ConcentrationExcess.l0]
    refine evNeg (by omega) ?_
    have hs10 := hs.1
    refine evBind (implSumOf_ev out (by omega)) ?_
    have hb := hg'.2.2
    have e : sumWI 0 out = sumA xs := by
      rw [sumWI_eq out 0 hs.2.1 (by omega) (by rw [hs.2.2]; omega), hs.2.2]; omega
    simp only [e, hs10]
    exact implExcess_l1 _ out hs.1 out [] out 0 rfl rfl rfl
  | cons a t ih =>
    intro pre out i h hi hs
    have hl := len_cons h
    have ha : okA a := hg'.1 a (by rw [h]; simp)
    have hp : ∀ b ∈ pre, okA b := fun b hb => hg'.1 b (by rw [h]; simp [hb])
    have hbd := sumA_bd pre hp
    have hlen := hg'.2.1
    obtain ⟨hs', hr⟩ := isSums_add hs ha
    have hk := ha.1
    have hv := ha.2.1
    have ho := hs.1
    refine evSucc ?_
    simp only [impl_ConcentrationExcess.l0, rd_T51_at h hi]
    refine evPos (by omega) ?_
    refine evPos (by omega) ?_
    refine evPos (by omega) ?_
    refine evPos (by omega) ?_
    refine evPos (by omega) ?_
    have e : wrap64 (rd out a.f0 + a.f1) = rd out a.f0 + a.f1 := wrapId (by omega)
    rw [e]
    exact ih (pre ++ [a]) (addK out a) _ (snoc h) (by rw [wrapId (by omega), len_snoc]; omega) (by rw [sumA_snoc]; exact hs')
theorem implExcess_ev (xs : List S51) (limit : Int) (hn : xs.length ≤ 1048576) : Ev (fun k => impl_ConcentrationExcess.f k xs limit) (excessA xs limit) := by
  simp only [impl_ConcentrationExcess.f, within_eq]
  refine evBind (implValid_ev xs hn) ?_
  refine evIte (fun c => ?_) (fun c => ?_)
  · simp only [Option.bind_some]
    refine evSucc ?_
    simp only [impl_ConcentrationExcess.j0]
    by_cases cl : 0 ≤ limit ∧ limit ≤ 1000
    · refine evNeg (by simp [cl]) ?_
      refine evPos (by omega) ?_
      refine evEq (implExcess_l0 xs c limit cl xs [] _ 0 rfl rfl ⟨rfl, by decide, rfl⟩) ?_
      unfold excessA; rw [if_pos ⟨c, cl⟩]
    · refine evPos (by simp only [Bool.not_eq_true', decide_eq_false_iff_not]; exact cl) ?_
      exact evSome (by unfold excessA; rw [if_neg (fun g => cl g.2)])
  · refine evSucc ?_
    simp only [impl_ConcentrationExcess.j0]
    refine evPos (by trivial) ?_
    exact evSome (by unfold excessA; rw [if_neg (fun g => c g.1)])
theorem specExcess_l1 (all limit al : Int) (hal : al = wrap64 (Int.tdiv (wrap64 (all * limit)) 1000)) (ys : List Int) (hn : ys.length = 10) : ∀ (rest pre : List Int) (i : Int), ys = pre ++ rest → i = pre.length →
    Ev (fun k => spec_ConcentrationExcess.l1 k limit ys all (pre.map (capK al)) i) (ys.map (capK al), true) := by
  intro rest
  induction rest with
  | nil =>
    intro pre i h hi
    have hl := len_nil h
    refine evSucc ?_
    simp only [spec_ConcentrationExcess.l1]
    refine evNeg (by omega) ?_
    exact evSome (by rw [h]; simp)
  | cons a t ih =>
    intro pre i h hi
    have hl := len_cons h
    refine evSucc ?_
    simp only [spec_ConcentrationExcess.l1, rd_at h hi, ← hal]
    refine evPos (by omega) ?_
    refine evPos (by omega) ?_
    refine evPos (by omega) ?_
    refine evBindS (a := capK al a) ?_ ?_
    · unfold spec_l1Most.f capK max0
      split <;> first | rfl | (split <;> first | rfl | omega)
    · refine evPos (by rw [List.length_map]; omega) ?_
      have g := ih (pre ++ [a]) (wrap64 (i + 1)) (snoc h) (by rw [wrapId (by omega), len_snoc]; omega)
      have e : (pre ++ [a]).map (capK al) = pre.map (capK al) ++ [capK al a] := by simp
      rw [e] at g
      exact g
theorem specExcess_l0 (xs : List S51) (hg : goodA xs = true) (limit : Int) (hl : 0 ≤ limit ∧ limit ≤ 1000) : ∀ (rest pre : List S51) (out : List Int) (i : Int), xs = pre ++ rest → i = pre.length → isSums out (sumA pre) →
    Ev (fun k => spec_ConcentrationExcess.l0 k xs limit out (sumA pre) i) ((foldK out rest).map (capK (wrap64 (Int.tdiv (wrap64 (sumA xs * limit)) 1000))), true) := by
  have hg' := of_decide_eq_true hg
  intro rest
  induction rest with
  | nil =>
    intro pre out i h hi hs
    have hl := len_nil h
    have hx : xs = pre := by simpa using h
    subst hx
    refine evSucc ?_
    simp only [spec_ConcentrationExcess.l0]
    refine evNeg (by omega) ?_
    exact specExcess_l1 (sumA xs) limit _ rfl out hs.1 out [] 0 rfl rfl
  | cons a t ih =>
    intro pre out i h hi hs
    have hl := len_cons h
    have ha : okA a := hg'.1 a (by rw [h]; simp)
    have hp : ∀ b ∈ pre, okA b := fun b hb => hg'.1 b (by rw [h]; simp [hb])
    have hbd := sumA_bd pre hp
    have hlen := hg'.2.1
    obtain ⟨hs', hr⟩ := isSums_add hs ha
    have hk := ha.1
    have hv := ha.2.1
    have ho := hs.1
    refine evSucc ?_
    simp only [spec_ConcentrationExcess.l0, rd_T51_at h hi]
    refine evPos (by omega) ?_
    refine evPos (by omega) ?_
    refine evPos (by omega) ?_
    refine evPos (by omega) ?_
    have e : wrap64 (rd out a.f0 + a.f1) = rd out a.f0 + a.f1 := wrapId (by omega)
    have e2 : wrap64 (sumA pre + a.f1) = sumA (pre ++ [a]) := by rw [sumA_snoc, wrapId (by omega)]
    rw [e, e2]
    exact ih (pre ++ [a]) (addK out a) _ (snoc h) (by rw [wrapId (by omega), len_snoc]; omega) (by rw [sumA_snoc]; exact hs')
theorem specExcess_ev (xs : List S51) (limit : Int) (hn : xs.length ≤ 1048576) : Ev (fun k => spec_ConcentrationExcess.f k xs limit) (excessA xs limit) := by
  simp only [spec_ConcentrationExcess.f, l1In_eq]
  refine evBind (specGood_ev xs hn) ?_
  refine evIte (fun c => ?_) (fun c => ?_)
  · simp only [Option.bind_some]
    refine evSucc ?_
    simp only [spec_ConcentrationExcess.j0]
    by_cases cl : 0 ≤ limit ∧ limit ≤ 1000
    · refine evNeg (by simp [cl]) ?_
      refine evPos (by omega) ?_
      refine evEq (specExcess_l0 xs c limit cl xs [] _ 0 rfl rfl ⟨rfl, by decide, rfl⟩) ?_
      unfold excessA; rw [if_pos ⟨c, cl⟩]
    · refine evPos (by simp only [Bool.not_eq_true', decide_eq_false_iff_not]; exact cl) ?_
      exact evSome (by unfold excessA; rw [if_neg (fun g => cl g.2)])
  · refine evSucc ?_
    simp only [spec_ConcentrationExcess.j0]
    refine evPos (by trivial) ?_
    exact evSome (by unfold excessA; rw [if_neg (fun g => c g.1)])
theorem foldK_length : ∀ (xs : List S51) (out : List Int), (foldK out xs).length = out.length
  | [], _ => rfl
  | a :: t, out => by rw [foldK, foldK_length t]; simp [addK]
theorem excessA_length (xs : List S51) (limit : Int) : (excessA xs limit).1.length ≤ 10 := by
  unfold excessA; split
  · simp [foldK_length]
  · simp

theorem FnExactConcentrationExcess (l0 : List S68) (a1 : Int) (ok : l0.length ≤ 9223372036854775807 ∧ ∀ y ∈ l0, (KReads.InI y.f0 ∧ KReads.InI y.f1 ∧ KReads.InI y.f2)) (h1 : -9223372036854775808 ≤ a1 ∧ a1 ≤ 9223372036854775807) : ∃ k, laws_FnExactConcentrationExcess.f k l0 a1 = some true := by
  refine Ev.rounds ?_
  simp only [laws_FnExactConcentrationExcess.f, szAssetS_eq l0 ok.1, Option.bind_some]
  by_cases c : l0.length ≤ 1048576
  · rw [if_pos c]
    have hm : (l0.map cv_Asset).length ≤ 1048576 := by simpa using c
    have e0 := toAssetS_ev l0 c
    have e1 := specExcess_ev _ a1 hm
    have e2 := implExcess_ev _ a1 hm
    have e3 := eqAssetS_ev (l0.map cv_Asset) (by omega)
    have e4 := markAssetS_ev (l0.map cv_Asset) 1 (by omega) (by omega) (by omega)
    have hx := excessA_length (l0.map cv_Asset) a1
    have e5 := eqIntS_ev (excessA (l0.map cv_Asset) a1).1 (by omega)
    have e6 := markIntS_ev (excessA (l0.map cv_Asset) a1).1 1 (by omega) (by omega) (by omega)
    have e7 := heldIntS_ev (excessA (l0.map cv_Asset) a1).1.length 1 (by omega) (by omega) (by omega)
    repeat (first
      | dsimp only
      | exact Ev.now _
      | (refine evBind (by with_reducible assumption) ?_)
      | (refine evBindS (by with_reducible assumption) ?_)
      | (refine evPos (by with_reducible rfl) ?_)
      | (refine evPos True.intro ?_)
      | (refine evNeg not_false ?_)
      | (refine evNeg (by rw [bne_self_eq_false]; exact Bool.false_ne_true) ?_)
      | (refine evNeg Bool.false_ne_true ?_)
      | (refine evPos (by omega) ?_)
      | (refine evNeg (by omega) ?_)
      | (refine evSucc ?_; simp only [laws_FnExactConcentrationExcess.j0, laws_FnExactConcentrationExcess.j1, laws_FnExactConcentrationExcess.j2]))
  · rw [if_neg c]
    exact evPos (by omega) (Ev.now true)
end Go.Proofs.Ytiaakolalhdelaa.Pure
