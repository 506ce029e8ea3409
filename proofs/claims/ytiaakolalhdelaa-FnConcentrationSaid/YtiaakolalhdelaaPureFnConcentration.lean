/- The plain law of FnConcentration: the printed functions that it uses answer as plain Lean functions do; what holds of the excesses. No other condition. -/
import Derived.Test.YtiaakolalhdelaaPL17Cx0
import Derived.Test.YtiaakolalhdelaaPL17Cx1
import Derived.Test.YtiaakolalhdelaaPL17Cx2
import Derived.Test.YtiaakolalhdelaaPL17Cx3
import Derived.Test.YtiaakolalhdelaaPL17Cx4
import Derived.Test.YtiaakolalhdelaaPL17Cx5
import Derived.Test.YtiaakolalhdelaaPL17Cx6
import Derived.Test.YtiaakolalhdelaaPL17Cx7
import Derived.Test.YtiaakolalhdelaaEvKit
import Derived.Test.YtiaakolalhdelaaKReads
namespace Go.Proofs.Ytiaakolalhdelaa.Pure
open Go.RowKit Go.Proofs.YtiaakolalhdelaaW.PrintWords Go.Proofs.YtiaakolalhdelaaW.PrintLast Go.Proofs.YtiaakolalhdelaaW.PrintMore Go.Proofs.Ytiaakolalhdelaa.PL17C Go.Proofs.Ytiaakolalhdelaa.EvKit
set_option linter.unusedVariables false
set_option linter.unusedSimpArgs false

theorem rd_T51_at {xs pre t : List S51} {a : S51} (h : xs = pre ++ a :: t) {i : Int} (hi : i = pre.length) : rd_T51 xs i = a := getD_at h hi


theorem rd_T68_at {xs pre t : List S68} {a : S68} (h : xs = pre ++ a :: t) {i : Int} (hi : i = pre.length) : rd_T68 xs i = a := getD_at h hi


def cv_Asset (x : S68) : S51 := ⟨x.f0, x.f1, x.f2⟩
theorem toAssetS_l0 (xs : List S68) (hn : xs.length ≤ 1048576) : ∀ (rest pre : List S68) (cur : List S51) (i : Int), xs = pre ++ rest → i = pre.length → (∃ tl : List S51, tl.length = rest.length ∧ cur = pre.map cv_Asset ++ tl) →
    Ev (fun k => laws_toAssetS.l0 k xs cur i) (xs.map cv_Asset) := by
  intro rest
  induction rest with
  | nil =>
    intro pre cur i h hi hc
    obtain ⟨tl, ht, rfl⟩ := hc
    have hl := len_nil h
    refine evSucc ?_
    simp only [laws_toAssetS.l0]
    refine evNeg (by omega) ?_
    refine evSome ?_
    have : tl = [] := List.length_eq_zero_iff.mp ht
    subst this
    rw [h]; simp
  | cons a t ih =>
    intro pre cur i h hi hc
    obtain ⟨tl, ht, hcur⟩ := hc
    have hl := len_cons h
    obtain ⟨b, tl, rfl⟩ : ∃ b tl', tl = b :: tl' := by
      cases tl with
      | nil => simp at ht
      | cons b tl => exact ⟨b, tl, rfl⟩
    have hcl := len_cons hcur
    simp at hcl
    refine evSucc ?_
    simp only [laws_toAssetS.l0]
    refine evPos (by omega) ?_
    refine evPos (by omega) ?_
    simp only [laws_toAsset.f, rd_T68_at h hi, Option.bind_some]
    refine evPos (by omega) ?_
    refine ih (pre ++ [a]) _ _ (snoc h) ?_ ⟨tl, by simpa using ht, ?_⟩
    · rw [wrapId (by omega), len_snoc]; omega
    · rw [set_at hcur (by simpa using hi)]; simp [cv_Asset]
theorem toAssetS_ev (xs : List S68) (hn : xs.length ≤ 1048576) : Ev (fun k => laws_toAssetS.f k xs) (xs.map cv_Asset) := by
  simp only [laws_toAssetS.f]
  refine evPos (by omega) ?_
  refine evPos (by omega) ?_
  exact toAssetS_l0 xs hn xs [] _ 0 rfl rfl ⟨List.replicate xs.length z51, by simp, by simp⟩
theorem szAssetS_eq (xs : List S68) (h : xs.length ≤ 9223372036854775807) : laws_szAssetS.f xs 1048576 = some (if xs.length ≤ 1048576 then 1048576 - (xs.length : Int) else -1) := by
  simp only [laws_szAssetS.f]
  rw [wrapId (by omega)]
  by_cases c : xs.length ≤ 1048576
  · rw [if_neg (by omega), if_pos c]
  · rw [if_pos (by omega), if_neg c]


theorem eqAssetS_l0 (xs : List S51) (hn : xs.length ≤ 9223372036854775806) : ∀ (rest pre : List S51) (i : Int), xs = pre ++ rest → i = pre.length → Ev (fun k => laws_eqAssetS.l0 k xs xs i) true := by
  intro rest
  induction rest with
  | nil =>
    intro pre i h hi
    have hl := len_nil h
    refine evSucc ?_
    simp only [laws_eqAssetS.l0]
    refine evNeg (by omega) ?_
    exact evSome rfl
  | cons a t ih =>
    intro pre i h hi
    have hl := len_cons h
    refine evSucc ?_
    simp only [laws_eqAssetS.l0]
    refine evPos (by omega) ?_
    refine evPos (by omega) ?_
    refine evPos (by omega) ?_
    refine evBindS (a := true) (by simp [laws_eqAsset.f]) ?_
    refine evPos (by trivial) ?_
    exact ih (pre ++ [a]) _ (snoc h) (by rw [wrapId (by omega), len_snoc]; omega)
theorem eqAssetS_ev (xs : List S51) (hn : xs.length ≤ 9223372036854775806) : Ev (fun k => laws_eqAssetS.f k xs xs) true := by
  simp only [laws_eqAssetS.f]
  exact evPos (by trivial) (eqAssetS_l0 xs hn xs [] 0 rfl rfl)


def upS_Asset : Nat → Int → List S51
  | 0, _ => []
  | c + 1, m => ⟨m, m + 1, m + 2⟩ :: upS_Asset c (m + 3)
theorem upS_Asset_length : ∀ (c : Nat) (m : Int), (upS_Asset c m).length = c
  | 0, _ => rfl
  | c + 1, m => by simp [upS_Asset, upS_Asset_length c]
theorem markAssetS_l0 : ∀ (rest pre : List S51) (xs : List S51) (m i : Int), xs = pre ++ rest → i = pre.length → 0 ≤ m → m + 3 * rest.length ≤ 9223372036854775807 → pre.length + rest.length ≤ 9223372036854775806 →
    Ev (fun k => laws_markAssetS.l0 k xs m i) (m + 3 * rest.length, pre ++ upS_Asset rest.length m) := by
  intro rest
  induction rest with
  | nil =>
    intro pre xs m i h hi h0 h1 h2
    have hl := len_nil h
    refine evSucc ?_
    simp only [laws_markAssetS.l0]
    refine evNeg (by omega) ?_
    exact evSome (by simp [h, upS_Asset])
  | cons a t ih =>
    intro pre xs m i h hi h0 h1 h2
    have hl := len_cons h
    subst h
    simp only [List.length_cons] at h1 h2
    have hrd : ∀ b : S51, rd_T51 (pre ++ b :: t) i = b := fun b => rd_T51_at rfl hi
    have hset : ∀ b c : S51, (pre ++ b :: t).set i.toNat c = pre ++ c :: t := fun b c => set_at rfl hi
    have w1 : wrap64 (m + 1) = m + 1 := (wrapId (by omega)).trans (by omega)
    have w2 : wrap64 (m + 1 + 1) = m + 2 := (wrapId (by omega)).trans (by omega)
    have w3 : wrap64 (m + 2 + 1) = m + 3 := (wrapId (by omega)).trans (by omega)
    refine evSucc ?_
    simp only [laws_markAssetS.l0, Option.bind_some, hrd, hset, w1, w2, w3]
    refine evPos (by omega) ?_
    refine evPos (by omega) ?_
    refine evEq (ih (pre ++ [⟨m, m + 1, m + 2⟩]) _ (m + 3) _ (by simp) ?_ ?_ ?_ ?_) ?_
    · rw [wrapId (by omega), len_snoc]; omega
    · omega
    · omega
    · simp; omega
    · simp [upS_Asset]; omega
theorem markAssetS_ev (xs : List S51) (m : Int) (h0 : 0 ≤ m) (h1 : m + 3 * xs.length ≤ 9223372036854775807) (h2 : xs.length ≤ 9223372036854775806) : Ev (fun k => laws_markAssetS.f k xs m) (m + 3 * xs.length, upS_Asset xs.length m) := by
  simp only [laws_markAssetS.f]
  exact evEq (markAssetS_l0 xs [] xs m 0 rfl rfl h0 h1 (by simpa using h2)) (by simp)


theorem toIntS_l0 (xs : List Int) (hn : xs.length ≤ 1048576) : ∀ (rest pre : List Int) (cur : List Int) (i : Int), xs = pre ++ rest → i = pre.length → (∃ tl : List Int, tl.length = rest.length ∧ cur = pre ++ tl) →
    Ev (fun k => laws_toIntS.l0 k xs cur i) xs := by
  intro rest
  induction rest with
  | nil =>
    intro pre cur i h hi hc
    obtain ⟨tl, ht, rfl⟩ := hc
    have hl := len_nil h
    refine evSucc ?_
    simp only [laws_toIntS.l0]
    refine evNeg (by omega) ?_
    refine evSome ?_
    have : tl = [] := List.length_eq_zero_iff.mp ht
    subst this
    rw [h]
  | cons a t ih =>
    intro pre cur i h hi hc
    obtain ⟨tl, ht, hcur⟩ := hc
    have hl := len_cons h
    obtain ⟨b, tl, rfl⟩ : ∃ b tl', tl = b :: tl' := by
      cases tl with
      | nil => simp at ht
      | cons b tl => exact ⟨b, tl, rfl⟩
    have hcl := len_cons hcur
    refine evSucc ?_
    simp only [laws_toIntS.l0]
    refine evPos (by omega) ?_
    refine evPos (by omega) ?_
    simp only [rd_at h hi]
    refine evPos (by omega) ?_
    refine ih (pre ++ [a]) _ _ (snoc h) ?_ ⟨tl, by simpa using ht, ?_⟩
    · rw [wrapId (by omega), len_snoc]; omega
    · rw [set_at hcur hi]; simp
theorem toIntS_ev (xs : List Int) (hn : xs.length ≤ 1048576) : Ev (fun k => laws_toIntS.f k xs) xs := by
  simp only [laws_toIntS.f]
  refine evPos (by omega) ?_
  refine evPos (by omega) ?_
  exact toIntS_l0 xs hn xs [] _ 0 rfl rfl ⟨List.replicate xs.length 0, by simp, by simp⟩


theorem eqIntS_l0 (xs : List Int) (hn : xs.length ≤ 9223372036854775806) : ∀ (rest pre : List Int) (i : Int), xs = pre ++ rest → i = pre.length → Ev (fun k => laws_eqIntS.l0 k xs xs i) true := by
  intro rest
  induction rest with
  | nil =>
    intro pre i h hi
    have hl := len_nil h
    refine evSucc ?_
    simp only [laws_eqIntS.l0]
    refine evNeg (by omega) ?_
    exact evSome rfl
  | cons a t ih =>
    intro pre i h hi
    have hl := len_cons h
    refine evSucc ?_
    simp only [laws_eqIntS.l0]
    refine evPos (by omega) ?_
    refine evPos (by omega) ?_
    refine evPos (by omega) ?_
    refine evPos (by trivial) ?_
    exact ih (pre ++ [a]) _ (snoc h) (by rw [wrapId (by omega), len_snoc]; omega)
theorem eqIntS_ev (xs : List Int) (hn : xs.length ≤ 9223372036854775806) : Ev (fun k => laws_eqIntS.f k xs xs) true := by
  simp only [laws_eqIntS.f]
  exact evPos (by trivial) (eqIntS_l0 xs hn xs [] 0 rfl rfl)


theorem vInts_l0 (xs : List Int) (hn : xs.length ≤ 9223372036854775806) : ∀ (rest pre : List Int) (i : Int), xs = pre ++ rest → i = pre.length → Ev (fun k => laws_vInts.l0 k xs xs i) true := by
  intro rest
  induction rest with
  | nil =>
    intro pre i h hi
    have hl := len_nil h
    refine evSucc ?_
    simp only [laws_vInts.l0]
    refine evNeg (by omega) ?_
    exact evSome rfl
  | cons a t ih =>
    intro pre i h hi
    have hl := len_cons h
    refine evSucc ?_
    simp only [laws_vInts.l0]
    refine evPos (by omega) ?_
    refine evPos (by omega) ?_
    refine evPos (by omega) ?_
    refine evPos (by trivial) ?_
    exact ih (pre ++ [a]) _ (snoc h) (by rw [wrapId (by omega), len_snoc]; omega)
theorem vInts_ev (xs : List Int) (hn : xs.length ≤ 9223372036854775806) : Ev (fun k => laws_vInts.f k xs xs) true := by
  simp only [laws_vInts.f]
  exact evPos (by trivial) (vInts_l0 xs hn xs [] 0 rfl rfl)


def upFrom : Nat → Int → List Int
  | 0, _ => []
  | n + 1, m => m :: upFrom n (m + 1)
theorem upFrom_length : ∀ (n : Nat) (m : Int), (upFrom n m).length = n
  | 0, _ => rfl
  | n + 1, m => by simp [upFrom, upFrom_length n]
theorem markIntS_l0 : ∀ (rest pre : List Int) (xs : List Int) (m i : Int), xs = pre ++ rest → i = pre.length → 0 ≤ m → m + rest.length ≤ 9223372036854775807 → pre.length + rest.length ≤ 9223372036854775806 →
    Ev (fun k => laws_markIntS.l0 k xs m i) (m + rest.length, pre ++ upFrom rest.length m) := by
  intro rest
  induction rest with
  | nil =>
    intro pre xs m i h hi h0 h1 h2
    have hl := len_nil h
    refine evSucc ?_
    simp only [laws_markIntS.l0]
    refine evNeg (by omega) ?_
    exact evSome (by simp [h, upFrom])
  | cons a t ih =>
    intro pre xs m i h hi h0 h1 h2
    have hl := len_cons h
    simp only [List.length_cons] at h1 h2
    refine evSucc ?_
    simp only [laws_markIntS.l0]
    refine evPos (by omega) ?_
    refine evPos (by omega) ?_
    refine evEq (ih (pre ++ [m]) _ (wrap64 (m + 1)) _ ?_ ?_ ?_ ?_ ?_) ?_
    · rw [set_at h hi]; simp
    · rw [wrapId (by omega), len_snoc]; omega
    · rw [wrapId (by omega)]; omega
    · rw [wrapId (by omega)]; omega
    · simp; omega
    · rw [wrapId (by omega)]; simp [upFrom]; omega
theorem markIntS_ev (xs : List Int) (m : Int) (h0 : 0 ≤ m) (h1 : m + xs.length ≤ 9223372036854775807) (h2 : xs.length ≤ 9223372036854775806) : Ev (fun k => laws_markIntS.f k xs m) (m + xs.length, upFrom xs.length m) := by
  simp only [laws_markIntS.f]
  exact evEq (markIntS_l0 xs [] xs m 0 rfl rfl h0 h1 (by simpa using h2)) (by simp)


theorem heldIntS_l0 : ∀ (n : Nat) (pre : List Int) (xs : List Int) (m i : Int), xs = pre ++ upFrom n m → i = pre.length → 0 ≤ m → m + n ≤ 9223372036854775807 → pre.length + n ≤ 9223372036854775806 →
    Ev (fun k => laws_heldIntS.l0 k xs m i) (m + n) := by
  intro n
  induction n with
  | zero =>
    intro pre xs m i h hi h0 h1 h2
    have hl := len_nil h
    refine evSucc ?_
    simp only [laws_heldIntS.l0]
    refine evNeg (by omega) ?_
    exact evSome (by simp)
  | succ n ih =>
    intro pre xs m i h hi h0 h1 h2
    have h' : xs = pre ++ m :: upFrom n (m + 1) := h
    have hl := len_cons h'
    rw [upFrom_length] at hl
    refine evSucc ?_
    simp only [laws_heldIntS.l0, rd_at h' hi]
    refine evPos (by omega) ?_
    refine evPos (by omega) ?_
    refine evPos (by trivial) ?_
    refine evEq (ih (pre ++ [m]) _ (wrap64 (m + 1)) _ ?_ ?_ ?_ ?_ ?_) ?_
    · rw [wrapId (by omega)]; exact snoc h'
    · rw [wrapId (by omega), len_snoc]; omega
    · rw [wrapId (by omega)]; omega
    · rw [wrapId (by omega)]; omega
    · simp; omega
    · rw [wrapId (by omega)]; omega
theorem heldIntS_ev (n : Nat) (m : Int) (h0 : 0 ≤ m) (h1 : m + n ≤ 9223372036854775807) (h2 : n ≤ 9223372036854775806) : Ev (fun k => laws_heldIntS.f k (upFrom n m) m) (m + n) := by
  simp only [laws_heldIntS.f]
  exact heldIntS_l0 n [] _ m 0 rfl rfl h0 h1 (by simpa using h2)

theorem within_eq (a b c : Int) : impl_within.f a b c = some (decide (b ≤ a ∧ a ≤ c)) := by
  unfold impl_within.f
  by_cases h : a ≥ b
  · rw [if_pos h]; exact congrArg some (decide_eq_decide.mpr ⟨fun g => ⟨h, g⟩, fun g => g.2⟩)
  · rw [if_neg h]; exact congrArg some (decide_eq_false (fun g => h g.1)).symm
theorem l1In_eq (a b c : Int) : spec_l1In.f a b c = some (decide (b ≤ a ∧ a ≤ c)) := by
  unfold spec_l1In.f
  by_cases h : a ≥ b
  · rw [if_pos h]; exact congrArg some (decide_eq_decide.mpr ⟨fun g => ⟨h, g⟩, fun g => g.2⟩)
  · rw [if_neg h]; exact congrArg some (decide_eq_false (fun g => h g.1)).symm

theorem isAmount_eq (a : Int) : impl_isAmount.f a = some (decide (-1000000000 ≤ a ∧ a ≤ 1000000000)) := by
  unfold impl_isAmount.f; rw [within_eq]; rfl

def okA (a : S51) : Prop := (0 ≤ a.f0 ∧ a.f0 ≤ 9) ∧ (0 ≤ a.f1 ∧ a.f1 ≤ 1000000000) ∧ (0 ≤ a.f2 ∧ a.f2 ≤ 1000)
instance (a : S51) : Decidable (okA a) := by unfold okA; infer_instance
def sumA : List S51 → Int
  | [] => 0
  | a :: t => a.f1 + sumA t
theorem sumA_snoc (p : List S51) (a : S51) : sumA (p ++ [a]) = sumA p + a.f1 := by
  induction p with
  | nil => simp [sumA]
  | cons b t ih => simp only [List.cons_append, sumA, ih]; omega
theorem sumA_bd (p : List S51) (h : ∀ a ∈ p, okA a) : 0 ≤ sumA p ∧ sumA p ≤ 1000000000 * p.length := by
  induction p with
  | nil => simp [sumA]
  | cons b t ih =>
    have h1 := ih (fun a ha => h a (List.mem_cons_of_mem _ ha))
    have h2 := (h b List.mem_cons_self).2.1
    simp only [sumA, List.length_cons]
    omega
def goodA (xs : List S51) : Bool := decide ((∀ a ∈ xs, okA a) ∧ xs.length ≤ 20 ∧ sumA xs ≤ 1000000000)
theorem okA_snoc {pre : List S51} {a : S51} (hok : ∀ b ∈ pre, okA b) (ha : okA a) : ∀ b ∈ pre ++ [a], okA b := by
  intro b hb
  rcases List.mem_append.mp hb with g | g
  · exact hok b g
  · rw [List.mem_singleton.mp g]; exact ha
theorem implValid_l0 (xs : List S51) (hn : xs.length ≤ 1048576) : ∀ (rest pre : List S51) (i : Int), xs = pre ++ rest → i = pre.length → (∀ a ∈ pre, okA a) → Ev (fun k => impl_IsValidAssets.l0 k xs (sumA pre) xs (xs.length : Int) i) (goodA xs) := by
  intro rest
  induction rest with
  | nil =>
    intro pre i h hi hok
    have hl := len_nil h
    have hx : xs = pre := by simpa using h
    have hb := sumA_bd pre hok
    refine evSucc ?_
    simp only [impl_IsValidAssets.l0, isAmount_eq, Option.bind_some]
    refine evNeg (by omega) ?_
    by_cases c : xs.length ≤ 20
    · refine evPos (by omega) ?_
      refine evSome ?_
      unfold goodA
      rw [decide_eq_decide, hx]
      exact ⟨fun g => ⟨hok, by rw [← hx]; exact c, g.2⟩, fun g => ⟨by omega, g.2.2⟩⟩
    · refine evNeg (by omega) ?_
      exact evSome (decide_eq_false (fun g => c g.2.1)).symm
  | cons a t ih =>
    intro pre i h hi hok
    have hl := len_cons h
    have hb := sumA_bd pre hok
    have ha : a ∈ xs := by rw [h]; simp
    refine evSucc ?_
    simp only [impl_IsValidAssets.l0, within_eq, Option.bind_some, decide_eq_true_eq, rd_T51_at h hi]
    refine evPos (by omega) ?_
    refine evPos (by omega) ?_
    refine evPos (by omega) ?_
    have bad : ¬ okA a → false = goodA xs := fun n => (decide_eq_false (fun g => n (g.1 a ha))).symm
    refine evIte (fun c1 => ?_) (fun c1 => evSome (bad (fun g => c1 g.1)))
    refine evIte (fun c2 => ?_) (fun c2 => evSome (bad (fun g => c2 g.2.1)))
    refine evIte (fun c3 => ?_) (fun c3 => evSome (bad (fun g => c3 g.2.2)))
    have e : wrap64 (sumA pre + a.f1) = sumA (pre ++ [a]) := by rw [sumA_snoc, wrapId (by omega)]
    rw [e]
    exact ih (pre ++ [a]) _ (snoc h) (by rw [wrapId (by omega), len_snoc]; omega) (okA_snoc hok ⟨c1, c2, c3⟩)
theorem implValid_ev (xs : List S51) (hn : xs.length ≤ 1048576) : Ev (fun k => impl_IsValidAssets.f k xs) (goodA xs) := by
  simp only [impl_IsValidAssets.f]
  exact implValid_l0 xs hn xs [] 0 rfl rfl (by simp)
theorem specGood_l0 (xs : List S51) (hn : xs.length ≤ 1048576) : ∀ (rest pre : List S51) (i : Int), xs = pre ++ rest → i = pre.length → (∀ a ∈ pre, okA a) → Ev (fun k => spec_l17Good.l0 k xs (sumA pre) i) (goodA xs) := by
  intro rest
  induction rest with
  | nil =>
    intro pre i h hi hok
    have hl := len_nil h
    have hx : xs = pre := by simpa using h
    refine evSucc ?_
    simp only [spec_l17Good.l0]
    refine evNeg (by omega) ?_
    refine evSucc ?_
    simp only [spec_l17Good.j1]
    refine evNeg (by simp) ?_
    by_cases c : xs.length ≤ 20
    · refine evPos (by omega) ?_
      refine evSome ?_
      unfold goodA
      rw [decide_eq_decide, hx]
      exact ⟨fun g => ⟨hok, by rw [← hx]; exact c, g⟩, fun g => g.2.2⟩
    · refine evNeg (by omega) ?_
      exact evSome (decide_eq_false (fun g => c g.2.1)).symm
  | cons a t ih =>
    intro pre i h hi hok
    have hl := len_cons h
    have hb := sumA_bd pre hok
    have ha : a ∈ xs := by rw [h]; simp
    refine evSucc ?_
    simp only [spec_l17Good.l0]
    refine evPos (by omega) ?_
    refine evSucc ?_
    simp only [spec_l17Good.j1, l1In_eq, Option.bind_some, decide_eq_true_eq, rd_T51_at h hi]
    refine evIte (fun c0 => ?_) (fun c0 => ?_)
    · refine evPos (by omega) ?_
      refine evPos (by omega) ?_
      have bad : ¬ okA a → false = goodA xs := fun n => (decide_eq_false (fun g => n (g.1 a ha))).symm
      refine evIte (fun c1 => ?_) (fun c1 => evSome (bad (fun g => c1 g.1)))
      refine evIte (fun c2 => ?_) (fun c2 => evSome (bad (fun g => c2 g.2.1)))
      refine evIte (fun c3 => ?_) (fun c3 => evSome (bad (fun g => c3 g.2.2)))
      have e : wrap64 (sumA pre + a.f1) = sumA (pre ++ [a]) := by rw [sumA_snoc, wrapId (by omega)]
      rw [e]
      exact ih (pre ++ [a]) _ (snoc h) (by rw [wrapId (by omega), len_snoc]; omega) (okA_snoc hok ⟨c1, c2, c3⟩)
    · refine evNeg (by omega) ?_
      exact evSome (decide_eq_false (fun g => by omega)).symm
theorem specGood_ev (xs : List S51) (hn : xs.length ≤ 1048576) : Ev (fun k => spec_l17Good.f k xs) (goodA xs) := by
  simp only [spec_l17Good.f]
  exact specGood_l0 xs hn xs [] 0 rfl rfl (by simp)

def sumI : List Int → Int
  | [] => 0
  | a :: t => a + sumI t
def sumWI : Int → List Int → Int
  | s, [] => s
  | s, a :: t => sumWI (wrap64 (s + a)) t
theorem implSumOf_l0 (xs : List Int) (hn : xs.length ≤ 9223372036854775806) : ∀ (rest pre : List Int) (s i : Int), xs = pre ++ rest → i = pre.length → Ev (fun k => impl_sumOf.l0 k s xs (xs.length : Int) i) (sumWI s rest) := by
  intro rest
  induction rest with
  | nil =>
    intro pre s i h hi
    have hl := len_nil h
    refine evSucc ?_
    simp only [impl_sumOf.l0]
    refine evNeg (by omega) ?_
    exact evSome rfl
  | cons a t ih =>
    intro pre s i h hi
    have hl := len_cons h
    refine evSucc ?_
    simp only [impl_sumOf.l0, rd_at h hi]
    refine evPos (by omega) ?_
    refine evPos (by omega) ?_
    refine evPos (by omega) ?_
    exact ih (pre ++ [a]) _ _ (snoc h) (by rw [wrapId (by omega), len_snoc]; omega)
theorem implSumOf_ev (xs : List Int) (hn : xs.length ≤ 9223372036854775806) : Ev (fun k => impl_sumOf.f k xs) (sumWI 0 xs) := by
  simp only [impl_sumOf.f]
  exact implSumOf_l0 xs hn xs [] 0 0 rfl rfl
/-- Without a wrap where all parts are at least 0 and the whole is small. -/
theorem sumI_nonneg (xs : List Int) (h : ∀ x ∈ xs, 0 ≤ x) : 0 ≤ sumI xs := by
  induction xs with
  | nil => simp [sumI]
  | cons a t ih =>
    have h1 := h a List.mem_cons_self
    have h2 := ih (fun x hx => h x (List.mem_cons_of_mem _ hx))
    simp only [sumI]; omega
theorem sumWI_eq : ∀ (xs : List Int) (s : Int), (∀ x ∈ xs, 0 ≤ x) → 0 ≤ s → s + sumI xs ≤ 9223372036854775807 → sumWI s xs = s + sumI xs
  | [], s, _, _, _ => by simp [sumWI, sumI]
  | a :: t, s, h, h0, h1 => by
    have ha := h a List.mem_cons_self
    have ht : ∀ x ∈ t, 0 ≤ x := fun x hx => h x (List.mem_cons_of_mem _ hx)
    have hs := sumI_nonneg t ht
    simp only [sumI] at h1
    simp only [sumWI, sumI]
    rw [wrapId (by omega), sumWI_eq t (s + a) ht (by omega) (by omega)]
    omega

theorem rSum_l0 (xs : List Int) (hn : xs.length ≤ 1048576) : ∀ (rest pre : List Int) (s i : Int), xs = pre ++ rest → i = pre.length → Ev (fun k => laws_rSum.l0 k xs s i) (sumWI s rest) := by
  intro rest
  induction rest with
  | nil =>
    intro pre s i h hi
    have hl := len_nil h
    refine evSucc ?_
    simp only [laws_rSum.l0]
    refine evNeg (by omega) ?_
    exact evSome rfl
  | cons a t ih =>
    intro pre s i h hi
    have hl := len_cons h
    refine evSucc ?_
    simp only [laws_rSum.l0, rd_at h hi]
    refine evPos (by omega) ?_
    refine evPos (by omega) ?_
    exact ih (pre ++ [a]) _ _ (snoc h) (by rw [wrapId (by omega), len_snoc]; omega)
theorem rSum_ev (xs : List Int) (hn : xs.length ≤ 1048576) (h0 : ∀ x ∈ xs, 0 ≤ x) (h1 : sumI xs ≤ 9223372036854775807) : Ev (fun k => laws_rSum.f k xs) (sumI xs) := by
  simp only [laws_rSum.f]
  refine evEq (rSum_l0 xs hn xs [] 0 0 rfl rfl) ?_
  rw [sumWI_eq xs 0 h0 (by omega) (by omega)]; omega

def max0 (x : Int) : Int := if 0 < x then x else 0
theorem max0_bd (x : Int) : 0 ≤ max0 x ∧ (x ≤ 1000000000 → max0 x ≤ 1000000000) ∧ (max0 x ≤ 1000000000 → x ≤ 1000000000) := by unfold max0; split <;> omega

def addK (out : List Int) (a : S51) : List Int := out.set a.f0.toNat (rd out a.f0 + a.f1)
def foldK : List Int → List S51 → List Int
  | out, [] => out
  | out, a :: t => foldK (addK out a) t
/-- What holds of the sums by kind after some assets: ten numbers, none negative, that add up to s. -/
def isSums (out : List Int) (s : Int) : Prop := out.length = 10 ∧ (∀ x ∈ out, 0 ≤ x) ∧ sumI out = s
theorem sumI_set : ∀ (xs : List Int) (j : Nat) (v : Int), j < xs.length → sumI (xs.set j v) = sumI xs - xs.getD j 0 + v
  | [], j, v, h => by simp at h
  | a :: t, 0, v, h => by simp only [List.set_cons_zero, sumI, List.getD_cons_zero]; omega
  | a :: t, j + 1, v, h => by
    simp only [List.set_cons_succ, sumI, List.getD_cons_succ]
    rw [sumI_set t j v (by simpa using h)]; omega
theorem getD_le_sumI : ∀ (xs : List Int) (j : Nat), (∀ x ∈ xs, 0 ≤ x) → 0 ≤ xs.getD j 0 ∧ xs.getD j 0 ≤ sumI xs
  | [], j, h => by simp [sumI]
  | a :: t, 0, h => by
    have h1 := h a List.mem_cons_self
    have h2 := sumI_nonneg t (fun x hx => h x (List.mem_cons_of_mem _ hx))
    simp [sumI]; omega
  | a :: t, j + 1, h => by
    have h1 := h a List.mem_cons_self
    have h2 := getD_le_sumI t j (fun x hx => h x (List.mem_cons_of_mem _ hx))
    simp only [List.getD_cons_succ, sumI]; omega
theorem isSums_add {out : List Int} {s : Int} (h : isSums out s) {a : S51} (ha : okA a) : isSums (addK out a) (s + a.f1) ∧ (0 ≤ rd out a.f0 ∧ rd out a.f0 ≤ s) := by
  obtain ⟨h1, h2, h3⟩ := h
  have hb : 0 ≤ rd out a.f0 ∧ rd out a.f0 ≤ sumI out := getD_le_sumI out a.f0.toNat h2
  have := ha.1; have := ha.2.1
  have hj : a.f0.toNat < out.length := by omega
  refine ⟨⟨by simp [addK, h1], fun x hx => ?_, ?_⟩, by omega⟩
  · rcases List.mem_or_eq_of_mem_set hx with g | g
    · exact h2 x g
    · omega
  · unfold addK
    rw [sumI_set out _ _ hj]
    show sumI out - rd out a.f0 + (rd out a.f0 + a.f1) = _
    omega
def capK (allowed : Int) (x : Int) : Int := max0 (wrap64 (x - allowed))
def excessA (xs : List S51) (limit : Int) : List Int × Bool :=
  if goodA xs = true ∧ 0 ≤ limit ∧ limit ≤ 1000 then
    ((foldK (List.replicate 10 0) xs).map (capK (wrap64 (Int.tdiv (wrap64 (sumA xs * limit)) 1000))), true)
  else ([], false)
theorem sumA_nonneg_of (xs : List S51) (h : ∀ a ∈ xs, okA a) : 0 ≤ sumA xs := (sumA_bd xs h).1
theorem foldK_length : ∀ (xs : List S51) (out : List Int), (foldK out xs).length = out.length
  | [], _ => rfl
  | a :: t, out => by rw [foldK, foldK_length t]; simp [addK]
theorem excessA_length (xs : List S51) (limit : Int) : (excessA xs limit).1.length ≤ 10 := by
  unfold excessA; split
  · simp [foldK_length]
  · simp

theorem capK_eq {al x : Int} (h : 0 ≤ al ∧ al ≤ 1000000000) (hx : 0 ≤ x ∧ x ≤ 1000000000) : capK al x = max0 (x - al) := by
  unfold capK; rw [wrapId (by omega)]
theorem sumI_cap_le {al : Int} (h : 0 ≤ al ∧ al ≤ 1000000000) : ∀ l : List Int, (∀ x ∈ l, 0 ≤ x ∧ x ≤ 1000000000) → 0 ≤ sumI (l.map (capK al)) ∧ sumI (l.map (capK al)) ≤ sumI l
  | [], _ => by simp [sumI]
  | a :: t, g => by
    have h1 := g a List.mem_cons_self
    have h2 := sumI_cap_le h t (fun x hx => g x (List.mem_cons_of_mem _ hx))
    simp only [List.map_cons, sumI, capK_eq h h1, max0]
    split <;> omega
theorem sumI_cap_zero : ∀ l : List Int, (∀ x ∈ l, 0 ≤ x ∧ x ≤ 1000000000) → sumI (l.map (capK 0)) = sumI l
  | [], _ => by simp [sumI]
  | a :: t, g => by
    have h1 := g a List.mem_cons_self
    have h2 := sumI_cap_zero t (fun x hx => g x (List.mem_cons_of_mem _ hx))
    simp only [List.map_cons, sumI, capK_eq (al := 0) (by omega) h1, max0]
    split <;> omega
theorem sumI_cap_top {s : Int} (hs : 0 ≤ s ∧ s ≤ 1000000000) : ∀ l : List Int, (∀ x ∈ l, 0 ≤ x ∧ x ≤ s) → sumI (l.map (capK s)) = 0
  | [], _ => by simp [sumI]
  | a :: t, g => by
    have h1 := g a List.mem_cons_self
    have h2 := sumI_cap_top hs t (fun x hx => g x (List.mem_cons_of_mem _ hx))
    simp only [List.map_cons, sumI, capK_eq hs (show 0 ≤ a ∧ a ≤ 1000000000 by omega), max0]
    split <;> omega
theorem isSums_fold : ∀ (xs : List S51) (out : List Int) (s : Int), isSums out s → (∀ a ∈ xs, okA a) → isSums (foldK out xs) (s + sumA xs)
  | [], out, s, h, _ => by simpa [foldK, sumA] using h
  | a :: t, out, s, h, g => by
    have h1 := (isSums_add h (g a List.mem_cons_self)).1
    have h2 := isSums_fold t _ _ h1 (fun x hx => g x (List.mem_cons_of_mem _ hx))
    rw [foldK]
    have e : s + sumA (a :: t) = s + a.f1 + sumA t := by simp only [sumA]; omega
    rw [e]; exact h2
theorem conc_facts {xs : List S51} {l : Int} (h : (excessA xs l).2 = true) : goodA xs = true ∧ (0 ≤ l ∧ l ≤ 1000) ∧ (0 ≤ sumA xs ∧ sumA xs ≤ 1000000000) ∧ (excessA xs 0).2 = true ∧ (excessA xs 1000).2 = true ∧ sumI (excessA xs l).1 ≤ sumA xs ∧ sumI (excessA xs 0).1 = sumA xs ∧ sumI (excessA xs 1000).1 = 0 ∧ (∀ k, 0 ≤ k ∧ k ≤ 1000 → ∀ x ∈ (excessA xs k).1, 0 ≤ x ∧ x ≤ 1000000000) := by
  have g : goodA xs = true ∧ 0 ≤ l ∧ l ≤ 1000 := by
    unfold excessA at h; split at h
    · assumption
    · cases h
  obtain ⟨g1, g2⟩ := g
  have gg := of_decide_eq_true g1
  have hb := sumA_bd xs gg.1
  have hi : isSums (foldK (List.replicate 10 0) xs) (0 + sumA xs) := isSums_fold xs _ _ ⟨by simp, (fun x hx => by rw [List.eq_of_mem_replicate hx]; decide), by decide⟩ gg.1
  rw [Int.zero_add] at hi
  obtain ⟨OUT, hO⟩ : ∃ O, O = foldK (List.replicate 10 0) xs := ⟨_, rfl⟩
  obtain ⟨S, hS⟩ : ∃ S, S = sumA xs := ⟨_, rfl⟩
  have hex : ∀ k, 0 ≤ k ∧ k ≤ 1000 → excessA xs k = (OUT.map (capK (S * k / 1000)), true) ∧ 0 ≤ S * k / 1000 ∧ S * k / 1000 ≤ S := by
    intro k hk
    have hs1 : 0 ≤ S ∧ S ≤ 1000000000 := by rw [hS]; exact ⟨hb.1, gg.2.2⟩
    have hm : 0 ≤ S * k ∧ S * k ≤ S * 1000 := ⟨Int.mul_nonneg hs1.1 hk.1, Int.mul_le_mul_of_nonneg_left hk.2 hs1.1⟩
    have hd : 0 ≤ S * k / 1000 ∧ S * k / 1000 ≤ S := by omega
    refine ⟨?_, hd⟩
    unfold excessA
    rw [if_pos ⟨g1, hk.1, hk.2⟩, ← hO, ← hS, wrapId (x := S * k) (by omega), Int.tdiv_eq_ediv_of_nonneg hm.1, wrapId (by omega)]
  rw [← hS] at hb hi ⊢
  rw [← hO] at hi
  have hs1 : 0 ≤ S ∧ S ≤ 1000000000 := ⟨hb.1, by rw [hS]; exact gg.2.2⟩
  have hx : ∀ x ∈ OUT, 0 ≤ x ∧ x ≤ S := by
    intro x hx
    refine ⟨hi.2.1 x hx, ?_⟩
    obtain ⟨j, hj, rfl⟩ := List.getElem_of_mem hx
    have h1 := (getD_le_sumI OUT j hi.2.1).2
    rw [hi.2.2, List.getD_eq_getElem?_getD, List.getElem?_eq_getElem hj] at h1
    exact h1
  have hx2 : ∀ x ∈ OUT, 0 ≤ x ∧ x ≤ 1000000000 := fun x h => by have := hx x h; omega
  obtain ⟨e0, e1, e2⟩ := hex l g2
  have z0 := (hex 0 (by omega)).1
  have z1 := (hex 1000 (by omega)).1
  rw [Int.mul_zero, Int.zero_ediv] at z0
  rw [Int.mul_ediv_cancel S (by decide)] at z1
  refine ⟨g1, g2, hs1, by rw [z0], by rw [z1], ?_, ?_, ?_, ?_⟩
  · rw [e0]
    have h := (sumI_cap_le (al := S * l / 1000) (by omega) OUT hx2).2
    rw [hi.2.2] at h
    exact h
  · rw [z0]; show sumI (OUT.map (capK 0)) = S; rw [sumI_cap_zero OUT hx2, hi.2.2]
  · rw [z1]; exact sumI_cap_top hs1 OUT hx
  · intro k hk x hxx
    obtain ⟨f0, f1, f2⟩ := hex k hk
    rw [f0] at hxx
    obtain ⟨y, hy, rfl⟩ := List.mem_map.mp hxx
    have := hx2 y hy
    rw [capK_eq (by omega) this, max0]
    split <;> omega

theorem excess_yes {xs : List S51} {l : Int} (g : goodA xs = true) (hl : 0 ≤ l ∧ l ≤ 1000) : ∃ OUT AL, OUT = foldK (List.replicate 10 0) xs ∧ AL = Int.tdiv (sumA xs * l) 1000 ∧ excessA xs l = (OUT.map (fun x => max0 (x - AL)), true) ∧ OUT.length = 10 ∧ (∀ x ∈ OUT, 0 ≤ x ∧ x ≤ 1000000000) ∧ sumI OUT = sumA xs ∧ (0 ≤ sumA xs ∧ sumA xs ≤ 1000000000) ∧ (0 ≤ sumA xs * l ∧ sumA xs * l ≤ 1000000000000) ∧ (0 ≤ AL ∧ AL ≤ 1000000000) := by
  have gg := of_decide_eq_true g
  have hb := sumA_bd xs gg.1
  have hi : isSums (foldK (List.replicate 10 0) xs) (0 + sumA xs) := isSums_fold xs _ _ ⟨by simp, (fun x hx => by rw [List.eq_of_mem_replicate hx]; decide), by decide⟩ gg.1
  rw [Int.zero_add] at hi
  have hs1 : 0 ≤ sumA xs ∧ sumA xs ≤ 1000000000 := ⟨hb.1, gg.2.2⟩
  have hm : 0 ≤ sumA xs * l ∧ sumA xs * l ≤ sumA xs * 1000 := ⟨Int.mul_nonneg hs1.1 hl.1, Int.mul_le_mul_of_nonneg_left hl.2 hs1.1⟩
  have hm2 : sumA xs * l ≤ 1000000000000 := by omega
  have ht : Int.tdiv (sumA xs * l) 1000 = (sumA xs * l) / 1000 := Int.tdiv_eq_ediv_of_nonneg hm.1
  have ha : 0 ≤ Int.tdiv (sumA xs * l) 1000 ∧ Int.tdiv (sumA xs * l) 1000 ≤ 1000000000 := by rw [ht]; omega
  have hx : ∀ x ∈ foldK (List.replicate 10 0) xs, 0 ≤ x ∧ x ≤ 1000000000 := by
    intro x hx
    refine ⟨hi.2.1 x hx, ?_⟩
    obtain ⟨j, hj, rfl⟩ := List.getElem_of_mem hx
    have h1 := (getD_le_sumI _ j hi.2.1).2
    rw [hi.2.2, List.getD_eq_getElem?_getD, List.getElem?_eq_getElem hj] at h1
    have h1 : (foldK (List.replicate 10 0) xs)[j] ≤ sumA xs := h1
    omega
  refine ⟨_, _, rfl, rfl, ?_, hi.1, hx, hi.2.2, hs1, ⟨hm.1, hm2⟩, ha⟩
  unfold excessA
  rw [if_pos ⟨g, hl.1, hl.2⟩, wrapId (x := sumA xs * l) (by omega), wrapId (x := Int.tdiv _ _) (by omega)]
  refine Prod.ext ?_ rfl
  refine List.map_congr_left (fun x h => ?_)
  exact capK_eq ha (hx x h)
theorem excess_no {xs : List S51} {l : Int} (h : ¬ (goodA xs = true ∧ 0 ≤ l ∧ l ≤ 1000)) : excessA xs l = ([], false) := if_neg h
theorem specMost0 (x : Int) : spec_l1Most.f x 0 = some (max0 x) := by
  unfold spec_l1Most.f max0
  split <;> first | rfl | (split <;> first | rfl | omega) | omega
end Go.Proofs.Ytiaakolalhdelaa.Pure
