/- The plain law of FnExactSelectAssets: the printed functions that it uses answer as plain Lean functions do. No other condition. -/
import Derived.Test.YtiaakolalhdelaaPL17Sx0
import Derived.Test.YtiaakolalhdelaaPL17Sx1
import Derived.Test.YtiaakolalhdelaaPL17Sx2
import Derived.Test.YtiaakolalhdelaaPL17Sx3
import Derived.Test.YtiaakolalhdelaaPL17Sx4
import Derived.Test.YtiaakolalhdelaaPL17Sx5
import Derived.Test.YtiaakolalhdelaaPL17Sx6
import Derived.Test.YtiaakolalhdelaaPL17Sx7
import Derived.Test.YtiaakolalhdelaaPL17Sx9
import Derived.Test.YtiaakolalhdelaaEvKit
import Derived.Test.YtiaakolalhdelaaKReads
namespace Go.Proofs.Ytiaakolalhdelaa.Pure
open Go.RowKit Go.Proofs.YtiaakolalhdelaaW.PrintWords Go.Proofs.YtiaakolalhdelaaW.PrintLast Go.Proofs.YtiaakolalhdelaaW.PrintMore Go.Proofs.Ytiaakolalhdelaa.PL17S Go.Proofs.Ytiaakolalhdelaa.EvKit
set_option linter.unusedVariables false
set_option linter.unusedSimpArgs false

theorem rd_T51_at {xs pre t : List S51} {a : S51} (h : xs = pre ++ a :: t) {i : Int} (hi : i = pre.length) : rd_T51 xs i = a := getD_at h hi


theorem rd_T68_at {xs pre t : List S68} {a : S68} (h : xs = pre ++ a :: t) {i : Int} (hi : i = pre.length) : rd_T68 xs i = a := getD_at h hi


def cv_Asset (x : S68) : S51 := ⟨x.f0, x.f1, x.f2⟩
theorem toAssetS_l0 (xs : List S68) (hn : xs.length ≤ 1048576) : ∀ (rest pre : List S68) (cur : List S51) (i : Int), xs = pre ++ rest → i = pre.length → (∃ tl : List S51, tl.length = rest.length ∧ cur = pre.map cv_Asset ++ tl) →
    Ev (fun k => laws_toAssetS.l0 k xs cur i) (xs.map cv_Asset) := by
  intro rest
  induction rest with
  | nil =>
    intro pre cur i h hi hc
    obtain ⟨tl, ht, rfl⟩ := hc
    have hl := len_nil h
    refine evSucc ?_
    simp only [laws_toAssetS.l0]
    refine evNeg (by omega) ?_
    refine evSome ?_
    have : tl = [] := List.length_eq_zero_iff.mp ht
    subst this
    rw [h]; simp
  | cons a t ih =>
    intro pre cur i h hi hc
    obtain ⟨tl, ht, hcur⟩ := hc
    have hl := len_cons h
    obtain ⟨b, tl, rfl⟩ : ∃ b tl', tl = b :: tl' := by
      cases tl with
      | nil => simp at ht
      | cons b tl => exact ⟨b, tl, rfl⟩
    have hcl := len_cons hcur
    simp at hcl
    refine evSucc ?_
    simp only [laws_toAssetS.l0]
    refine evPos (by omega) ?_
    refine evPos (by omega) ?_
    simp only [laws_toAsset.f, rd_T68_at h hi, Option.bind_some]
    refine evPos (by omega) ?_
    refine ih (pre ++ [a]) _ _ (snoc h) ?_ ⟨tl, by simpa using ht, ?_⟩
    · rw [wrapId (by omega), len_snoc]; omega
    · rw [set_at hcur (by simpa using hi)]; simp [cv_Asset]
theorem toAssetS_ev (xs : List S68) (hn : xs.length ≤ 1048576) : Ev (fun k => laws_toAssetS.f k xs) (xs.map cv_Asset) := by
  simp only [laws_toAssetS.f]
  refine evPos (by omega) ?_
  refine evPos (by omega) ?_
  exact toAssetS_l0 xs hn xs [] _ 0 rfl rfl ⟨List.replicate xs.length z51, by simp, by simp⟩
theorem szAssetS_eq (xs : List S68) (h : xs.length ≤ 9223372036854775807) : laws_szAssetS.f xs 1048576 = some (if xs.length ≤ 1048576 then 1048576 - (xs.length : Int) else -1) := by
  simp only [laws_szAssetS.f]
  rw [wrapId (by omega)]
  by_cases c : xs.length ≤ 1048576
  · rw [if_neg (by omega), if_pos c]
  · rw [if_pos (by omega), if_neg c]


theorem eqAssetS_l0 (xs : List S51) (hn : xs.length ≤ 9223372036854775806) : ∀ (rest pre : List S51) (i : Int), xs = pre ++ rest → i = pre.length → Ev (fun k => laws_eqAssetS.l0 k xs xs i) true := by
  intro rest
  induction rest with
  | nil =>
    intro pre i h hi
    have hl := len_nil h
    refine evSucc ?_
    simp only [laws_eqAssetS.l0]
    refine evNeg (by omega) ?_
    exact evSome rfl
  | cons a t ih =>
    intro pre i h hi
    have hl := len_cons h
    refine evSucc ?_
    simp only [laws_eqAssetS.l0]
    refine evPos (by omega) ?_
    refine evPos (by omega) ?_
    refine evPos (by omega) ?_
    refine evBindS (a := true) (by simp [laws_eqAsset.f]) ?_
    refine evPos (by trivial) ?_
    exact ih (pre ++ [a]) _ (snoc h) (by rw [wrapId (by omega), len_snoc]; omega)
theorem eqAssetS_ev (xs : List S51) (hn : xs.length ≤ 9223372036854775806) : Ev (fun k => laws_eqAssetS.f k xs xs) true := by
  simp only [laws_eqAssetS.f]
  exact evPos (by trivial) (eqAssetS_l0 xs hn xs [] 0 rfl rfl)


def upS_Asset : Nat → Int → List S51
  | 0, _ => []
  | c + 1, m => ⟨m, m + 1, m + 2⟩ :: upS_Asset c (m + 3)
theorem upS_Asset_length : ∀ (c : Nat) (m : Int), (upS_Asset c m).length = c
  | 0, _ => rfl
  | c + 1, m => by simp [upS_Asset, upS_Asset_length c]
theorem markAssetS_l0 : ∀ (rest pre : List S51) (xs : List S51) (m i : Int), xs = pre ++ rest → i = pre.length → 0 ≤ m → m + 3 * rest.length ≤ 9223372036854775807 → pre.length + rest.length ≤ 9223372036854775806 →
    Ev (fun k => laws_markAssetS.l0 k xs m i) (m + 3 * rest.length, pre ++ upS_Asset rest.length m) := by
  intro rest
  induction rest with
  | nil =>
    intro pre xs m i h hi h0 h1 h2
    have hl := len_nil h
    refine evSucc ?_
    simp only [laws_markAssetS.l0]
    refine evNeg (by omega) ?_
    exact evSome (by simp [h, upS_Asset])
  | cons a t ih =>
    intro pre xs m i h hi h0 h1 h2
    have hl := len_cons h
    subst h
    simp only [List.length_cons] at h1 h2
    have hrd : ∀ b : S51, rd_T51 (pre ++ b :: t) i = b := fun b => rd_T51_at rfl hi
    have hset : ∀ b c : S51, (pre ++ b :: t).set i.toNat c = pre ++ c :: t := fun b c => set_at rfl hi
    have w1 : wrap64 (m + 1) = m + 1 := (wrapId (by omega)).trans (by omega)
    have w2 : wrap64 (m + 1 + 1) = m + 2 := (wrapId (by omega)).trans (by omega)
    have w3 : wrap64 (m + 2 + 1) = m + 3 := (wrapId (by omega)).trans (by omega)
    refine evSucc ?_
    simp only [laws_markAssetS.l0, Option.bind_some, hrd, hset, w1, w2, w3]
    refine evPos (by omega) ?_
    refine evPos (by omega) ?_
    refine evEq (ih (pre ++ [⟨m, m + 1, m + 2⟩]) _ (m + 3) _ (by simp) ?_ ?_ ?_ ?_) ?_
    · rw [wrapId (by omega), len_snoc]; omega
    · omega
    · omega
    · simp; omega
    · simp [upS_Asset]; omega
theorem markAssetS_ev (xs : List S51) (m : Int) (h0 : 0 ≤ m) (h1 : m + 3 * xs.length ≤ 9223372036854775807) (h2 : xs.length ≤ 9223372036854775806) : Ev (fun k => laws_markAssetS.f k xs m) (m + 3 * xs.length, upS_Asset xs.length m) := by
  simp only [laws_markAssetS.f]
  exact evEq (markAssetS_l0 xs [] xs m 0 rfl rfl h0 h1 (by simpa using h2)) (by simp)


theorem eqIntS_l0 (xs : List Int) (hn : xs.length ≤ 9223372036854775806) : ∀ (rest pre : List Int) (i : Int), xs = pre ++ rest → i = pre.length → Ev (fun k => laws_eqIntS.l0 k xs xs i) true := by
  intro rest
  induction rest with
  | nil =>
    intro pre i h hi
    have hl := len_nil h
    refine evSucc ?_
    simp only [laws_eqIntS.l0]
    refine evNeg (by omega) ?_
    exact evSome rfl
  | cons a t ih =>
    intro pre i h hi
    have hl := len_cons h
    refine evSucc ?_
    simp only [laws_eqIntS.l0]
    refine evPos (by omega) ?_
    refine evPos (by omega) ?_
    refine evPos (by omega) ?_
    refine evPos (by trivial) ?_
    exact ih (pre ++ [a]) _ (snoc h) (by rw [wrapId (by omega), len_snoc]; omega)
theorem eqIntS_ev (xs : List Int) (hn : xs.length ≤ 9223372036854775806) : Ev (fun k => laws_eqIntS.f k xs xs) true := by
  simp only [laws_eqIntS.f]
  exact evPos (by trivial) (eqIntS_l0 xs hn xs [] 0 rfl rfl)


def upFrom : Nat → Int → List Int
  | 0, _ => []
  | n + 1, m => m :: upFrom n (m + 1)
theorem upFrom_length : ∀ (n : Nat) (m : Int), (upFrom n m).length = n
  | 0, _ => rfl
  | n + 1, m => by simp [upFrom, upFrom_length n]
theorem markIntS_l0 : ∀ (rest pre : List Int) (xs : List Int) (m i : Int), xs = pre ++ rest → i = pre.length → 0 ≤ m → m + rest.length ≤ 9223372036854775807 → pre.length + rest.length ≤ 9223372036854775806 →
    Ev (fun k => laws_markIntS.l0 k xs m i) (m + rest.length, pre ++ upFrom rest.length m) := by
  intro rest
  induction rest with
  | nil =>
    intro pre xs m i h hi h0 h1 h2
    have hl := len_nil h
    refine evSucc ?_
    simp only [laws_markIntS.l0]
    refine evNeg (by omega) ?_
    exact evSome (by simp [h, upFrom])
  | cons a t ih =>
    intro pre xs m i h hi h0 h1 h2
    have hl := len_cons h
    simp only [List.length_cons] at h1 h2
    refine evSucc ?_
    simp only [laws_markIntS.l0]
    refine evPos (by omega) ?_
    refine evPos (by omega) ?_
    refine evEq (ih (pre ++ [m]) _ (wrap64 (m + 1)) _ ?_ ?_ ?_ ?_ ?_) ?_
    · rw [set_at h hi]; simp
    · rw [wrapId (by omega), len_snoc]; omega
    · rw [wrapId (by omega)]; omega
    · rw [wrapId (by omega)]; omega
    · simp; omega
    · rw [wrapId (by omega)]; simp [upFrom]; omega
theorem markIntS_ev (xs : List Int) (m : Int) (h0 : 0 ≤ m) (h1 : m + xs.length ≤ 9223372036854775807) (h2 : xs.length ≤ 9223372036854775806) : Ev (fun k => laws_markIntS.f k xs m) (m + xs.length, upFrom xs.length m) := by
  simp only [laws_markIntS.f]
  exact evEq (markIntS_l0 xs [] xs m 0 rfl rfl h0 h1 (by simpa using h2)) (by simp)


theorem heldIntS_l0 : ∀ (n : Nat) (pre : List Int) (xs : List Int) (m i : Int), xs = pre ++ upFrom n m → i = pre.length → 0 ≤ m → m + n ≤ 9223372036854775807 → pre.length + n ≤ 9223372036854775806 →
    Ev (fun k => laws_heldIntS.l0 k xs m i) (m + n) := by
  intro n
  induction n with
  | zero =>
    intro pre xs m i h hi h0 h1 h2
    have hl := len_nil h
    refine evSucc ?_
    simp only [laws_heldIntS.l0]
    refine evNeg (by omega) ?_
    exact evSome (by simp)
  | succ n ih =>
    intro pre xs m i h hi h0 h1 h2
    have h' : xs = pre ++ m :: upFrom n (m + 1) := h
    have hl := len_cons h'
    rw [upFrom_length] at hl
    refine evSucc ?_
    simp only [laws_heldIntS.l0, rd_at h' hi]
    refine evPos (by omega) ?_
    refine evPos (by omega) ?_
    refine evPos (by trivial) ?_
    refine evEq (ih (pre ++ [m]) _ (wrap64 (m + 1)) _ ?_ ?_ ?_ ?_ ?_) ?_
    · rw [wrapId (by omega)]; exact snoc h'
    · rw [wrapId (by omega), len_snoc]; omega
    · rw [wrapId (by omega)]; omega
    · rw [wrapId (by omega)]; omega
    · simp; omega
    · rw [wrapId (by omega)]; omega
theorem heldIntS_ev (n : Nat) (m : Int) (h0 : 0 ≤ m) (h1 : m + n ≤ 9223372036854775807) (h2 : n ≤ 9223372036854775806) : Ev (fun k => laws_heldIntS.f k (upFrom n m) m) (m + n) := by
  simp only [laws_heldIntS.f]
  exact heldIntS_l0 n [] _ m 0 rfl rfl h0 h1 (by simpa using h2)

theorem within_eq (a b c : Int) : impl_within.f a b c = some (decide (b ≤ a ∧ a ≤ c)) := by
  unfold impl_within.f
  by_cases h : a ≥ b
  · rw [if_pos h]; exact congrArg some (decide_eq_decide.mpr ⟨fun g => ⟨h, g⟩, fun g => g.2⟩)
  · rw [if_neg h]; exact congrArg some (decide_eq_false (fun g => h g.1)).symm
theorem l1In_eq (a b c : Int) : spec_l1In.f a b c = some (decide (b ≤ a ∧ a ≤ c)) := by
  unfold spec_l1In.f
  by_cases h : a ≥ b
  · rw [if_pos h]; exact congrArg some (decide_eq_decide.mpr ⟨fun g => ⟨h, g⟩, fun g => g.2⟩)
  · rw [if_neg h]; exact congrArg some (decide_eq_false (fun g => h g.1)).symm

theorem isAmount_eq (a : Int) : impl_isAmount.f a = some (decide (-1000000000 ≤ a ∧ a ≤ 1000000000)) := by
  unfold impl_isAmount.f; rw [within_eq]; rfl

def okA (a : S51) : Prop := (0 ≤ a.f0 ∧ a.f0 ≤ 9) ∧ (0 ≤ a.f1 ∧ a.f1 ≤ 1000000000) ∧ (0 ≤ a.f2 ∧ a.f2 ≤ 1000)
instance (a : S51) : Decidable (okA a) := by unfold okA; infer_instance
def sumA : List S51 → Int
  | [] => 0
  | a :: t => a.f1 + sumA t
theorem sumA_snoc (p : List S51) (a : S51) : sumA (p ++ [a]) = sumA p + a.f1 := by
  induction p with
  | nil => simp [sumA]
  | cons b t ih => simp only [List.cons_append, sumA, ih]; omega
theorem sumA_bd (p : List S51) (h : ∀ a ∈ p, okA a) : 0 ≤ sumA p ∧ sumA p ≤ 1000000000 * p.length := by
  induction p with
  | nil => simp [sumA]
  | cons b t ih =>
    have h1 := ih (fun a ha => h a (List.mem_cons_of_mem _ ha))
    have h2 := (h b List.mem_cons_self).2.1
    simp only [sumA, List.length_cons]
    omega
def goodA (xs : List S51) : Bool := decide ((∀ a ∈ xs, okA a) ∧ xs.length ≤ 20 ∧ sumA xs ≤ 1000000000)
theorem okA_snoc {pre : List S51} {a : S51} (hok : ∀ b ∈ pre, okA b) (ha : okA a) : ∀ b ∈ pre ++ [a], okA b := by
  intro b hb
  rcases List.mem_append.mp hb with g | g
  · exact hok b g
  · rw [List.mem_singleton.mp g]; exact ha
theorem implValid_l0 (xs : List S51) (hn : xs.length ≤ 1048576) : ∀ (rest pre : List S51) (i : Int), xs = pre ++ rest → i = pre.length → (∀ a ∈ pre, okA a) → Ev (fun k => impl_IsValidAssets.l0 k xs (sumA pre) xs (xs.length : Int) i) (goodA xs) := by
  intro rest
  induction rest with
  | nil =>
    intro pre i h hi hok
    have hl := len_nil h
    have hx : xs = pre := by simpa using h
    have hb := sumA_bd pre hok
    refine evSucc ?_
    simp only [impl_IsValidAssets.l0, isAmount_eq, Option.bind_some]
    refine evNeg (by omega) ?_
    by_cases c : xs.length ≤ 20
    · refine evPos (by omega) ?_
      refine evSome ?_
      unfold goodA
      rw [decide_eq_decide, hx]
      exact ⟨fun g => ⟨hok, by rw [← hx]; exact c, g.2⟩, fun g => ⟨by omega, g.2.2⟩⟩
    · refine evNeg (by omega) ?_
      exact evSome (decide_eq_false (fun g => c g.2.1)).symm
  | cons a t ih =>
    intro pre i h hi hok
    have hl := len_cons h
    have hb := sumA_bd pre hok
    have ha : a ∈ xs := by rw [h]; simp
    refine evSucc ?_
    simp only [impl_IsValidAssets.l0, within_eq, Option.bind_some, decide_eq_true_eq, rd_T51_at h hi]
    refine evPos (by omega) ?_
    refine evPos (by omega) ?_
    refine evPos (by omega) ?_
    have bad : ¬ okA a → false = goodA xs := fun n => (decide_eq_false (fun g => n (g.1 a ha))).symm
    refine evIte (fun c1 => ?_) (fun c1 => evSome (bad (fun g => c1 g.1)))
    refine evIte (fun c2 => ?_) (fun c2 => evSome (bad (fun g => c2 g.2.1)))
    refine evIte (fun c3 => ?_) (fun c3 => evSome (bad (fun g => c3 g.2.2)))
    have e : wrap64 (sumA pre + a.f1) = sumA (pre ++ [a]) := by rw [sumA_snoc, wrapId (by omega)]
    rw [e]
    exact ih (pre ++ [a]) _ (snoc h) (by rw [wrapId (by omega), len_snoc]; omega) (okA_snoc hok ⟨c1, c2, c3⟩)
theorem implValid_ev (xs : List S51) (hn : xs.length ≤ 1048576) : Ev (fun k => impl_IsValidAssets.f k xs) (goodA xs) := by
  simp only [impl_IsValidAssets.f]
  exact implValid_l0 xs hn xs [] 0 rfl rfl (by simp)
theorem specGood_l0 (xs : List S51) (hn : xs.length ≤ 1048576) : ∀ (rest pre : List S51) (i : Int), xs = pre ++ rest → i = pre.length → (∀ a ∈ pre, okA a) → Ev (fun k => spec_l17Good.l0 k xs (sumA pre) i) (goodA xs) := by
  intro rest
  induction rest with
  | nil =>
    intro pre i h hi hok
    have hl := len_nil h
    have hx : xs = pre := by simpa using h
    refine evSucc ?_
    simp only [spec_l17Good.l0]
    refine evNeg (by omega) ?_
    refine evSucc ?_
    simp only [spec_l17Good.j1]
    refine evNeg (by simp) ?_
    by_cases c : xs.length ≤ 20
    · refine evPos (by omega) ?_
      refine evSome ?_
      unfold goodA
      rw [decide_eq_decide, hx]
      exact ⟨fun g => ⟨hok, by rw [← hx]; exact c, g⟩, fun g => g.2.2⟩
    · refine evNeg (by omega) ?_
      exact evSome (decide_eq_false (fun g => c g.2.1)).symm
  | cons a t ih =>
    intro pre i h hi hok
    have hl := len_cons h
    have hb := sumA_bd pre hok
    have ha : a ∈ xs := by rw [h]; simp
    refine evSucc ?_
    simp only [spec_l17Good.l0]
    refine evPos (by omega) ?_
    refine evSucc ?_
    simp only [spec_l17Good.j1, l1In_eq, Option.bind_some, decide_eq_true_eq, rd_T51_at h hi]
    refine evIte (fun c0 => ?_) (fun c0 => ?_)
    · refine evPos (by omega) ?_
      refine evPos (by omega) ?_
      have bad : ¬ okA a → false = goodA xs := fun n => (decide_eq_false (fun g => n (g.1 a ha))).symm
      refine evIte (fun c1 => ?_) (fun c1 => evSome (bad (fun g => c1 g.1)))
      refine evIte (fun c2 => ?_) (fun c2 => evSome (bad (fun g => c2 g.2.1)))
      refine evIte (fun c3 => ?_) (fun c3 => evSome (bad (fun g => c3 g.2.2)))
      have e : wrap64 (sumA pre + a.f1) = sumA (pre ++ [a]) := by rw [sumA_snoc, wrapId (by omega)]
      rw [e]
      exact ih (pre ++ [a]) _ (snoc h) (by rw [wrapId (by omega), len_snoc]; omega) (okA_snoc hok ⟨c1, c2, c3⟩)
    · refine evNeg (by omega) ?_
      exact evSome (decide_eq_false (fun g => by omega)).symm
theorem specGood_ev (xs : List S51) (hn : xs.length ≤ 1048576) : Ev (fun k => spec_l17Good.f k xs) (goodA xs) := by
  simp only [spec_l17Good.f]
  exact specGood_l0 xs hn xs [] 0 rfl rfl (by simp)

def valW (a : S51) : Int := wrap64 (Int.tdiv (wrap64 (a.f1 * (wrap64 (1000 - a.f2)))) 1000)
theorem implValue_eq (a : S51) : impl_valueOf.f a.f0 a.f1 a.f2 = some (valW a) := rfl
theorem specValue_eq (a : S51) : spec_l17Value.f a.f0 a.f1 a.f2 = some (valW a) := rfl

theorem i64_and1 (x : Int) (h0 : 0 ≤ x) (h1 : x < 4611686018427387904) : Go.bits .and .i64 x 1 = x % 2 :=
  bits_mask .i64 62 (by decide) (fun n a b => by rw [IntKind.wrap_i64]; omega) 1 (by decide) x h0 h1
theorem shr_nat (v i : Nat) (hi : i ≤ 62) : shr .i64 (v : Int) (i : Int) = ((v / 2 ^ i : Nat) : Int) := by
  unfold shr
  rw [show min (i : Int).toNat (IntKind.i64).bits = i from Nat.min_eq_left (by simp [IntKind.bits]; omega)]
  simp
theorem u64_small (x : Int) (h0 : 0 ≤ x) (h1 : x ≤ 9223372036854775807) : IntKind.u64.wrap x = x := by
  simp only [IntKind.wrap, IntKind.bits, IntKind.signed]; simp; omega
theorem bit_at (v i : Nat) (hi : i ≤ 62) (hv : v < 1048576) : Go.bits .and .i64 (shr .i64 (v : Int) (i : Int)) 1 = ((v / 2 ^ i % 2 : Nat) : Int) := by
  rw [shr_nat v i hi]
  have h := Nat.div_le_self v (2 ^ i)
  generalize v / 2 ^ i = q at h ⊢
  rw [i64_and1 _ (by omega) (by omega)]
  omega
theorem div_pow_succ (v i : Nat) : v / 2 ^ (i + 1) = v / 2 ^ i / 2 := by rw [Nat.pow_succ, Nat.div_div_eq_div_mul]
/-- The places of v's bits that are 1, counted from i; n places at most. -/
def blF : Nat → Nat → Int → List Int
  | 0, _, _ => []
  | n + 1, v, i => (if v % 2 = 1 then [i] else []) ++ blF n (v / 2) (i + 1)
theorem blF_zero : ∀ (n : Nat) (i : Int), blF n 0 i = []
  | 0, _ => rfl
  | n + 1, i => by simp [blF, blF_zero n]
theorem blF_length : ∀ (n v : Nat) (i : Int), (blF n v i).length ≤ n
  | 0, _, _ => by simp [blF]
  | n + 1, v, i => by
    have := blF_length n (v / 2) (i + 1)
    unfold blF
    split <;> simp <;> omega

/-- The value of the assets of a set, summed as the code sums. -/
def sumSel : Int → List S51 → Nat → Int
  | s, [], _ => s
  | s, a :: t, v => sumSel (if v % 2 = 1 then wrap64 (s + valW a) else s) t (v / 2)
def pc (n v : Nat) : Nat := (blF n v 0).length
theorem blF_len_any : ∀ (n v : Nat) (i j : Int), (blF n v i).length = (blF n v j).length
  | 0, _, _, _ => rfl
  | n + 1, v, i, j => by
    have := blF_len_any n (v / 2) (i + 1) (j + 1)
    unfold blF; split <;> simp [this]
/-- The choice between the best set so far and another one. b < 0: none so far. -/
def better (n : Nat) (need : Int) (b l : Int) (s : Nat) (sum : Int) : Bool :=
  decide (need ≤ sum) && (decide (b < 0) || decide (sum < l) || (decide (sum = l) && decide (pc n s < pc n b.toNat)))
def pick (xs : List S51) (need : Int) : Nat → Nat → Int → Int → Int
  | 0, _, b, _ => b
  | r + 1, s, b, l => if better xs.length need b l s (sumSel 0 xs s) = true then pick xs need r (s + 1) s (sumSel 0 xs s) else pick xs need r (s + 1) b l
def selA (xs : List S51) (need : Int) : List Int × Bool :=
  if goodA xs = true ∧ xs.length ≤ 10 ∧ (0 ≤ need ∧ need ≤ 1000000000) then
    (if pick xs need (2 ^ xs.length) 0 (-1) 0 < 0 then ([], false) else (blF xs.length (pick xs need (2 ^ xs.length) 0 (-1) 0).toNat 0, true))
  else ([], false)
theorem shl_one (n : Nat) (hn : n ≤ 20) : shl .i64 1 (n : Int) = ((2 ^ n : Nat) : Int) := by
  unfold shl
  rw [show min (n : Int).toNat (IntKind.i64).bits = n from Nat.min_eq_left (by simp [IntKind.bits]; omega)]
  have h20 : (2 : Nat) ^ n ≤ 2 ^ 20 := Nat.pow_le_pow_right (by decide) hn
  have h20' : (2 : Nat) ^ 20 = 1048576 := by decide
  have hp : ((2 ^ n : Nat) : Int) = (2 : Int) ^ n := by simp
  rw [IntKind.wrap_i64, Int.one_mul, ← hp]
  generalize (2 : Nat) ^ n = q at *
  omega
/-- The spec's inner loop: what follows it, in full, is the hypothesis. -/
def endSel (n : Nat) (b : Int) : List Int × Bool := if b < 0 then ([], false) else (blF n b.toNat 0, true)
theorem onesCount_all : ∀ v : Fin 1024, bits_OnesCount64.f (v.val : Int) = some (pc 10 v.val : Int) := by decide +kernel
theorem pc_any : ∀ (n m v : Nat) (i : Int), v < 2 ^ n → n ≤ m → (blF n v i) = (blF m v i)
  | 0, m, v, i, h, _ => by
    have : v = 0 := by simpa using h
    subst this; rw [blF_zero, blF_zero]
  | n + 1, 0, v, i, h, hm => by omega
  | n + 1, m + 1, v, i, h, hm => by
    have hp : (2 : Nat) ^ (n + 1) = 2 ^ n * 2 := Nat.pow_succ 2 n
    rw [blF, blF, pc_any n m (v / 2) (i + 1) (by omega) (by omega)]
theorem onesCount_ev (n v : Nat) (hn : n ≤ 10) (hv : v < 2 ^ n) : bits_OnesCount.f (IntKind.u64.wrap (v : Int)) = some (pc n v : Int) := by
  have h10 : (2 : Nat) ^ n ≤ 2 ^ 10 := Nat.pow_le_pow_right (by decide) hn
  have h10' : (2 : Nat) ^ 10 = 1024 := by decide
  rw [u64_small _ (by omega) (by omega)]
  unfold bits_OnesCount.f
  rw [onesCount_all ⟨v, by omega⟩]
  unfold pc
  rw [pc_any n 10 v 0 hv hn]
  rfl
theorem selA_length (xs : List S51) (need : Int) : (selA xs need).1.length ≤ 10 := by
  unfold selA
  split
  · rename_i h
    split
    · simp
    · exact Nat.le_trans (blF_length _ _ _) h.2.1
  · simp

/-- The values at the places of a list, summed as the code sums. -/
def sumI (xs : List S51) : Int → List Int → Int
  | s, [] => s
  | s, k :: t => sumI xs (wrap64 (s + valW (rd_T51 xs k))) t
theorem sumI_eq (xs : List S51) : ∀ (rest pre : List S51) (s : Int) (v : Nat), xs = pre ++ rest → sumI xs s (blF rest.length v pre.length) = sumSel s rest v
  | [], pre, s, v, h => rfl
  | a :: t, pre, s, v, h => by
    rw [List.length_cons, blF, sumSel]
    by_cases c : v % 2 = 1
    · rw [if_pos c, if_pos c, List.singleton_append, sumI, rd_T51_at h rfl]
      have e := sumI_eq xs t (pre ++ [a]) (wrap64 (s + valW a)) (v / 2) (snoc h)
      rw [len_snoc] at e
      exact e
    · rw [if_neg c, if_neg c, List.nil_append]
      have e := sumI_eq xs t (pre ++ [a]) s (v / 2) (snoc h)
      rw [len_snoc] at e
      exact e
theorem blF_range : ∀ (n v : Nat) (i : Int), ∀ k ∈ blF n v i, i ≤ k ∧ k < i + n
  | 0, v, i, k, h => by simp [blF] at h
  | n + 1, v, i, k, h => by
    rw [blF, List.mem_append] at h
    rcases h with h | h
    · split at h
      · rw [List.mem_singleton.mp h]; omega
      · simp at h
    · have := blF_range n (v / 2) (i + 1) k h
      push_cast; omega
theorem sel_end {xs : List S51} {need : Int} (h : goodA xs = true ∧ xs.length ≤ 10 ∧ (0 ≤ need ∧ need ≤ 1000000000)) : selA xs need = endSel xs.length (pick xs need (2 ^ xs.length) 0 (-1) 0) := by
  unfold selA; rw [if_pos h]; rfl
theorem pick_keep {xs : List S51} {need b l : Int} {s r : Nat} (h : better xs.length need b l s (sumSel 0 xs s) = false) : pick xs need (r + 1) s b l = pick xs need r (s + 1) b l := by rw [pick, if_neg (by rw [h]; exact Bool.false_ne_true)]
theorem pick_take {xs : List S51} {need b l : Int} {s r : Nat} (h : better xs.length need b l s (sumSel 0 xs s) = true) : pick xs need (r + 1) s b l = pick xs need r (s + 1) s (sumSel 0 xs s) := by rw [pick, if_pos h]
theorem better_no {n : Nat} {need b l sum : Int} {s : Nat} (h : ¬ (need ≤ sum ∧ (b < 0 ∨ sum < l ∨ (sum = l ∧ pc n s < pc n b.toNat)))) : better n need b l s sum = false := by
  cases q : better n need b l s sum with
  | false => rfl
  | true =>
    unfold better at q
    simp only [Bool.and_eq_true, Bool.or_eq_true, decide_eq_true_eq] at q
    exact absurd ⟨q.1, by rcases q.2 with (q2 | q2) | q2 <;> simp [q2]⟩ h
theorem better_yes {n : Nat} {need b l sum : Int} {s : Nat} (h : need ≤ sum ∧ (b < 0 ∨ sum < l ∨ (sum = l ∧ pc n s < pc n b.toNat))) : better n need b l s sum = true := by
  unfold better
  simp only [Bool.and_eq_true, Bool.or_eq_true, decide_eq_true_eq]
  exact ⟨h.1, by rcases h.2 with q | q | q <;> simp [q]⟩
end Go.Proofs.Ytiaakolalhdelaa.Pure
