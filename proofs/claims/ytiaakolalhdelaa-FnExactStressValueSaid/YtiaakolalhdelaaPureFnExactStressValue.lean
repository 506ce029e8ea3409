/- The plain law of FnExactStressValue: the printed functions that it uses answer as plain Lean functions do. No other condition. -/
import Derived.Test.YtiaakolalhdelaaPFnExactStressValuex0
import Derived.Test.YtiaakolalhdelaaPFnExactStressValuex1
import Derived.Test.YtiaakolalhdelaaPFnExactStressValuex2
import Derived.Test.YtiaakolalhdelaaPFnExactStressValuex3
import Derived.Test.YtiaakolalhdelaaEvKit
import Derived.Test.YtiaakolalhdelaaKReads
namespace Go.Proofs.Ytiaakolalhdelaa.Pure
open Go.RowKit Go.Proofs.YtiaakolalhdelaaW.PrintWords Go.Proofs.YtiaakolalhdelaaW.PrintLast Go.Proofs.YtiaakolalhdelaaW.PrintMore Go.Proofs.Ytiaakolalhdelaa.PFnExactStressValue Go.Proofs.Ytiaakolalhdelaa.EvKit
set_option linter.unusedVariables false
set_option linter.unusedSimpArgs false

theorem rd_T51_at {xs pre t : List S51} {a : S51} (h : xs = pre ++ a :: t) {i : Int} (hi : i = pre.length) : rd_T51 xs i = a := getD_at h hi


theorem rd_T68_at {xs pre t : List S68} {a : S68} (h : xs = pre ++ a :: t) {i : Int} (hi : i = pre.length) : rd_T68 xs i = a := getD_at h hi


def cv_Asset (x : S68) : S51 := ⟨x.f0, x.f1, x.f2⟩
theorem toAssetS_l0 (xs : List S68) (hn : xs.length ≤ 1048576) : ∀ (rest pre : List S68) (cur : List S51) (i : Int), xs = pre ++ rest → i = pre.length → (∃ tl : List S51, tl.length = rest.length ∧ cur = pre.map cv_Asset ++ tl) →
    Ev (fun k => laws_toAssetS.l0 k xs cur i) (xs.map cv_Asset) := by
  intro rest
  induction rest with
  | nil =>
    intro pre cur i h hi hc
    obtain ⟨tl, ht, rfl⟩ := hc
    have hl := len_nil h
    refine evSucc ?_
    simp only [laws_toAssetS.l0]
    refine evNeg (by omega) ?_
    refine evSome ?_
    have : tl = [] := List.length_eq_zero_iff.mp ht
    subst this
    rw [h]; simp
  | cons a t ih =>
    intro pre cur i h hi hc
    obtain ⟨tl, ht, hcur⟩ := hc
    have hl := len_cons h
    obtain ⟨b, tl, rfl⟩ : ∃ b tl', tl = b :: tl' := by
      cases tl with
      | nil => simp at ht
      | cons b tl => exact ⟨b, tl, rfl⟩
    have hcl := len_cons hcur
    simp at hcl
    refine evSucc ?_
    simp only [laws_toAssetS.l0]
    refine evPos (by omega) ?_
    refine evPos (by omega) ?_
    simp only [laws_toAsset.f, rd_T68_at h hi, Option.bind_some]
    refine evPos (by omega) ?_
    refine ih (pre ++ [a]) _ _ (snoc h) ?_ ⟨tl, by simpa using ht, ?_⟩
    · rw [wrapId (by omega), len_snoc]; omega
    · rw [set_at hcur (by simpa using hi)]; simp [cv_Asset]
theorem toAssetS_ev (xs : List S68) (hn : xs.length ≤ 1048576) : Ev (fun k => laws_toAssetS.f k xs) (xs.map cv_Asset) := by
  simp only [laws_toAssetS.f]
  refine evPos (by omega) ?_
  refine evPos (by omega) ?_
  exact toAssetS_l0 xs hn xs [] _ 0 rfl rfl ⟨List.replicate xs.length z51, by simp, by simp⟩
theorem szAssetS_eq (xs : List S68) (h : xs.length ≤ 9223372036854775807) : laws_szAssetS.f xs 1048576 = some (if xs.length ≤ 1048576 then 1048576 - (xs.length : Int) else -1) := by
  simp only [laws_szAssetS.f]
  rw [wrapId (by omega)]
  by_cases c : xs.length ≤ 1048576
  · rw [if_neg (by omega), if_pos c]
  · rw [if_pos (by omega), if_neg c]


theorem eqAssetS_l0 (xs : List S51) (hn : xs.length ≤ 9223372036854775806) : ∀ (rest pre : List S51) (i : Int), xs = pre ++ rest → i = pre.length → Ev (fun k => laws_eqAssetS.l0 k xs xs i) true := by
  intro rest
  induction rest with
  | nil =>
    intro pre i h hi
    have hl := len_nil h
    refine evSucc ?_
    simp only [laws_eqAssetS.l0]
    refine evNeg (by omega) ?_
    exact evSome rfl
  | cons a t ih =>
    intro pre i h hi
    have hl := len_cons h
    refine evSucc ?_
    simp only [laws_eqAssetS.l0]
    refine evPos (by omega) ?_
    refine evPos (by omega) ?_
    refine evPos (by omega) ?_
    refine evBindS (a := true) (by simp [laws_eqAsset.f]) ?_
    refine evPos (by trivial) ?_
    exact ih (pre ++ [a]) _ (snoc h) (by rw [wrapId (by omega), len_snoc]; omega)
theorem eqAssetS_ev (xs : List S51) (hn : xs.length ≤ 9223372036854775806) : Ev (fun k => laws_eqAssetS.f k xs xs) true := by
  simp only [laws_eqAssetS.f]
  exact evPos (by trivial) (eqAssetS_l0 xs hn xs [] 0 rfl rfl)


theorem toIntS_l0 (xs : List Int) (hn : xs.length ≤ 1048576) : ∀ (rest pre : List Int) (cur : List Int) (i : Int), xs = pre ++ rest → i = pre.length → (∃ tl : List Int, tl.length = rest.length ∧ cur = pre ++ tl) →
    Ev (fun k => laws_toIntS.l0 k xs cur i) xs := by
  intro rest
  induction rest with
  | nil =>
    intro pre cur i h hi hc
    obtain ⟨tl, ht, rfl⟩ := hc
    have hl := len_nil h
    refine evSucc ?_
    simp only [laws_toIntS.l0]
    refine evNeg (by omega) ?_
    refine evSome ?_
    have : tl = [] := List.length_eq_zero_iff.mp ht
    subst this
    rw [h]
  | cons a t ih =>
    intro pre cur i h hi hc
    obtain ⟨tl, ht, hcur⟩ := hc
    have hl := len_cons h
    obtain ⟨b, tl, rfl⟩ : ∃ b tl', tl = b :: tl' := by
      cases tl with
      | nil => simp at ht
      | cons b tl => exact ⟨b, tl, rfl⟩
    have hcl := len_cons hcur
    refine evSucc ?_
    simp only [laws_toIntS.l0]
    refine evPos (by omega) ?_
    refine evPos (by omega) ?_
    simp only [rd_at h hi]
    refine evPos (by omega) ?_
    refine ih (pre ++ [a]) _ _ (snoc h) ?_ ⟨tl, by simpa using ht, ?_⟩
    · rw [wrapId (by omega), len_snoc]; omega
    · rw [set_at hcur hi]; simp
theorem toIntS_ev (xs : List Int) (hn : xs.length ≤ 1048576) : Ev (fun k => laws_toIntS.f k xs) xs := by
  simp only [laws_toIntS.f]
  refine evPos (by omega) ?_
  refine evPos (by omega) ?_
  exact toIntS_l0 xs hn xs [] _ 0 rfl rfl ⟨List.replicate xs.length 0, by simp, by simp⟩


theorem eqIntS_l0 (xs : List Int) (hn : xs.length ≤ 9223372036854775806) : ∀ (rest pre : List Int) (i : Int), xs = pre ++ rest → i = pre.length → Ev (fun k => laws_eqIntS.l0 k xs xs i) true := by
  intro rest
  induction rest with
  | nil =>
    intro pre i h hi
    have hl := len_nil h
    refine evSucc ?_
    simp only [laws_eqIntS.l0]
    refine evNeg (by omega) ?_
    exact evSome rfl
  | cons a t ih =>
    intro pre i h hi
    have hl := len_cons h
    refine evSucc ?_
    simp only [laws_eqIntS.l0]
    refine evPos (by omega) ?_
    refine evPos (by omega) ?_
    refine evPos (by omega) ?_
    refine evPos (by trivial) ?_
    exact ih (pre ++ [a]) _ (snoc h) (by rw [wrapId (by omega), len_snoc]; omega)
theorem eqIntS_ev (xs : List Int) (hn : xs.length ≤ 9223372036854775806) : Ev (fun k => laws_eqIntS.f k xs xs) true := by
  simp only [laws_eqIntS.f]
  exact evPos (by trivial) (eqIntS_l0 xs hn xs [] 0 rfl rfl)

theorem within_eq (a b c : Int) : impl_within.f a b c = some (decide (b ≤ a ∧ a ≤ c)) := by
  unfold impl_within.f
  by_cases h : a ≥ b
  · rw [if_pos h]; exact congrArg some (decide_eq_decide.mpr ⟨fun g => ⟨h, g⟩, fun g => g.2⟩)
  · rw [if_neg h]; exact congrArg some (decide_eq_false (fun g => h g.1)).symm
theorem l1In_eq (a b c : Int) : spec_l1In.f a b c = some (decide (b ≤ a ∧ a ≤ c)) := by
  unfold spec_l1In.f
  by_cases h : a ≥ b
  · rw [if_pos h]; exact congrArg some (decide_eq_decide.mpr ⟨fun g => ⟨h, g⟩, fun g => g.2⟩)
  · rw [if_neg h]; exact congrArg some (decide_eq_false (fun g => h g.1)).symm

theorem isAmount_eq (a : Int) : impl_isAmount.f a = some (decide (-1000000000 ≤ a ∧ a ≤ 1000000000)) := by
  unfold impl_isAmount.f; rw [within_eq]; rfl

def okA (a : S51) : Prop := (0 ≤ a.f0 ∧ a.f0 ≤ 9) ∧ (0 ≤ a.f1 ∧ a.f1 ≤ 1000000000) ∧ (0 ≤ a.f2 ∧ a.f2 ≤ 1000)
instance (a : S51) : Decidable (okA a) := by unfold okA; infer_instance
def sumA : List S51 → Int
  | [] => 0
  | a :: t => a.f1 + sumA t
theorem sumA_snoc (p : List S51) (a : S51) : sumA (p ++ [a]) = sumA p + a.f1 := by
  induction p with
  | nil => simp [sumA]
  | cons b t ih => simp only [List.cons_append, sumA, ih]; omega
theorem sumA_bd (p : List S51) (h : ∀ a ∈ p, okA a) : 0 ≤ sumA p ∧ sumA p ≤ 1000000000 * p.length := by
  induction p with
  | nil => simp [sumA]
  | cons b t ih =>
    have h1 := ih (fun a ha => h a (List.mem_cons_of_mem _ ha))
    have h2 := (h b List.mem_cons_self).2.1
    simp only [sumA, List.length_cons]
    omega
def goodA (xs : List S51) : Bool := decide ((∀ a ∈ xs, okA a) ∧ xs.length ≤ 20 ∧ sumA xs ≤ 1000000000)
theorem okA_snoc {pre : List S51} {a : S51} (hok : ∀ b ∈ pre, okA b) (ha : okA a) : ∀ b ∈ pre ++ [a], okA b := by
  intro b hb
  rcases List.mem_append.mp hb with g | g
  · exact hok b g
  · rw [List.mem_singleton.mp g]; exact ha
theorem implValid_l0 (xs : List S51) (hn : xs.length ≤ 1048576) : ∀ (rest pre : List S51) (i : Int), xs = pre ++ rest → i = pre.length → (∀ a ∈ pre, okA a) → Ev (fun k => impl_IsValidAssets.l0 k xs (sumA pre) xs (xs.length : Int) i) (goodA xs) := by
  intro rest
  induction rest with
  | nil =>
    intro pre i h hi hok
    have hl := len_nil h
    have hx : xs = pre := by simpa using h
    have hb := sumA_bd pre hok
    refine evSucc ?_
    simp only [impl_IsValidAssets.l0, isAmount_eq, Option.bind_some]
    refine evNeg (by omega) ?_
    by_cases c : xs.length ≤ 20
    · refine evPos (by omega) ?_
      refine evSome ?_
      unfold goodA
      rw [decide_eq_decide, hx]
      exact ⟨fun g => ⟨hok, by rw [← hx]; exact c, g.2⟩, fun g => ⟨by omega, g.2.2⟩⟩
    · refine evNeg (by omega) ?_
      exact evSome (decide_eq_false (fun g => c g.2.1)).symm
  | cons a t ih =>
    intro pre i h hi hok
    have hl := len_cons h
    have hb := sumA_bd pre hok
    have ha : a ∈ xs := by rw [h]; simp
    refine evSucc ?_
    simp only [impl_IsValidAssets.l0, within_eq, Option.bind_some, decide_eq_true_eq, rd_T51_at h hi]
    refine evPos (by omega) ?_
    refine evPos (by omega) ?_
    refine evPos (by omega) ?_
    have bad : ¬ okA a → false = goodA xs := fun n => (decide_eq_false (fun g => n (g.1 a ha))).symm
    refine evIte (fun c1 => ?_) (fun c1 => evSome (bad (fun g => c1 g.1)))
    refine evIte (fun c2 => ?_) (fun c2 => evSome (bad (fun g => c2 g.2.1)))
    refine evIte (fun c3 => ?_) (fun c3 => evSome (bad (fun g => c3 g.2.2)))
    have e : wrap64 (sumA pre + a.f1) = sumA (pre ++ [a]) := by rw [sumA_snoc, wrapId (by omega)]
    rw [e]
    exact ih (pre ++ [a]) _ (snoc h) (by rw [wrapId (by omega), len_snoc]; omega) (okA_snoc hok ⟨c1, c2, c3⟩)
theorem implValid_ev (xs : List S51) (hn : xs.length ≤ 1048576) : Ev (fun k => impl_IsValidAssets.f k xs) (goodA xs) := by
  simp only [impl_IsValidAssets.f]
  exact implValid_l0 xs hn xs [] 0 rfl rfl (by simp)
theorem specGood_l0 (xs : List S51) (hn : xs.length ≤ 1048576) : ∀ (rest pre : List S51) (i : Int), xs = pre ++ rest → i = pre.length → (∀ a ∈ pre, okA a) → Ev (fun k => spec_l17Good.l0 k xs (sumA pre) i) (goodA xs) := by
  intro rest
  induction rest with
  | nil =>
    intro pre i h hi hok
    have hl := len_nil h
    have hx : xs = pre := by simpa using h
    refine evSucc ?_
    simp only [spec_l17Good.l0]
    refine evNeg (by omega) ?_
    refine evSucc ?_
    simp only [spec_l17Good.j1]
    refine evNeg (by simp) ?_
    by_cases c : xs.length ≤ 20
    · refine evPos (by omega) ?_
      refine evSome ?_
      unfold goodA
      rw [decide_eq_decide, hx]
      exact ⟨fun g => ⟨hok, by rw [← hx]; exact c, g⟩, fun g => g.2.2⟩
    · refine evNeg (by omega) ?_
      exact evSome (decide_eq_false (fun g => c g.2.1)).symm
  | cons a t ih =>
    intro pre i h hi hok
    have hl := len_cons h
    have hb := sumA_bd pre hok
    have ha : a ∈ xs := by rw [h]; simp
    refine evSucc ?_
    simp only [spec_l17Good.l0]
    refine evPos (by omega) ?_
    refine evSucc ?_
    simp only [spec_l17Good.j1, l1In_eq, Option.bind_some, decide_eq_true_eq, rd_T51_at h hi]
    refine evIte (fun c0 => ?_) (fun c0 => ?_)
    · refine evPos (by omega) ?_
      refine evPos (by omega) ?_
      have bad : ¬ okA a → false = goodA xs := fun n => (decide_eq_false (fun g => n (g.1 a ha))).symm
      refine evIte (fun c1 => ?_) (fun c1 => evSome (bad (fun g => c1 g.1)))
      refine evIte (fun c2 => ?_) (fun c2 => evSome (bad (fun g => c2 g.2.1)))
      refine evIte (fun c3 => ?_) (fun c3 => evSome (bad (fun g => c3 g.2.2)))
      have e : wrap64 (sumA pre + a.f1) = sumA (pre ++ [a]) := by rw [sumA_snoc, wrapId (by omega)]
      rw [e]
      exact ih (pre ++ [a]) _ (snoc h) (by rw [wrapId (by omega), len_snoc]; omega) (okA_snoc hok ⟨c1, c2, c3⟩)
    · refine evNeg (by omega) ?_
      exact evSome (decide_eq_false (fun g => by omega)).symm
theorem specGood_ev (xs : List S51) (hn : xs.length ≤ 1048576) : Ev (fun k => spec_l17Good.f k xs) (goodA xs) := by
  simp only [spec_l17Good.f]
  exact specGood_l0 xs hn xs [] 0 rfl rfl (by simp)

def valW (a : S51) : Int := wrap64 (Int.tdiv (wrap64 (a.f1 * (wrap64 (1000 - a.f2)))) 1000)
theorem implValue_eq (a : S51) : impl_valueOf.f a.f0 a.f1 a.f2 = some (valW a) := rfl
theorem specValue_eq (a : S51) : spec_l17Value.f a.f0 a.f1 a.f2 = some (valW a) := rfl

def sumV : Int → List S51 → Int
  | s, [] => s
  | s, a :: t => sumV (wrap64 (s + valW a)) t
def shOk (x : Int) : Bool := decide (0 ≤ x ∧ x ≤ 1000)
def strW (sh : List Int) (a : S51) : S51 := ⟨a.f0, wrap64 (Int.tdiv (wrap64 (a.f1 * (wrap64 (1000 - (rd sh a.f0))))) 1000), a.f2⟩
def strA (xs : List S51) (sh : List Int) : Int × Bool := if goodA xs = true ∧ sh.length = 10 ∧ sh.all shOk = true then (sumV 0 (xs.map (strW sh)), true) else (0, false)
theorem specStress_l1 (xs : List S51) (sh : List Int) (hn : xs.length ≤ 1048576) (hs : sh.length = 10) (hok : ∀ a ∈ xs, okA a) : ∀ (rest pre : List S51) (s i : Int), xs = pre ++ rest → i = pre.length → Ev (fun k => spec_StressValue.l1 k xs sh s i) (sumV s (rest.map (strW sh)), true) := by
  intro rest
  induction rest with
  | nil =>
    intro pre s i h hi
    have hl := len_nil h
    refine evSucc ?_
    simp only [spec_StressValue.l1]
    refine evNeg (by omega) ?_
    exact evSome rfl
  | cons a t ih =>
    intro pre s i h hi
    have hl := len_cons h
    have ha := hok a (by rw [h]; simp)
    refine evSucc ?_
    simp only [spec_StressValue.l1, rd_T51_at h hi]
    refine evPos (by omega) ?_
    refine evPos (by omega) ?_
    refine evPos (by have := ha.1; omega) ?_
    refine evPos (by have := ha.1; omega) ?_
    refine evBindS (specValue_eq (strW sh a)) ?_
    exact ih (pre ++ [a]) _ _ (snoc h) (by rw [wrapId (by omega), len_snoc]; omega)
theorem specStress_l0 (xs : List S51) (sh : List Int) (hn : xs.length ≤ 1048576) (hs : sh.length = 10) (hg : goodA xs = true) : ∀ (rest pre : List Int) (i : Int), sh = pre ++ rest → i = pre.length → pre.all shOk = true → Ev (fun k => spec_StressValue.l0 k xs sh i) (strA xs sh) := by
  intro rest
  induction rest with
  | nil =>
    intro pre i h hi hp
    have hl := len_nil h
    refine evSucc ?_
    simp only [spec_StressValue.l0]
    refine evNeg (by omega) ?_
    refine evEq (specStress_l1 xs sh hn hs (of_decide_eq_true hg).1 xs [] 0 0 rfl rfl) ?_
    have e : sh = pre := by simpa using h
    unfold strA; rw [if_pos ⟨hg, hs, by rw [e]; exact hp⟩]
  | cons a t ih =>
    intro pre i h hi hp
    have hl := len_cons h
    refine evSucc ?_
    simp only [spec_StressValue.l0, rd_at h hi, l1In_eq, Option.bind_some, decide_eq_true_eq]
    refine evPos (by omega) ?_
    refine evPos (by omega) ?_
    refine evPos (by omega) ?_
    refine evIte (fun c => ?_) (fun c => ?_)
    · exact ih (pre ++ [a]) _ (snoc h) (by rw [wrapId (by omega), len_snoc]; omega) (by rw [List.all_append, hp]; simp [shOk, c])
    · refine evSome ?_
      unfold strA
      rw [if_neg (fun g => c ?_)]
      have := List.all_eq_true.mp g.2.2 a (by rw [h]; simp)
      exact of_decide_eq_true this
theorem specStress_ev (xs : List S51) (sh : List Int) (hn : xs.length ≤ 1048576) : Ev (fun k => spec_StressValue.f k xs sh) (strA xs sh) := by
  simp only [spec_StressValue.f]
  have no : ¬ (goodA xs = true ∧ sh.length = 10 ∧ sh.all shOk = true) → Ev (fun k => spec_StressValue.j0 k xs sh true) (strA xs sh) := fun g => by
    refine evSucc ?_
    simp only [spec_StressValue.j0]
    exact evPos (by trivial) (evSome (by unfold strA; rw [if_neg g]))
  refine evBind (specGood_ev xs hn) ?_
  refine evIte (fun c => ?_) (fun c => no (fun g => c g.1))
  by_cases hs : sh.length = 10
  · have e : ((sh.length : Int) != 10) = false := by rw [bne_eq_false_iff_eq]; omega
    rw [e]
    refine evSucc ?_
    simp only [spec_StressValue.j0]
    refine evNeg Bool.false_ne_true ?_
    exact specStress_l0 xs sh hn hs c sh [] 0 rfl rfl rfl
  · have e : ((sh.length : Int) != 10) = true := by rw [bne_iff_ne]; omega
    rw [e]
    exact no (fun g => hs g.2.1)
end Go.Proofs.Ytiaakolalhdelaa.Pure
