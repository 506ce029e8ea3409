/- The plain law of FnCoverage: the printed functions that it uses answer as plain Lean functions do, and the first rank that lacks cover is found. No other condition. -/
import Derived.Test.YtbnhpkkkijjkkaaPL18Cx0
import Derived.Test.YtbnhpkkkijjkkaaPL18Cx1
import Derived.Test.YtbnhpkkkijjkkaaPL18Cx2
import Derived.Test.YtbnhpkkkijjkkaaPL18Cx3
import Derived.Test.YtbnhpkkkijjkkaaPL18Cx4
import Derived.Test.YtbnhpkkkijjkkaaPL18Cx5
import Derived.Test.YtbnhpkkkijjkkaaPL18Cx6
import Derived.Test.YtbnhpkkkijjkkaaEvKit
import Derived.Test.YtbnhpkkkijjkkaaKReads
namespace Go.Proofs.Ytbnhpkkkijjkkaa.Pure
open Go.RowKit Go.Proofs.YtbnhpkkkijjkkaaW.PrintWords Go.Proofs.YtbnhpkkkijjkkaaW.PrintLast Go.Proofs.YtbnhpkkkijjkkaaW.PrintMore Go.Proofs.Ytbnhpkkkijjkkaa.PL18C Go.Proofs.Ytbnhpkkkijjkkaa.EvKit
set_option linter.unusedVariables false
set_option linter.unusedSimpArgs false

theorem rd_T49_at {xs pre t : List S49} {a : S49} (h : xs = pre ++ a :: t) {i : Int} (hi : i = pre.length) : rd_T49 xs i = a := getD_at h hi


theorem rd_T75_at {xs pre t : List S75} {a : S75} (h : xs = pre ++ a :: t) {i : Int} (hi : i = pre.length) : rd_T75 xs i = a := getD_at h hi


def cv_Tranche (x : S75) : S49 := ⟨x.f0, x.f1⟩
theorem toTrancheS_l0 (xs : List S75) (hn : xs.length ≤ 1048576) : ∀ (rest pre : List S75) (cur : List S49) (i : Int), xs = pre ++ rest → i = pre.length → (∃ tl : List S49, tl.length = rest.length ∧ cur = pre.map cv_Tranche ++ tl) →
    Ev (fun k => laws_toTrancheS.l0 k xs cur i) (xs.map cv_Tranche) := by
  intro rest
  induction rest with
  | nil =>
    intro pre cur i h hi hc
    obtain ⟨tl, ht, rfl⟩ := hc
    have hl := len_nil h
    refine evSucc ?_
    simp only [laws_toTrancheS.l0]
    refine evNeg (by omega) ?_
    refine evSome ?_
    have : tl = [] := List.length_eq_zero_iff.mp ht
    subst this
    rw [h]; simp
  | cons a t ih =>
    intro pre cur i h hi hc
    obtain ⟨tl, ht, hcur⟩ := hc
    have hl := len_cons h
    obtain ⟨b, tl, rfl⟩ : ∃ b tl', tl = b :: tl' := by
      cases tl with
      | nil => simp at ht
      | cons b tl => exact ⟨b, tl, rfl⟩
    have hcl := len_cons hcur
    simp at hcl
    refine evSucc ?_
    simp only [laws_toTrancheS.l0]
    refine evPos (by omega) ?_
    refine evPos (by omega) ?_
    simp only [laws_toTranche.f, rd_T75_at h hi, Option.bind_some]
    refine evPos (by omega) ?_
    refine ih (pre ++ [a]) _ _ (snoc h) ?_ ⟨tl, by simpa using ht, ?_⟩
    · rw [wrapId (by omega), len_snoc]; omega
    · rw [set_at hcur (by simpa using hi)]; simp [cv_Tranche]
theorem toTrancheS_ev (xs : List S75) (hn : xs.length ≤ 1048576) : Ev (fun k => laws_toTrancheS.f k xs) (xs.map cv_Tranche) := by
  simp only [laws_toTrancheS.f]
  refine evPos (by omega) ?_
  refine evPos (by omega) ?_
  exact toTrancheS_l0 xs hn xs [] _ 0 rfl rfl ⟨List.replicate xs.length z49, by simp, by simp⟩
theorem szTrancheS_eq (xs : List S75) (h : xs.length ≤ 9223372036854775807) : laws_szTrancheS.f xs 1048576 = some (if xs.length ≤ 1048576 then 1048576 - (xs.length : Int) else -1) := by
  simp only [laws_szTrancheS.f]
  rw [wrapId (by omega)]
  by_cases c : xs.length ≤ 1048576
  · rw [if_neg (by omega), if_pos c]
  · rw [if_pos (by omega), if_neg c]


theorem eqTrancheS_l0 (xs : List S49) (hn : xs.length ≤ 9223372036854775806) : ∀ (rest pre : List S49) (i : Int), xs = pre ++ rest → i = pre.length → Ev (fun k => laws_eqTrancheS.l0 k xs xs i) true := by
  intro rest
  induction rest with
  | nil =>
    intro pre i h hi
    have hl := len_nil h
    refine evSucc ?_
    simp only [laws_eqTrancheS.l0]
    refine evNeg (by omega) ?_
    exact evSome rfl
  | cons a t ih =>
    intro pre i h hi
    have hl := len_cons h
    refine evSucc ?_
    simp only [laws_eqTrancheS.l0]
    refine evPos (by omega) ?_
    refine evPos (by omega) ?_
    refine evPos (by omega) ?_
    refine evBindS (a := true) (by simp [laws_eqTranche.f]) ?_
    refine evPos (by trivial) ?_
    exact ih (pre ++ [a]) _ (snoc h) (by rw [wrapId (by omega), len_snoc]; omega)
theorem eqTrancheS_ev (xs : List S49) (hn : xs.length ≤ 9223372036854775806) : Ev (fun k => laws_eqTrancheS.f k xs xs) true := by
  simp only [laws_eqTrancheS.f]
  exact evPos (by trivial) (eqTrancheS_l0 xs hn xs [] 0 rfl rfl)

theorem within_eq (a b c : Int) : impl_within.f a b c = some (decide (b ≤ a ∧ a ≤ c)) := by
  unfold impl_within.f
  by_cases h : a ≥ b
  · rw [if_pos h]; exact congrArg some (decide_eq_decide.mpr ⟨fun g => ⟨h, g⟩, fun g => g.2⟩)
  · rw [if_neg h]; exact congrArg some (decide_eq_false (fun g => h g.1)).symm
theorem l1In_eq (a b c : Int) : spec_l1In.f a b c = some (decide (b ≤ a ∧ a ≤ c)) := by
  unfold spec_l1In.f
  by_cases h : a ≥ b
  · rw [if_pos h]; exact congrArg some (decide_eq_decide.mpr ⟨fun g => ⟨h, g⟩, fun g => g.2⟩)
  · rw [if_neg h]; exact congrArg some (decide_eq_false (fun g => h g.1)).symm

theorem isAmount_eq (a : Int) : impl_isAmount.f a = some (decide (-1000000000 ≤ a ∧ a ≤ 1000000000)) := by
  unfold impl_isAmount.f; rw [within_eq]; rfl

def okTr (a : S49) : Prop := (1 ≤ a.f0 ∧ a.f0 ≤ 10) ∧ (0 ≤ a.f1 ∧ a.f1 ≤ 1000000000)
instance (a : S49) : Decidable (okTr a) := by unfold okTr; infer_instance
def sumT : List S49 → Int
  | [] => 0
  | a :: t => a.f1 + sumT t
theorem sumT_snoc (p : List S49) (a : S49) : sumT (p ++ [a]) = sumT p + a.f1 := by
  induction p with
  | nil => simp [sumT]
  | cons b t ih => simp only [List.cons_append, sumT, ih]; omega
theorem sumT_bd (p : List S49) (h : ∀ a ∈ p, okTr a) : 0 ≤ sumT p ∧ sumT p ≤ 1000000000 * p.length := by
  induction p with
  | nil => simp [sumT]
  | cons b t ih =>
    have h1 := ih (fun a ha => h a (List.mem_cons_of_mem _ ha))
    have h2 := (h b List.mem_cons_self).2
    simp only [sumT, List.length_cons]
    omega
def goodT (xs : List S49) : Bool := decide ((∀ a ∈ xs, okTr a) ∧ xs.length ≤ 20 ∧ sumT xs ≤ 1000000000)
theorem okTr_snoc {pre : List S49} {a : S49} (hok : ∀ b ∈ pre, okTr b) (ha : okTr a) : ∀ b ∈ pre ++ [a], okTr b := by
  intro b hb
  rcases List.mem_append.mp hb with g | g
  · exact hok b g
  · rw [List.mem_singleton.mp g]; exact ha
theorem implValidT_l0 (xs : List S49) (hn : xs.length ≤ 1048576) : ∀ (rest pre : List S49) (i : Int), xs = pre ++ rest → i = pre.length → (∀ a ∈ pre, okTr a) → Ev (fun k => impl_IsValidTranches.l0 k xs (sumT pre) xs (xs.length : Int) i) (goodT xs) := by
  intro rest
  induction rest with
  | nil =>
    intro pre i h hi hok
    have hl := len_nil h
    have hx : xs = pre := by simpa using h
    have hb := sumT_bd pre hok
    refine evSucc ?_
    simp only [impl_IsValidTranches.l0, isAmount_eq, Option.bind_some]
    refine evNeg (by omega) ?_
    by_cases c : xs.length ≤ 20
    · refine evPos (by omega) ?_
      refine evSome ?_
      unfold goodT
      rw [decide_eq_decide, hx]
      exact ⟨fun g => ⟨hok, by rw [← hx]; exact c, g.2⟩, fun g => ⟨by omega, g.2.2⟩⟩
    · refine evNeg (by omega) ?_
      exact evSome (decide_eq_false (fun g => c g.2.1)).symm
  | cons a t ih =>
    intro pre i h hi hok
    have hl := len_cons h
    have hb := sumT_bd pre hok
    have ha : a ∈ xs := by rw [h]; simp
    refine evSucc ?_
    simp only [impl_IsValidTranches.l0, within_eq, Option.bind_some, decide_eq_true_eq, rd_T49_at h hi]
    refine evPos (by omega) ?_
    refine evPos (by omega) ?_
    refine evPos (by omega) ?_
    have bad : ¬ okTr a → false = goodT xs := fun n => (decide_eq_false (fun g => n (g.1 a ha))).symm
    refine evIte (fun c1 => ?_) (fun c1 => evSome (bad (fun g => c1 g.1)))
    refine evIte (fun c2 => ?_) (fun c2 => evSome (bad (fun g => c2 g.2)))
    have e : wrap64 (sumT pre + a.f1) = sumT (pre ++ [a]) := by rw [sumT_snoc, wrapId (by omega)]
    rw [e]
    exact ih (pre ++ [a]) _ (snoc h) (by rw [wrapId (by omega), len_snoc]; omega) (okTr_snoc hok ⟨c1, c2⟩)
theorem implValidT_ev (xs : List S49) (hn : xs.length ≤ 1048576) : Ev (fun k => impl_IsValidTranches.f k xs) (goodT xs) := by
  simp only [impl_IsValidTranches.f]
  exact implValidT_l0 xs hn xs [] 0 rfl rfl (by simp)
theorem specGoodT_l0 (xs : List S49) (hn : xs.length ≤ 1048576) : ∀ (rest pre : List S49) (i : Int), xs = pre ++ rest → i = pre.length → (∀ a ∈ pre, okTr a) → Ev (fun k => spec_l18Good.l0 k xs (sumT pre) i) (goodT xs) := by
  intro rest
  induction rest with
  | nil =>
    intro pre i h hi hok
    have hl := len_nil h
    have hx : xs = pre := by simpa using h
    refine evSucc ?_
    simp only [spec_l18Good.l0]
    refine evNeg (by omega) ?_
    refine evSucc ?_
    simp only [spec_l18Good.j1]
    refine evNeg (by simp) ?_
    by_cases c : xs.length ≤ 20
    · refine evPos (by omega) ?_
      refine evSome ?_
      unfold goodT
      rw [decide_eq_decide, hx]
      exact ⟨fun g => ⟨hok, by rw [← hx]; exact c, g⟩, fun g => g.2.2⟩
    · refine evNeg (by omega) ?_
      exact evSome (decide_eq_false (fun g => c g.2.1)).symm
  | cons a t ih =>
    intro pre i h hi hok
    have hl := len_cons h
    have hb := sumT_bd pre hok
    have ha : a ∈ xs := by rw [h]; simp
    refine evSucc ?_
    simp only [spec_l18Good.l0]
    refine evPos (by omega) ?_
    refine evSucc ?_
    simp only [spec_l18Good.j1, l1In_eq, Option.bind_some, decide_eq_true_eq, rd_T49_at h hi]
    refine evIte (fun c0 => ?_) (fun c0 => ?_)
    · refine evPos (by omega) ?_
      refine evPos (by omega) ?_
      have bad : ¬ okTr a → false = goodT xs := fun n => (decide_eq_false (fun g => n (g.1 a ha))).symm
      refine evIte (fun c1 => ?_) (fun c1 => evSome (bad (fun g => c1 g.1)))
      refine evIte (fun c2 => ?_) (fun c2 => evSome (bad (fun g => c2 g.2)))
      have e : wrap64 (sumT pre + a.f1) = sumT (pre ++ [a]) := by rw [sumT_snoc, wrapId (by omega)]
      rw [e]
      exact ih (pre ++ [a]) _ (snoc h) (by rw [wrapId (by omega), len_snoc]; omega) (okTr_snoc hok ⟨c1, c2⟩)
    · refine evNeg (by omega) ?_
      exact evSome (decide_eq_false (fun g => by omega)).symm
theorem specGoodT_ev (xs : List S49) (hn : xs.length ≤ 1048576) : Ev (fun k => spec_l18Good.f k xs) (goodT xs) := by
  simp only [spec_l18Good.f]
  exact specGoodT_l0 xs hn xs [] 0 rfl rfl (by simp)

theorem l2Amount_eq (a : Int) : spec_l2Amount.f a = some (decide (-1000000000 ≤ a ∧ a ≤ 1000000000)) := by
  unfold spec_l2Amount.f; rw [l1In_eq]; rfl

theorem gcd_step (a b : Int) : Int.gcd b (Int.tmod a b) = Int.gcd a b := by
  unfold Int.gcd
  rw [Int.natAbs_tmod, Nat.gcd_comm b.natAbs, ← Nat.gcd_rec, Nat.gcd_comm]
def okF (n d : Int) : Prop := (1 ≤ d ∧ d ≤ 1000000000) ∧ (-1000000000 ≤ n ∧ n ≤ 1000000000) ∧ Int.gcd n d = 1
instance (n d : Int) : Decidable (okF n d) := by unfold okF; infer_instance
theorem implDiv_l0 : ∀ (n : Nat) (a b : Int), b.natAbs ≤ n → a.natAbs ≤ 9223372036854775807 → b.natAbs ≤ 9223372036854775807 → Ev (fun k => impl_divisor.l0 k a b) (Int.gcd a b : Int) := by
  intro n
  induction n with
  | zero =>
    intro a b h1 h2 h3
    have hb : b = 0 := by omega
    refine evSucc ?_
    simp only [impl_divisor.l0, impl_size.f, Option.bind_some]
    refine evPos hb ?_
    refine evSome ?_
    rw [hb, Int.gcd_zero_right, wrapId (by omega)]
    unfold mx; split <;> omega
  | succ n ih =>
    intro a b h1 h2 h3
    refine evSucc ?_
    simp only [impl_divisor.l0, impl_size.f, Option.bind_some]
    by_cases hb : b = 0
    · refine evPos hb ?_
      refine evSome ?_
      rw [hb, Int.gcd_zero_right, wrapId (by omega)]
      unfold mx; split <;> omega
    · refine evNeg hb ?_
      have hm : (Int.tmod a b).natAbs < b.natAbs := by rw [Int.natAbs_tmod]; exact Nat.mod_lt _ (by omega)
      have g := ih b (Int.tmod a b) (by omega) (by omega) (by omega)
      rw [gcd_step] at g
      exact g
theorem implDiv_ev (a b : Int) (h2 : a.natAbs ≤ 9223372036854775807) (h3 : b.natAbs ≤ 9223372036854775807) : Ev (fun k => impl_divisor.f k a b) (Int.gcd a b : Int) := by
  simp only [impl_divisor.f]; exact implDiv_l0 b.natAbs a b (Nat.le_refl _) h2 h3
theorem specGcd_l0 : ∀ (n : Nat) (a b : Int), b.natAbs ≤ n → 0 ≤ a → 0 ≤ b → Ev (fun k => spec_l2Gcd.l0 k a b) (Int.gcd a b : Int) := by
  intro n
  induction n with
  | zero =>
    intro a b h1 h2 h3
    have hb : b = 0 := by omega
    refine evSucc ?_
    simp only [spec_l2Gcd.l0]
    refine evPos hb ?_
    refine evSome ?_
    rw [hb, Int.gcd_zero_right]; omega
  | succ n ih =>
    intro a b h1 h2 h3
    refine evSucc ?_
    simp only [spec_l2Gcd.l0]
    by_cases hb : b = 0
    · refine evPos hb ?_
      refine evSome ?_
      rw [hb, Int.gcd_zero_right]; omega
    · refine evNeg hb ?_
      have hm : (Int.tmod a b).natAbs < b.natAbs := by rw [Int.natAbs_tmod]; exact Nat.mod_lt _ (by omega)
      have h0 : 0 ≤ Int.tmod a b := Int.tmod_nonneg b h2
      have g := ih b (Int.tmod a b) (by omega) h3 h0
      rw [gcd_step] at g
      exact g
theorem specGcd_ev (a b : Int) (h2 : 0 ≤ a) (h3 : 0 ≤ b) : Ev (fun k => spec_l2Gcd.f k a b) (Int.gcd a b : Int) := by
  simp only [spec_l2Gcd.f]; exact specGcd_l0 b.natAbs a b (Nat.le_refl _) h2 h3
theorem specAbs_eq (a : Int) (h : a.natAbs ≤ 9223372036854775807) : spec_l2Abs.f a = some (a.natAbs : Int) := by
  unfold spec_l2Abs.f
  rw [wrapId (by omega)]
  split <;> (congr 1; omega)
theorem int_one {a : Nat} : ((a : Int) == 1) = decide (a = 1) := by
  rw [Bool.eq_iff_iff]; simp only [beq_iff_eq, decide_eq_true_eq]; omega
theorem implIsF_ev (n d : Int) : Ev (fun k => impl_isFraction.f k n d) (decide (okF n d)) := by
  simp only [impl_isFraction.f, within_eq, isAmount_eq, Option.bind_some, decide_eq_true_eq]
  refine evIte (fun c1 => ?_) (fun c1 => evSome (decide_eq_false (fun g => c1 g.1)).symm)
  refine evIte (fun c2 => ?_) (fun c2 => evSome (decide_eq_false (fun g => c2 g.2.1)).symm)
  refine evBind (implDiv_ev n d (by omega) (by omega)) (evSome ?_)
  rw [int_one]
  exact decide_eq_decide.mpr ⟨fun g => ⟨c1, c2, g⟩, fun g => g.2.2⟩
theorem specIsF_ev (n d : Int) : Ev (fun k => spec_l2Fraction.f k n d) (decide (okF n d)) := by
  simp only [spec_l2Fraction.f, l1In_eq, l2Amount_eq, Option.bind_some, decide_eq_true_eq]
  refine evIte (fun c1 => ?_) (fun c1 => evSome (decide_eq_false (fun g => c1 g.1)).symm)
  refine evIte (fun c2 => ?_) (fun c2 => evSome (decide_eq_false (fun g => c2 g.2.1)).symm)
  refine evBindS (specAbs_eq n (by omega)) ?_
  refine evBind (specGcd_ev (n.natAbs : Int) d (by omega) (by omega)) (evSome ?_)
  rw [int_one]
  refine decide_eq_decide.mpr ⟨fun g => ⟨c1, c2, ?_⟩, fun g => ?_⟩
  · unfold Int.gcd at g ⊢; simpa using g
  · have := g.2.2; unfold Int.gcd at this ⊢; simpa using this
/-- The valid fraction equal to a / b, b not 0. -/
def fracA (a b : Int) : Int × Int × Bool :=
  if okF ((if b < 0 then -a else a) / (Int.gcd a b : Int)) ((if b < 0 then -b else b) / (Int.gcd a b : Int)) then
    ((if b < 0 then -a else a) / (Int.gcd a b : Int), (if b < 0 then -b else b) / (Int.gcd a b : Int), true) else (0, 0, false)
theorem quot_of {a g c : Int} (hg : 0 < g) (h : a = g * c) : a / g = c ∧ a.tdiv g = c ∧ (-a) / g = -c ∧ a.tdiv (-g) = -c ∧ c.natAbs ≤ a.natAbs := by
  have h1 : a / g = c := by rw [h]; exact Int.mul_ediv_cancel_left _ (by omega)
  have h2 : a.tdiv g = c := by rw [h]; exact Int.mul_tdiv_cancel_left _ (by omega)
  refine ⟨h1, h2, ?_, ?_, ?_⟩
  · rw [h, ← Int.mul_neg]; exact Int.mul_ediv_cancel_left _ (by omega)
  · rw [Int.tdiv_neg, h2]
  · rw [h, Int.natAbs_mul]; exact Nat.le_mul_of_pos_left _ (by omega)
theorem implFrac_ev (a b : Int) (ha : a.natAbs ≤ 4000000000000000000) (hb : b.natAbs ≤ 4000000000000000000) (h0 : b ≠ 0) : Ev (fun k => impl_fraction.f k a b) (fracA a b) := by
  have hg : (0 : Int) < (Int.gcd a b : Int) := by have := Int.gcd_pos_of_ne_zero_right a h0; omega
  obtain ⟨c, hc⟩ : (Int.gcd a b : Int) ∣ a := Int.gcd_dvd_left a b
  obtain ⟨e, he⟩ : (Int.gcd a b : Int) ∣ b := Int.gcd_dvd_right a b
  have hgb : (Int.gcd a b) ≤ b.natAbs := Nat.gcd_le_right _ (by omega)
  simp only [impl_fraction.f]
  refine evBind (implDiv_ev a b (by omega) (by omega)) ?_
  unfold fracA
  generalize hG : (Int.gcd a b : Int) = g at *
  obtain ⟨q1, q2, q3, q4, q5⟩ := quot_of hg hc
  obtain ⟨r1, r2, r3, r4, r5⟩ := quot_of hg he
  refine evIte (fun cb => ?_) (fun cb => ?_)
  · simp only [if_pos cb]
    have w1 : wrap64 (-g) = -g := wrapId (by omega)
    have w2 : wrap64 (-c) = -c := wrapId (by omega)
    have w3 : wrap64 (-e) = -e := wrapId (by omega)
    simp only [w1, q4, r4, w2, w3, q3, r3]
    refine evNeg (by omega) ?_
    refine evBind (implIsF_ev (-c) (-e)) ?_
    simp only [decide_eq_true_eq]
    refine evIte (fun k => ?_) (fun k => ?_)
    · rw [if_pos k]; exact evSome rfl
    · rw [if_neg k]; exact evSome rfl
  · simp only [if_neg cb]
    have w2 : wrap64 c = c := wrapId (by omega)
    have w3 : wrap64 e = e := wrapId (by omega)
    simp only [q2, r2, w2, w3, q1, r1]
    refine evNeg (by omega) ?_
    refine evBind (implIsF_ev c e) ?_
    simp only [decide_eq_true_eq]
    refine evIte (fun k => ?_) (fun k => ?_)
    · rw [if_pos k]; exact evSome rfl
    · rw [if_neg k]; exact evSome rfl
theorem specReduce_j0 (a b : Int) (ha : a.natAbs ≤ 4000000000000000000) (hb : b.natAbs ≤ 4000000000000000000) (h0 : 0 < b) : Ev (fun k => spec_l2Reduce.j0 k a b) (fracA a b) := by
  have hg : (0 : Int) < (Int.gcd a b : Int) := by have := Int.gcd_pos_of_ne_zero_right a (show b ≠ 0 by omega); omega
  obtain ⟨c, hc⟩ : (Int.gcd a b : Int) ∣ a := Int.gcd_dvd_left a b
  obtain ⟨e, he⟩ : (Int.gcd a b : Int) ∣ b := Int.gcd_dvd_right a b
  have e1 : Int.gcd (a.natAbs : Int) b = Int.gcd a b := by unfold Int.gcd; simp
  have g1 := specGcd_ev (a.natAbs : Int) b (by omega) (by omega)
  rw [e1] at g1
  refine evSucc ?_
  simp only [spec_l2Reduce.j0]
  refine evBindS (specAbs_eq a (by omega)) ?_
  refine evBind g1 ?_
  unfold fracA
  clear g1 e1
  generalize hG : (Int.gcd a b : Int) = g at *
  obtain ⟨q1, q2, q3, q4, q5⟩ := quot_of hg hc
  obtain ⟨r1, r2, r3, r4, r5⟩ := quot_of hg he
  have cb : ¬ b < 0 := by omega
  simp only [if_neg cb]
  have w2 : wrap64 c = c := wrapId (by omega)
  have w3 : wrap64 e = e := wrapId (by omega)
  simp only [q2, r2, w2, w3, q1, r1]
  refine evNeg (by omega) ?_
  refine evBind (specIsF_ev c e) ?_
  simp only [decide_eq_true_eq]
  refine evIte (fun k => ?_) (fun k => ?_)
  · rw [if_pos k]; exact evSome rfl
  · rw [if_neg k]; exact evSome rfl
theorem fracA_neg (a b : Int) (h : b < 0) : fracA (-a) (-b) = fracA a b := by
  unfold fracA
  rw [Int.neg_gcd, Int.gcd_neg]
  simp only [if_pos h, if_neg (show ¬ -b < 0 by omega)]
theorem specReduce_ev (a b : Int) (ha : a.natAbs ≤ 4000000000000000000) (hb : b.natAbs ≤ 4000000000000000000) (h0 : b ≠ 0) : Ev (fun k => spec_l2Reduce.f k a b) (fracA a b) := by
  simp only [spec_l2Reduce.f]
  refine evIte (fun c => ?_) (fun c => ?_)
  · rw [wrapId (x := -a) (by omega), wrapId (x := -b) (by omega), ← fracA_neg a b c]
    exact specReduce_j0 (-a) (-b) (by omega) (by omega) (by omega)
  · exact specReduce_j0 a b ha hb (by omega)
theorem fracA_cases (a b : Int) : fracA a b = (0, 0, false) ∨ ∃ n d, fracA a b = (n, d, true) ∧ okF n d := by
  unfold fracA
  generalize (if b < 0 then -a else a) / (Int.gcd a b : Int) = n
  generalize (if b < 0 then -b else b) / (Int.gcd a b : Int) = d
  by_cases h : okF n d
  · rw [if_pos h]; exact .inr ⟨_, _, rfl, h⟩
  · rw [if_neg h]; exact .inl rfl

theorem specMake_ev (a b : Int) (ha : a.natAbs ≤ 1000000000000000000) (hb : b.natAbs ≤ 1000000000000000000) (h0 : b ≠ 0) : Ev (fun k => spec_MakeFraction.f k a b) (fracA a b) := by
  simp only [spec_MakeFraction.f, l1In_eq, Option.bind_some, decide_eq_true_eq]
  refine evNeg h0 ?_
  refine evPos (by omega) ?_
  refine evPos (by omega) ?_
  exact evBind (specReduce_ev a b (by omega) (by omega) h0) (evSome rfl)

def covSum (r : Int) : List S49 → Int
  | [] => 0
  | a :: t => (if a.f0 ≤ r then a.f1 else 0) + covSum r t
theorem covSum_snoc (r : Int) (p : List S49) (a : S49) : covSum r (p ++ [a]) = covSum r p + (if a.f0 ≤ r then a.f1 else 0) := by
  induction p with
  | nil => simp [covSum]
  | cons b t ih => simp only [List.cons_append, covSum, ih]; omega
theorem covSum_bd (r : Int) (p : List S49) (h : ∀ a ∈ p, okTr a) : 0 ≤ covSum r p ∧ covSum r p ≤ sumT p := by
  induction p with
  | nil => simp [covSum, sumT]
  | cons b t ih =>
    have h1 := ih (fun a ha => h a (List.mem_cons_of_mem _ ha))
    have h2 := (h b List.mem_cons_self).2
    simp only [covSum, sumT]
    split <;> omega
theorem sumT_append (p q : List S49) : sumT (p ++ q) = sumT p + sumT q := by
  induction p with
  | nil => simp [sumT]
  | cons b t ih => simp only [List.cons_append, sumT, ih]; omega
theorem specUntil_l0 (xs : List S49) (hg : goodT xs = true) (r : Int) : ∀ (rest pre : List S49) (i : Int), xs = pre ++ rest → i = pre.length → Ev (fun k => spec_l18Until.l0 k xs r (covSum r pre) i) (covSum r xs) := by
  have hg' := of_decide_eq_true hg
  intro rest
  induction rest with
  | nil =>
    intro pre i h hi
    have hl := len_nil h
    refine evSucc ?_
    simp only [spec_l18Until.l0]
    refine evNeg (by omega) ?_
    exact evSome (by rw [h]; simp)
  | cons a t ih =>
    intro pre i h hi
    have hl := len_cons h
    have hlen := hg'.2.1
    have hp : ∀ b ∈ pre, okTr b := fun b hb => hg'.1 b (by rw [h]; simp [hb])
    have hb := covSum_bd r pre hp
    have hb2 := sumT_bd pre hp
    have ha := (hg'.1 a (by rw [h]; simp)).2
    have hs := covSum_snoc r pre a
    refine evSucc ?_
    simp only [spec_l18Until.l0, rd_T49_at h hi]
    refine evPos (by omega) ?_
    refine evPos (by omega) ?_
    refine evIte (fun c => ?_) (fun c => ?_)
    · rw [if_pos c] at hs
      have e : wrap64 (covSum r pre + a.f1) = covSum r (pre ++ [a]) := by rw [hs, wrapId (by omega)]
      rw [e]
      exact ih (pre ++ [a]) _ (snoc h) (by rw [wrapId (by omega), len_snoc]; omega)
    · rw [if_neg c] at hs
      have e : covSum r pre = covSum r (pre ++ [a]) := by omega
      rw [e]
      exact ih (pre ++ [a]) _ (snoc h) (by rw [wrapId (by omega), len_snoc]; omega)
theorem specUntil_ev (xs : List S49) (hg : goodT xs = true) (r : Int) : Ev (fun k => spec_l18Until.f k xs r) (covSum r xs) := by
  simp only [spec_l18Until.f]
  exact specUntil_l0 xs hg r xs [] 0 rfl rfl
/-- The coverage of a rank: what the program's inner function tells of valid tranches. -/
def covI (xs : List S49) (cash r : Int) : Int × Int × Bool := if covSum r xs = 0 then (0, 0, false) else fracA cash (covSum r xs)
theorem implCov_l0 (xs : List S49) (hg : goodT xs = true) (cash r : Int) (hc : 0 ≤ cash ∧ cash ≤ 1000000000) : ∀ (rest pre : List S49) (i : Int), xs = pre ++ rest → i = pre.length → Ev (fun k => impl_coverageOf.l0 k cash r (covSum r pre) xs (xs.length : Int) i) (covI xs cash r) := by
  have hg' := of_decide_eq_true hg
  have hall := covSum_bd r xs hg'.1
  intro rest
  induction rest with
  | nil =>
    intro pre i h hi
    have hl := len_nil h
    have hx : xs = pre := by simpa using h
    refine evSucc ?_
    simp only [impl_coverageOf.l0]
    refine evNeg (by omega) ?_
    rw [← hx]
    unfold covI
    have := hg'.2.2
    refine evIte (fun c => ?_) (fun c => ?_)
    · rw [if_pos c]; exact evSome rfl
    · rw [if_neg c]
      exact evBind (implFrac_ev cash _ (by omega) (by omega) c) (evSome rfl)
  | cons a t ih =>
    intro pre i h hi
    have hl := len_cons h
    have hlen := hg'.2.1
    have hp : ∀ b ∈ pre, okTr b := fun b hb => hg'.1 b (by rw [h]; simp [hb])
    have hb := covSum_bd r pre hp
    have hb2 := sumT_bd pre hp
    have ha := (hg'.1 a (by rw [h]; simp)).2
    have hs := covSum_snoc r pre a
    refine evSucc ?_
    simp only [impl_coverageOf.l0, rd_T49_at h hi]
    refine evPos (by omega) ?_
    refine evPos (by omega) ?_
    refine evPos (by omega) ?_
    refine evIte (fun c => ?_) (fun c => ?_)
    · rw [if_pos c] at hs
      have e : wrap64 (covSum r pre + a.f1) = covSum r (pre ++ [a]) := by rw [hs, wrapId (by omega)]
      rw [e]
      exact ih (pre ++ [a]) _ (snoc h) (by rw [wrapId (by omega), len_snoc]; omega)
    · rw [if_neg c] at hs
      have e : covSum r pre = covSum r (pre ++ [a]) := by omega
      rw [e]
      exact ih (pre ++ [a]) _ (snoc h) (by rw [wrapId (by omega), len_snoc]; omega)
theorem implCov_ev (xs : List S49) (hg : goodT xs = true) (cash r : Int) (hc : 0 ≤ cash ∧ cash ≤ 1000000000) : Ev (fun k => impl_coverageOf.f k xs cash r) (covI xs cash r) := by
  simp only [impl_coverageOf.f]
  exact implCov_l0 xs hg cash r hc xs [] 0 rfl rfl
def covA (xs : List S49) (cash r : Int) : Int × Int × Bool :=
  if goodT xs = true ∧ (0 ≤ cash ∧ cash ≤ 1000000000) ∧ (1 ≤ r ∧ r ≤ 10) then covI xs cash r else (0, 0, false)
theorem specCovOf_ev (xs : List S49) (cash r : Int) (hn : xs.length ≤ 1048576) : Ev (fun k => spec_CoverageOf.f k xs cash r) (covA xs cash r) := by
  simp only [spec_CoverageOf.f, l1In_eq, Option.bind_some, decide_eq_true_eq]
  have no : ¬ (goodT xs = true ∧ (0 ≤ cash ∧ cash ≤ 1000000000) ∧ (1 ≤ r ∧ r ≤ 10)) → Ev (fun k => spec_CoverageOf.j0 k xs cash r true) (covA xs cash r) := by
    intro h
    refine evSucc ?_
    simp only [spec_CoverageOf.j0]
    exact evPos (by trivial) (evSome (by unfold covA; rw [if_neg h]))
  refine evBind (specGoodT_ev xs hn) ?_
  refine evIte (fun c1 => ?_) (fun c1 => no (fun g => c1 g.1))
  refine evIte (fun c2 => ?_) (fun c2 => no (fun g => c2 g.2.1))
  refine evIte (fun c3 => ?_) (fun c3 => no (fun g => c3 g.2.2))
  have hg' := of_decide_eq_true c1
  have hall := covSum_bd r xs hg'.1
  have := hg'.2.2
  refine evBind (specUntil_ev xs c1 r) ?_
  refine evSucc ?_
  simp only [spec_CoverageOf.j0]
  unfold covA
  rw [if_pos ⟨c1, c2, c3⟩]
  unfold covI
  by_cases c : covSum r xs = 0
  · rw [if_pos c]
    exact evPos (by simp [c]) (evSome rfl)
  · rw [if_neg c]
    refine evNeg (by simp [c]) ?_
    refine evBind (specUntil_ev xs c1 r) ?_
    exact evBind (specMake_ev cash _ (by omega) (by omega) c) (evSome rfl)

def cmpS (x y : Int) : Int := if x < y then -1 else if x > y then 1 else 0
def cmpA (a b c d : Int) : Int × Bool := if okF a b ∧ okF c d then (cmpS (wrap64 (a * d)) (wrap64 (c * b)), true) else (0, false)
theorem cmpInt_eq (x y : Int) : cmp_Compare_int.f x y = some (cmpS x y) := by
  unfold cmp_Compare_int.f cmp_isNaN_int.f cmpS
  simp only [bne_self_eq_false, Option.bind_some]
  rw [if_neg Bool.false_ne_true, if_neg Bool.false_ne_true]
  repeat (first | rfl | omega | split)
theorem implCmp_ev (a b c d : Int) : Ev (fun k => impl_CompareFractions.f k a b c d) (cmpA a b c d) := by
  simp only [impl_CompareFractions.f, cmpInt_eq, Option.bind_some]
  refine evBind (implIsF_ev a b) ?_
  simp only [decide_eq_true_eq]
  refine evIte (fun c1 => ?_) (fun c1 => evSome (by unfold cmpA; rw [if_neg (fun g => c1 g.1)]))
  refine evBind (implIsF_ev c d) ?_
  simp only [decide_eq_true_eq]
  refine evIte (fun c2 => ?_) (fun c2 => evSome (by unfold cmpA; rw [if_neg (fun g => c2 g.2)]))
  exact evSome (by unfold cmpA; rw [if_pos ⟨c1, c2⟩])
theorem specCmp_ev (a b c d : Int) : Ev (fun k => spec_CompareFractions.f k a b c d) (cmpA a b c d) := by
  simp only [spec_CompareFractions.f]
  have no : ¬ (okF a b ∧ okF c d) → Ev (fun k => spec_CompareFractions.j0 k true a b c d) (cmpA a b c d) := fun g => by
    refine evSucc ?_
    simp only [spec_CompareFractions.j0]
    exact evPos True.intro (evSome (by unfold cmpA; rw [if_neg g]))
  refine evBind (specIsF_ev a b) ?_
  simp only [decide_eq_true_eq]
  refine evIte (fun c1 => ?_) (fun c1 => no (fun g => c1 g.1))
  refine evBind (specIsF_ev c d) ?_
  by_cases c2 : okF c d
  · rw [decide_eq_true c2, Bool.not_true]
    refine evSucc ?_
    simp only [spec_CompareFractions.j0]
    refine evNeg Bool.false_ne_true ?_
    have hA : cmpA a b c d = (cmpS (wrap64 (a * d)) (wrap64 (c * b)), true) := by unfold cmpA; rw [if_pos ⟨c1, c2⟩]
    rw [hA]
    unfold cmpS
    refine evIte (fun q => ?_) (fun q => ?_)
    · rw [if_pos q]; exact Ev.now _
    · rw [if_neg q]
      refine evIte (fun q2 => ?_) (fun q2 => ?_)
      · rw [if_pos q2]; exact Ev.now _
      · rw [if_neg q2]; exact Ev.now _
  · rw [decide_eq_false c2, Bool.not_false]
    exact no (fun g => c2 g.2)

def ranksL : List Int := [1, 2, 3, 4, 5, 6, 7, 8, 9, 10]
theorem ranks_drop {r : Int} (h1 : 1 ≤ r) (h2 : r ≤ 10) : ranksL.drop (r - 1).toNat = r :: ranksL.drop (r + 1 - 1).toNat := by
  have : r = 1 ∨ r = 2 ∨ r = 3 ∨ r = 4 ∨ r = 5 ∨ r = 6 ∨ r = 7 ∨ r = 8 ∨ r = 9 ∨ r = 10 := by omega
  rcases this with rfl | rfl | rfl | rfl | rfl | rfl | rfl | rfl | rfl | rfl <;> decide
theorem ranksUp_l0 : ∀ (m : Nat) (r : Int) (out : List Int), r + m = 11 → 1 ≤ r → (out.length : Int) = r - 1 → Ev (fun k => impl_ranksUp.l0 k out r) (out ++ ranksL.drop (r - 1).toNat) := by
  intro m
  induction m with
  | zero =>
    intro r out h1 h2 ho
    obtain rfl : r = 11 := by omega
    refine evSucc ?_
    simp only [impl_ranksUp.l0]
    refine evNeg (by omega) (evSome ?_)
    rw [show ranksL.drop ((11 : Int) - 1).toNat = [] from by decide, List.append_nil]
  | succ m ih =>
    intro r out h1 h2 ho
    refine evSucc ?_
    simp only [impl_ranksUp.l0]
    refine evPos (by omega) ?_
    refine evPos (by omega) ?_
    rw [wrapId (x := r + 1) (by omega), ranks_drop h2 (by omega)]
    refine evEq (ih (r + 1) (out ++ [r]) (by omega) (by omega) (by simp; omega)) ?_
    simp
theorem ranksUp_ev : Ev (fun k => impl_ranksUp.f k) ranksL := by
  simp only [impl_ranksUp.f]
  exact ranksUp_l0 10 1 [] rfl (by omega) rfl

instance : Inhabited S49 := ⟨z49⟩
def hasR (r : Int) (t : S49) : Bool := t.f0 == r
def turF (xs : List S49) (cash n d : Int) : List Int → Int × Bool
  | [] => (0, true)
  | r :: t => if xs.any (hasR r) = true ∧ (covI xs cash r).2.2 = true ∧ (cmpA (covI xs cash r).1 (covI xs cash r).2.1 n d).1 < 0 then (r, true) else turF xs cash n d t
def turOk (xs : List S49) (cash n d : Int) : Prop := goodT xs = true ∧ (0 ≤ cash ∧ cash ≤ 1000000000) ∧ okF n d
noncomputable instance (xs : List S49) (cash n d : Int) : Decidable (turOk xs cash n d) := by unfold turOk; infer_instance
noncomputable def turA (xs : List S49) (cash n d : Int) : Int × Bool := if turOk xs cash n d then turF xs cash n d ranksL else (0, false)
theorem covA_in {xs : List S49} {cash r : Int} (hg : goodT xs = true) (hc : 0 ≤ cash ∧ cash ≤ 1000000000) (hr : 1 ≤ r ∧ r ≤ 10) : covA xs cash r = covI xs cash r := by unfold covA; rw [if_pos ⟨hg, hc, hr⟩]
/-- One rank of the reference: from the search for it on. -/
theorem specTur_l1 (xs : List S49) (cash n d : Int) (hn : xs.length ≤ 1048576) (hg : goodT xs = true) (hc : 0 ≤ cash ∧ cash ≤ 1000000000) (hF : okF n d) (r : Int) (hr : 1 ≤ r ∧ r ≤ 10) (t : List Int) (next : Ev (fun k => spec_TurboRank.l0 k xs cash (wrap64 (r + 1)) n d) (turF xs cash n d t)) :
    ∀ (rest pre : List S49) (i : Int), xs = pre ++ rest → i = pre.length → Ev (fun k => spec_TurboRank.l1 k xs cash r (pre.any (hasR r)) i n d) (turF xs cash n d (r :: t)) := by
  intro rest
  induction rest with
  | nil =>
    intro pre i h hi
    have hl := len_nil h
    have hx : xs = pre := by simpa using h
    refine evSucc ?_
    simp only [spec_TurboRank.l1]
    refine evNeg (by omega) ?_
    refine evBind (specCovOf_ev xs cash r hn) ?_
    rw [covA_in hg hc hr, ← hx]
    have skip : ¬ (xs.any (hasR r) = true ∧ (covI xs cash r).2.2 = true ∧ (cmpA (covI xs cash r).1 (covI xs cash r).2.1 n d).1 < 0) → turF xs cash n d (r :: t) = turF xs cash n d t := fun q => by rw [turF, if_neg q]
    have j3t : Ev (fun k => spec_TurboRank.j3 k xs cash r true n d (covI xs cash r).1 (covI xs cash r).2.1) (turF xs cash n d t) := by
      refine evSucc ?_
      simp only [spec_TurboRank.j3]
      exact evPos True.intro next
    refine evIte (fun c1 => ?_) (fun c1 => by rw [skip (fun q => c1 q.1)]; exact j3t)
    by_cases c2 : (covI xs cash r).2.2 = true
    · rw [c2, Bool.not_true]
      refine evSucc ?_
      simp only [spec_TurboRank.j3]
      refine evNeg Bool.false_ne_true ?_
      refine evBind (specCmp_ev _ _ n d) ?_
      refine evIte (fun c3 => ?_) (fun c3 => ?_)
      · refine evIte (fun c4 => ?_) (fun c4 => ?_)
        · rw [turF, if_pos ⟨c1, c2, c4⟩]; exact Ev.now _
        · rw [skip (fun q => c4 q.2.2)]; exact next
      · rw [skip (fun q => ?_)]
        · exact next
        · have z : (cmpA (covI xs cash r).1 (covI xs cash r).2.1 n d).1 = 0 := by
            unfold cmpA at c3 ⊢
            split
            · rename_i g; rw [if_pos g] at c3; exact absurd rfl c3
            · rfl
          have := q.2.2
          omega
    · have c2' : (covI xs cash r).2.2 = false := by simpa using c2
      rw [c2', Bool.not_false, skip (fun q => c2 q.2.1)]
      exact j3t
  | cons a tl ih =>
    intro pre i h hi
    have hl := len_cons h
    refine evSucc ?_
    simp only [spec_TurboRank.l1, rd_T49_at h hi]
    refine evPos (by omega) ?_
    have e : wrap64 (i + 1) = ((pre ++ [a]).length : Int) := by rw [wrapId (by omega), len_snoc]; omega
    have step := ih (pre ++ [a]) _ (snoc h) e
    rw [List.any_append] at step
    by_cases c1 : pre.any (hasR r) = true
    · rw [c1] at step ⊢
      exact evPos (by trivial) step
    · have c1' : pre.any (hasR r) = false := by simpa using c1
      rw [c1'] at step ⊢
      refine evNeg Bool.false_ne_true ?_
      refine evPos (by omega) ?_
      simpa [hasR] using step
theorem specTur_l0 (xs : List S49) (cash n d : Int) (hn : xs.length ≤ 1048576) (hg : goodT xs = true) (hc : 0 ≤ cash ∧ cash ≤ 1000000000) (hF : okF n d) : ∀ (m : Nat) (r : Int), r + m = 11 → 1 ≤ r → Ev (fun k => spec_TurboRank.l0 k xs cash r n d) (turF xs cash n d (ranksL.drop (r - 1).toNat)) := by
  intro m
  induction m with
  | zero =>
    intro r h1 h2
    obtain rfl : r = 11 := by omega
    refine evSucc ?_
    simp only [spec_TurboRank.l0]
    exact evNeg (by omega) (evSome rfl)
  | succ m ih =>
    intro r h1 h2
    refine evSucc ?_
    simp only [spec_TurboRank.l0]
    refine evPos (by omega) ?_
    have hw : wrap64 (r + 1) = r + 1 := wrapId (by omega)
    have hd := ranks_drop h2 (show r ≤ 10 by omega)
    rw [hd]
    exact specTur_l1 xs cash n d hn hg hc hF r ⟨h2, by omega⟩ _ (by rw [hw]; exact ih (r + 1) (by omega) (by omega)) xs [] 0 rfl rfl
theorem specTur_ev (xs : List S49) (cash n d : Int) (hn : xs.length ≤ 1048576) : Ev (fun k => spec_TurboRank.f k xs cash n d) (turA xs cash n d) := by
  simp only [spec_TurboRank.f, l1In_eq, Option.bind_some, decide_eq_true_eq]
  have no : ¬ turOk xs cash n d → Ev (fun k => spec_TurboRank.j0 k xs cash true n d) (turA xs cash n d) := fun g => by
    refine evSucc ?_
    simp only [spec_TurboRank.j0]
    exact evPos True.intro (evSome (by unfold turA; rw [if_neg g]))
  refine evBind (specGoodT_ev xs hn) ?_
  refine evIte (fun c1 => ?_) (fun c1 => no (fun g => c1 g.1))
  refine evIte (fun c2 => ?_) (fun c2 => no (fun g => c2 g.2.1))
  refine evBind (specIsF_ev n d) ?_
  by_cases c3 : okF n d
  · rw [decide_eq_true c3, Bool.not_true]
    refine evSucc ?_
    simp only [spec_TurboRank.j0]
    refine evNeg Bool.false_ne_true ?_
    unfold turA
    rw [if_pos ⟨c1, c2, c3⟩]
    exact specTur_l0 xs cash n d hn c1 c2 c3 10 1 rfl (by omega)
  · rw [decide_eq_false c3, Bool.not_false]
    exact no (fun g => c3 g.2.2)

theorem implCovOf_ev (xs : List S49) (cash r : Int) (hn : xs.length ≤ 1048576) : Ev (fun k => impl_CoverageOf.f k xs cash r) (covA xs cash r) := by
  simp only [impl_CoverageOf.f, within_eq, Option.bind_some, decide_eq_true_eq]
  have no : ¬ (goodT xs = true ∧ (0 ≤ cash ∧ cash ≤ 1000000000) ∧ (1 ≤ r ∧ r ≤ 10)) → (0, 0, false) = covA xs cash r := by
    intro h; unfold covA; rw [if_neg h]
  refine evBind (implValidT_ev xs hn) ?_
  refine evIte (fun c1 => ?_) (fun c1 => evSome (no (fun g => c1 g.1)))
  refine evIte (fun c2 => ?_) (fun c2 => evSome (no (fun g => c2 g.2.1)))
  refine evIte (fun c3 => ?_) (fun c3 => evSome (no (fun g => c3 g.2.2)))
  refine evBind (implCov_ev xs c1 cash r c2) (evSome ?_)
  unfold covA
  rw [if_pos ⟨c1, c2, c3⟩]

theorem lt_of_get {α : Type} {xs : List α} {i : Nat} (h : i < xs.length) : xs[i]? = some xs[i] := List.getElem?_eq_getElem h
theorem rdT_get {xs : List S49} {i : Nat} (h : i < xs.length) : rd_T49 xs (i : Int) = xs[i] := by
  rw [rd_T49, Int.toNat_natCast, List.getD_eq_getElem?_getD, List.getElem?_eq_getElem h]; rfl
/-- A rank that lacks cover. -/
def lack (xs : List S49) (cash n d r : Int) : Prop := xs.any (hasR r) = true ∧ (covI xs cash r).2.2 = true ∧ (cmpA (covI xs cash r).1 (covI xs cash r).2.1 n d).1 < 0
theorem turF_le (xs : List S49) (cash n d : Int) : ∀ rs : List Int, rs.Pairwise (· < ·) → (∀ r ∈ rs, 1 ≤ r) → ∀ r ∈ rs, lack xs cash n d r → (turF xs cash n d rs).1 ≠ 0 ∧ (turF xs cash n d rs).1 ≤ r
  | [], _, _, r, h, _ => absurd h (by simp)
  | a :: t, hp, h1, r, hr, hl => by
    obtain ⟨p1, p2⟩ := List.pairwise_cons.mp hp
    have ha := h1 a List.mem_cons_self
    rw [turF]
    split
    · refine ⟨show a ≠ 0 by omega, show a ≤ r from ?_⟩
      rcases List.mem_cons.mp hr with q | q
      · omega
      · have := p1 r q; omega
    · rename_i hn
      rcases List.mem_cons.mp hr with q | q
      · subst q; exact absurd hl hn
      · exact turF_le xs cash n d t p2 (fun r h => h1 r (List.mem_cons_of_mem _ h)) r q hl
theorem turF_is (xs : List S49) (cash n d : Int) : ∀ rs : List Int, ∀ r, (turF xs cash n d rs).1 = r → r ≠ 0 → lack xs cash n d r
  | [], r, h, h0 => by simp only [turF] at h; omega
  | a :: t, r, h, h0 => by
    rw [turF] at h
    split at h
    · rename_i hy
      have e : a = r := h
      subst e
      exact hy
    · exact turF_is xs cash n d t r h h0
theorem inRanks : ∀ r : Int, 1 ≤ r ∧ r ≤ 10 → r ∈ ranksL := by
  intro r h
  have : r = 1 ∨ r = 2 ∨ r = 3 ∨ r = 4 ∨ r = 5 ∨ r = 6 ∨ r = 7 ∨ r = 8 ∨ r = 9 ∨ r = 10 := by omega
  rcases this with rfl | rfl | rfl | rfl | rfl | rfl | rfl | rfl | rfl | rfl <;> decide
theorem cmpA_told {a b n d : Int} (h : (cmpA a b n d).2 = false) : ¬ (cmpA a b n d).1 < 0 := by
  unfold cmpA at h ⊢
  split
  · rename_i g; rw [if_pos g] at h; simp at h
  · simp
/-- What the law asks of a tranche. -/
theorem turA_facts {xs : List S49} {cash n d : Int} (h : (turA xs cash n d).2 = true) : goodT xs = true ∧ (0 ≤ cash ∧ cash ≤ 1000000000) ∧ (∀ a ∈ xs, ∀ c, c = (cmpA (covA xs cash a.f0).1 (covA xs cash a.f0).2.1 n d).1 → (covA xs cash a.f0).2.2 = true → (c < 0 → (turA xs cash n d).1 ≠ 0 ∧ (turA xs cash n d).1 ≤ a.f0) ∧ (a.f0 = (turA xs cash n d).1 → c < 0)) := by
  unfold turA at h ⊢
  by_cases g : turOk xs cash n d
  · rw [if_pos g] at h ⊢
    obtain ⟨g1, g2, g3⟩ := g
    refine ⟨g1, g2, fun a ha c hc hf => ?_⟩
    have hg := g1
    unfold goodT at hg
    have ok := ((of_decide_eq_true hg).1 a ha).1
    rw [covA_in g1 g2 ok] at hc hf
    have hany : xs.any (hasR a.f0) = true := List.any_eq_true.mpr ⟨a, ha, by simp [hasR]⟩
    refine ⟨fun hl => turF_le xs cash n d ranksL (by decide) (by decide) a.f0 (inRanks _ ok) ⟨hany, hf, by rw [← hc]; exact hl⟩, fun e => ?_⟩
    have := turF_is xs cash n d ranksL a.f0 e.symm (by omega)
    rw [hc]
    exact this.2.2
  · rw [if_neg g] at h
    exact absurd h (by simp)
end Go.Proofs.Ytbnhpkkkijjkkaa.Pure
