/- The law FnExactIsValidTranches over the printed functions: for all arguments of Go's kinds there is a number of rounds at which it answers true. No other condition. -/
import Derived.Test.YtbnhpkkkijjkkaaPFnExactIsValidTranchesx0
import Derived.Test.YtbnhpkkkijjkkaaPFnExactIsValidTranchesx1
import Derived.Test.YtbnhpkkkijjkkaaPFnExactIsValidTranchesx2
import Derived.Test.YtbnhpkkkijjkkaaEvKit
import Derived.Test.YtbnhpkkkijjkkaaKReads
namespace Go.Proofs.Ytbnhpkkkijjkkaa.Pure
open Go.RowKit Go.Proofs.YtbnhpkkkijjkkaaW.PrintWords Go.Proofs.YtbnhpkkkijjkkaaW.PrintLast Go.Proofs.YtbnhpkkkijjkkaaW.PrintMore Go.Proofs.Ytbnhpkkkijjkkaa.PFnExactIsValidTranches Go.Proofs.Ytbnhpkkkijjkkaa.EvKit
set_option linter.unusedVariables false
set_option linter.unusedSimpArgs false

theorem rd_T49_at {xs pre t : List S49} {a : S49} (h : xs = pre ++ a :: t) {i : Int} (hi : i = pre.length) : rd_T49 xs i = a := getD_at h hi


theorem rd_T75_at {xs pre t : List S75} {a : S75} (h : xs = pre ++ a :: t) {i : Int} (hi : i = pre.length) : rd_T75 xs i = a := getD_at h hi


def cv_Tranche (x : S75) : S49 := ⟨x.f0, x.f1⟩
theorem toTrancheS_l0 (xs : List S75) (hn : xs.length ≤ 1048576) : ∀ (rest pre : List S75) (cur : List S49) (i : Int), xs = pre ++ rest → i = pre.length → (∃ tl : List S49, tl.length = rest.length ∧ cur = pre.map cv_Tranche ++ tl) →
    Ev (fun k => laws_toTrancheS.l0 k xs cur i) (xs.map cv_Tranche) := by
  intro rest
  induction rest with
  | nil =>
    intro pre cur i h hi hc
    obtain ⟨tl, ht, rfl⟩ := hc
    have hl := len_nil h
    refine evSucc ?_
    simp only [laws_toTrancheS.l0]
    refine evNeg (by omega) ?_
    refine evSome ?_
    have : tl = [] := List.length_eq_zero_iff.mp ht
    subst this
    rw [h]; simp
  | cons a t ih =>
    intro pre cur i h hi hc
    obtain ⟨tl, ht, hcur⟩ := hc
    have hl := len_cons h
    obtain ⟨b, tl, rfl⟩ : ∃ b tl', tl = b :: tl' := by
      cases tl with
      | nil => simp at ht
      | cons b tl => exact ⟨b, tl, rfl⟩
    have hcl := len_cons hcur
    simp at hcl
    refine evSucc ?_
    simp only [laws_toTrancheS.l0]
    refine evPos (by omega) ?_
    refine evPos (by omega) ?_
    simp only [laws_toTranche.f, rd_T75_at h hi, Option.bind_some]
    refine evPos (by omega) ?_
    refine ih (pre ++ [a]) _ _ (snoc h) ?_ ⟨tl, by simpa using ht, ?_⟩
    · rw [wrapId (by omega), len_snoc]; omega
    · rw [set_at hcur (by simpa using hi)]; simp [cv_Tranche]
theorem toTrancheS_ev (xs : List S75) (hn : xs.length ≤ 1048576) : Ev (fun k => laws_toTrancheS.f k xs) (xs.map cv_Tranche) := by
  simp only [laws_toTrancheS.f]
  refine evPos (by omega) ?_
  refine evPos (by omega) ?_
  exact toTrancheS_l0 xs hn xs [] _ 0 rfl rfl ⟨List.replicate xs.length z49, by simp, by simp⟩
theorem szTrancheS_eq (xs : List S75) (h : xs.length ≤ 9223372036854775807) : laws_szTrancheS.f xs 1048576 = some (if xs.length ≤ 1048576 then 1048576 - (xs.length : Int) else -1) := by
  simp only [laws_szTrancheS.f]
  rw [wrapId (by omega)]
  by_cases c : xs.length ≤ 1048576
  · rw [if_neg (by omega), if_pos c]
  · rw [if_pos (by omega), if_neg c]


theorem eqTrancheS_l0 (xs : List S49) (hn : xs.length ≤ 9223372036854775806) : ∀ (rest pre : List S49) (i : Int), xs = pre ++ rest → i = pre.length → Ev (fun k => laws_eqTrancheS.l0 k xs xs i) true := by
  intro rest
  induction rest with
  | nil =>
    intro pre i h hi
    have hl := len_nil h
    refine evSucc ?_
    simp only [laws_eqTrancheS.l0]
    refine evNeg (by omega) ?_
    exact evSome rfl
  | cons a t ih =>
    intro pre i h hi
    have hl := len_cons h
    refine evSucc ?_
    simp only [laws_eqTrancheS.l0]
    refine evPos (by omega) ?_
    refine evPos (by omega) ?_
    refine evPos (by omega) ?_
    refine evBindS (a := true) (by simp [laws_eqTranche.f]) ?_
    refine evPos (by trivial) ?_
    exact ih (pre ++ [a]) _ (snoc h) (by rw [wrapId (by omega), len_snoc]; omega)
theorem eqTrancheS_ev (xs : List S49) (hn : xs.length ≤ 9223372036854775806) : Ev (fun k => laws_eqTrancheS.f k xs xs) true := by
  simp only [laws_eqTrancheS.f]
  exact evPos (by trivial) (eqTrancheS_l0 xs hn xs [] 0 rfl rfl)

theorem within_eq (a b c : Int) : impl_within.f a b c = some (decide (b ≤ a ∧ a ≤ c)) := by
  unfold impl_within.f
  by_cases h : a ≥ b
  · rw [if_pos h]; exact congrArg some (decide_eq_decide.mpr ⟨fun g => ⟨h, g⟩, fun g => g.2⟩)
  · rw [if_neg h]; exact congrArg some (decide_eq_false (fun g => h g.1)).symm
theorem l1In_eq (a b c : Int) : spec_l1In.f a b c = some (decide (b ≤ a ∧ a ≤ c)) := by
  unfold spec_l1In.f
  by_cases h : a ≥ b
  · rw [if_pos h]; exact congrArg some (decide_eq_decide.mpr ⟨fun g => ⟨h, g⟩, fun g => g.2⟩)
  · rw [if_neg h]; exact congrArg some (decide_eq_false (fun g => h g.1)).symm

theorem isAmount_eq (a : Int) : impl_isAmount.f a = some (decide (-1000000000 ≤ a ∧ a ≤ 1000000000)) := by
  unfold impl_isAmount.f; rw [within_eq]; rfl

def okTr (a : S49) : Prop := (1 ≤ a.f0 ∧ a.f0 ≤ 10) ∧ (0 ≤ a.f1 ∧ a.f1 ≤ 1000000000)
instance (a : S49) : Decidable (okTr a) := by unfold okTr; infer_instance
def sumT : List S49 → Int
  | [] => 0
  | a :: t => a.f1 + sumT t
theorem sumT_snoc (p : List S49) (a : S49) : sumT (p ++ [a]) = sumT p + a.f1 := by
  induction p with
  | nil => simp [sumT]
  | cons b t ih => simp only [List.cons_append, sumT, ih]; omega
theorem sumT_bd (p : List S49) (h : ∀ a ∈ p, okTr a) : 0 ≤ sumT p ∧ sumT p ≤ 1000000000 * p.length := by
  induction p with
  | nil => simp [sumT]
  | cons b t ih =>
    have h1 := ih (fun a ha => h a (List.mem_cons_of_mem _ ha))
    have h2 := (h b List.mem_cons_self).2
    simp only [sumT, List.length_cons]
    omega
def goodT (xs : List S49) : Bool := decide ((∀ a ∈ xs, okTr a) ∧ xs.length ≤ 20 ∧ sumT xs ≤ 1000000000)
theorem okTr_snoc {pre : List S49} {a : S49} (hok : ∀ b ∈ pre, okTr b) (ha : okTr a) : ∀ b ∈ pre ++ [a], okTr b := by
  intro b hb
  rcases List.mem_append.mp hb with g | g
  · exact hok b g
  · rw [List.mem_singleton.mp g]; exact ha
theorem implValidT_l0 (xs : List S49) (hn : xs.length ≤ 1048576) : ∀ (rest pre : List S49) (i : Int), xs = pre ++ rest → i = pre.length → (∀ a ∈ pre, okTr a) → Ev (fun k => impl_IsValidTranches.l0 k xs (sumT pre) xs (xs.length : Int) i) (goodT xs) := by
  intro rest
  induction rest with
  | nil =>
    intro pre i h hi hok
    have hl := len_nil h
    have hx : xs = pre := by simpa using h
    have hb := sumT_bd pre hok
    refine evSucc ?_
    simp only [impl_IsValidTranches.l0, isAmount_eq, Option.bind_some]
    refine evNeg (by omega) ?_
    by_cases c : xs.length ≤ 20
    · refine evPos (by omega) ?_
      refine evSome ?_
      unfold goodT
      rw [decide_eq_decide, hx]
      exact ⟨fun g => ⟨hok, by rw [← hx]; exact c, g.2⟩, fun g => ⟨by omega, g.2.2⟩⟩
    · refine evNeg (by omega) ?_
      exact evSome (decide_eq_false (fun g => c g.2.1)).symm
  | cons a t ih =>
    intro pre i h hi hok
    have hl := len_cons h
    have hb := sumT_bd pre hok
    have ha : a ∈ xs := by rw [h]; simp
    refine evSucc ?_
    simp only [impl_IsValidTranches.l0, within_eq, Option.bind_some, decide_eq_true_eq, rd_T49_at h hi]
    refine evPos (by omega) ?_
    refine evPos (by omega) ?_
    refine evPos (by omega) ?_
    have bad : ¬ okTr a → false = goodT xs := fun n => (decide_eq_false (fun g => n (g.1 a ha))).symm
    refine evIte (fun c1 => ?_) (fun c1 => evSome (bad (fun g => c1 g.1)))
    refine evIte (fun c2 => ?_) (fun c2 => evSome (bad (fun g => c2 g.2)))
    have e : wrap64 (sumT pre + a.f1) = sumT (pre ++ [a]) := by rw [sumT_snoc, wrapId (by omega)]
    rw [e]
    exact ih (pre ++ [a]) _ (snoc h) (by rw [wrapId (by omega), len_snoc]; omega) (okTr_snoc hok ⟨c1, c2⟩)
theorem implValidT_ev (xs : List S49) (hn : xs.length ≤ 1048576) : Ev (fun k => impl_IsValidTranches.f k xs) (goodT xs) := by
  simp only [impl_IsValidTranches.f]
  exact implValidT_l0 xs hn xs [] 0 rfl rfl (by simp)
theorem specGoodT_l0 (xs : List S49) (hn : xs.length ≤ 1048576) : ∀ (rest pre : List S49) (i : Int), xs = pre ++ rest → i = pre.length → (∀ a ∈ pre, okTr a) → Ev (fun k => spec_l18Good.l0 k xs (sumT pre) i) (goodT xs) := by
  intro rest
  induction rest with
  | nil =>
    intro pre i h hi hok
    have hl := len_nil h
    have hx : xs = pre := by simpa using h
    refine evSucc ?_
    simp only [spec_l18Good.l0]
    refine evNeg (by omega) ?_
    refine evSucc ?_
    simp only [spec_l18Good.j1]
    refine evNeg (by simp) ?_
    by_cases c : xs.length ≤ 20
    · refine evPos (by omega) ?_
      refine evSome ?_
      unfold goodT
      rw [decide_eq_decide, hx]
      exact ⟨fun g => ⟨hok, by rw [← hx]; exact c, g⟩, fun g => g.2.2⟩
    · refine evNeg (by omega) ?_
      exact evSome (decide_eq_false (fun g => c g.2.1)).symm
  | cons a t ih =>
    intro pre i h hi hok
    have hl := len_cons h
    have hb := sumT_bd pre hok
    have ha : a ∈ xs := by rw [h]; simp
    refine evSucc ?_
    simp only [spec_l18Good.l0]
    refine evPos (by omega) ?_
    refine evSucc ?_
    simp only [spec_l18Good.j1, l1In_eq, Option.bind_some, decide_eq_true_eq, rd_T49_at h hi]
    refine evIte (fun c0 => ?_) (fun c0 => ?_)
    · refine evPos (by omega) ?_
      refine evPos (by omega) ?_
      have bad : ¬ okTr a → false = goodT xs := fun n => (decide_eq_false (fun g => n (g.1 a ha))).symm
      refine evIte (fun c1 => ?_) (fun c1 => evSome (bad (fun g => c1 g.1)))
      refine evIte (fun c2 => ?_) (fun c2 => evSome (bad (fun g => c2 g.2)))
      have e : wrap64 (sumT pre + a.f1) = sumT (pre ++ [a]) := by rw [sumT_snoc, wrapId (by omega)]
      rw [e]
      exact ih (pre ++ [a]) _ (snoc h) (by rw [wrapId (by omega), len_snoc]; omega) (okTr_snoc hok ⟨c1, c2⟩)
    · refine evNeg (by omega) ?_
      exact evSome (decide_eq_false (fun g => by omega)).symm
theorem specGoodT_ev (xs : List S49) (hn : xs.length ≤ 1048576) : Ev (fun k => spec_l18Good.f k xs) (goodT xs) := by
  simp only [spec_l18Good.f]
  exact specGoodT_l0 xs hn xs [] 0 rfl rfl (by simp)

theorem FnExactIsValidTranches (l0 : List S75) (ok : l0.length ≤ 9223372036854775807 ∧ ∀ y ∈ l0, (KReads.InI y.f0 ∧ KReads.InI y.f1)) : ∃ k, laws_FnExactIsValidTranches.f k l0 = some true := by
  refine Ev.rounds ?_
  simp only [laws_FnExactIsValidTranches.f, szTrancheS_eq l0 ok.1, Option.bind_some]
  by_cases c : l0.length ≤ 1048576
  · rw [if_pos c]
    have hm : (l0.map cv_Tranche).length ≤ 1048576 := by simpa using c
    have e0 := toTrancheS_ev l0 c
    have e1 : Ev (fun k => spec_IsValidTranches.f k (l0.map cv_Tranche)) (goodT (l0.map cv_Tranche)) := by
      simp only [spec_IsValidTranches.f]; exact evBind (specGoodT_ev _ hm) (Ev.now _)
    have e2 := implValidT_ev _ hm
    have e3 := eqTrancheS_ev (l0.map cv_Tranche) (by omega)
    repeat (first
      | dsimp only
      | exact Ev.now _
      | (refine evBind (by with_reducible assumption) ?_)
      | (refine evBindS (by with_reducible assumption) ?_)
      | (refine evPos (by with_reducible rfl) ?_)
      | (refine evPos True.intro ?_)
      | (refine evNeg not_false ?_)
      | (refine evNeg (by rw [bne_self_eq_false]; exact Bool.false_ne_true) ?_)
      | (refine evNeg Bool.false_ne_true ?_)
      | (refine evPos (by omega) ?_)
      | (refine evNeg (by omega) ?_))
  · rw [if_neg c]
    exact evPos (by omega) (Ev.now true)
end Go.Proofs.Ytbnhpkkkijjkkaa.Pure
