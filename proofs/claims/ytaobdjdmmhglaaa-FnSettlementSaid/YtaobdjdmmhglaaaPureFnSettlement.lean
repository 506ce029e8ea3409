/- The plain law of FnSettlement: the printed functions that it uses answer as plain Lean functions do; what holds of settlements. No other condition. -/
import Derived.Test.YtaobdjdmmhglaaaPL16Tx0
import Derived.Test.YtaobdjdmmhglaaaPL16Tx1
import Derived.Test.YtaobdjdmmhglaaaPL16Tx2
import Derived.Test.YtaobdjdmmhglaaaPL16Tx3
import Derived.Test.YtaobdjdmmhglaaaEvKit
import Derived.Test.YtaobdjdmmhglaaaKReads
import Derived.Lib.Slices
namespace Go.Proofs.Ytaobdjdmmhglaaa.Pure
open Go.RowKit Go.Proofs.YtaobdjdmmhglaaaW.PrintWords Go.Proofs.YtaobdjdmmhglaaaW.PrintLast Go.Proofs.YtaobdjdmmhglaaaW.PrintMore Go.Proofs.Ytaobdjdmmhglaaa.PL16T Go.Proofs.Ytaobdjdmmhglaaa.EvKit
set_option linter.unusedVariables false
set_option linter.unusedSimpArgs false

theorem vInts_l0 (xs : List Int) (hn : xs.length ≤ 9223372036854775806) : ∀ (rest pre : List Int) (i : Int), xs = pre ++ rest → i = pre.length → Ev (fun k => laws_vInts.l0 k xs xs i) true := by
  intro rest
  induction rest with
  | nil =>
    intro pre i h hi
    have hl := len_nil h
    refine evSucc ?_
    simp only [laws_vInts.l0]
    refine evNeg (by omega) ?_
    exact evSome rfl
  | cons a t ih =>
    intro pre i h hi
    have hl := len_cons h
    refine evSucc ?_
    simp only [laws_vInts.l0]
    refine evPos (by omega) ?_
    refine evPos (by omega) ?_
    refine evPos (by omega) ?_
    refine evPos (by trivial) ?_
    exact ih (pre ++ [a]) _ (snoc h) (by rw [wrapId (by omega), len_snoc]; omega)
theorem vInts_ev (xs : List Int) (hn : xs.length ≤ 9223372036854775806) : Ev (fun k => laws_vInts.f k xs xs) true := by
  simp only [laws_vInts.f]
  exact evPos (by trivial) (vInts_l0 xs hn xs [] 0 rfl rfl)


theorem rd_T54_at {xs pre t : List S54} {a : S54} (h : xs = pre ++ a :: t) {i : Int} (hi : i = pre.length) : rd_T54 xs i = a := getD_at h hi

theorem within_eq (a b c : Int) : impl_within.f a b c = some (decide (b ≤ a ∧ a ≤ c)) := by
  unfold impl_within.f
  by_cases h : a ≥ b
  · rw [if_pos h]; exact congrArg some (decide_eq_decide.mpr ⟨fun g => ⟨h, g⟩, fun g => g.2⟩)
  · rw [if_neg h]; exact congrArg some (decide_eq_false (fun g => h g.1)).symm
theorem l1In_eq (a b c : Int) : spec_l1In.f a b c = some (decide (b ≤ a ∧ a ≤ c)) := by
  unfold spec_l1In.f
  by_cases h : a ≥ b
  · rw [if_pos h]; exact congrArg some (decide_eq_decide.mpr ⟨fun g => ⟨h, g⟩, fun g => g.2⟩)
  · rw [if_neg h]; exact congrArg some (decide_eq_false (fun g => h g.1)).symm

theorem isAmount_eq (a : Int) : impl_isAmount.f a = some (decide (-1000000000 ≤ a ∧ a ≤ 1000000000)) := by
  unfold impl_isAmount.f; rw [within_eq]; rfl

def okC (p : Int) (a : S54) : Prop := (0 ≤ a.f0 ∧ a.f0 ≤ p - 1) ∧ (0 ≤ a.f1 ∧ a.f1 ≤ p - 1) ∧ a.f0 ≠ a.f1 ∧ (1 ≤ a.f2 ∧ a.f2 ≤ 1000000000)
instance (p : Int) (a : S54) : Decidable (okC p a) := by unfold okC; infer_instance
def sumC : List S54 → Int
  | [] => 0
  | a :: t => a.f2 + sumC t
theorem sumC_snoc (p : List S54) (a : S54) : sumC (p ++ [a]) = sumC p + a.f2 := by
  induction p with
  | nil => simp [sumC]
  | cons b t ih => simp only [List.cons_append, sumC, ih]; omega
theorem sumC_append (p q : List S54) : sumC (p ++ q) = sumC p + sumC q := by
  induction p with
  | nil => simp [sumC]
  | cons b t ih => simp only [List.cons_append, sumC, ih]; omega
theorem sumC_bd {n : Int} (p : List S54) (h : ∀ a ∈ p, okC n a) : 0 ≤ sumC p ∧ sumC p ≤ 1000000000 * p.length := by
  induction p with
  | nil => simp [sumC]
  | cons b t ih =>
    have h1 := ih (fun a ha => h a (List.mem_cons_of_mem _ ha))
    have h2 := (h b List.mem_cons_self).2.2.2
    simp only [sumC, List.length_cons]
    omega
def goodC (xs : List S54) (p : Int) : Bool := decide ((2 ≤ p ∧ p ≤ 8) ∧ xs.length ≤ 20 ∧ (∀ a ∈ xs, okC p a) ∧ sumC xs ≤ 1000000000)
theorem okC_snoc {n : Int} {pre : List S54} {a : S54} (hok : ∀ b ∈ pre, okC n b) (ha : okC n a) : ∀ b ∈ pre ++ [a], okC n b := by
  intro b hb
  rcases List.mem_append.mp hb with g | g
  · exact hok b g
  · rw [List.mem_singleton.mp g]; exact ha
theorem implValidC_l0 (p : Int) (hp : 2 ≤ p ∧ p ≤ 8) (xs : List S54) (hn : xs.length ≤ 20) : ∀ (rest pre : List S54) (i : Int), xs = pre ++ rest → i = pre.length → (∀ a ∈ pre, okC p a) → Ev (fun k => impl_IsValidClaims.l0 k p (sumC pre) xs (xs.length : Int) i) (goodC xs p) := by
  have hw : wrap64 (p - 1) = p - 1 := wrapId (by omega)
  intro rest
  induction rest with
  | nil =>
    intro pre i h hi hok
    have hl := len_nil h
    have hx : xs = pre := by simpa using h
    have hb := sumC_bd pre hok
    refine evSucc ?_
    simp only [impl_IsValidClaims.l0, isAmount_eq, Option.bind_some]
    refine evNeg (by omega) ?_
    refine evSome ?_
    unfold goodC
    rw [decide_eq_decide, hx]
    exact ⟨fun g => ⟨hp, by rw [← hx]; exact hn, hok, g.2⟩, fun g => ⟨by omega, g.2.2.2⟩⟩
  | cons a t ih =>
    intro pre i h hi hok
    have hl := len_cons h
    have hb := sumC_bd pre hok
    have ha : a ∈ xs := by rw [h]; simp
    refine evSucc ?_
    simp only [impl_IsValidClaims.l0, within_eq, Option.bind_some, decide_eq_true_eq, rd_T54_at h hi, hw]
    refine evPos (by omega) ?_
    refine evPos (by omega) ?_
    refine evPos (by omega) ?_
    have bad : ¬ okC p a → false = goodC xs p := fun n => (decide_eq_false (fun g => n (g.2.2.1 a ha))).symm
    refine evIte (fun c1 => ?_) (fun c1 => evSome (bad (fun g => c1 g.1)))
    refine evIte (fun c2 => ?_) (fun c2 => evSome (bad (fun g => c2 g.2.1)))
    refine evIte (fun c3 => evSome (bad (fun g => g.2.2.1 c3))) (fun c3 => ?_)
    refine evIte (fun c4 => ?_) (fun c4 => evSome (bad (fun g => c4 g.2.2.2)))
    have e : wrap64 (sumC pre + a.f2) = sumC (pre ++ [a]) := by rw [sumC_snoc, wrapId (by omega)]
    rw [e]
    exact ih (pre ++ [a]) _ (snoc h) (by rw [wrapId (by omega), len_snoc]; omega) (okC_snoc hok ⟨c1, c2, c3, c4⟩)
theorem implValidC_ev (xs : List S54) (p : Int) (hn : xs.length ≤ 1048576) : Ev (fun k => impl_IsValidClaims.f k xs p) (goodC xs p) := by
  simp only [impl_IsValidClaims.f, within_eq, Option.bind_some, decide_eq_true_eq]
  refine evIte (fun c1 => ?_) (fun c1 => ?_)
  · refine evSucc ?_
    simp only [impl_IsValidClaims.j0, decide_eq_true_eq]
    refine evIte (fun c2 => ?_) (fun c2 => ?_)
    · exact evSome (decide_eq_false (fun g => by have := g.2.1; omega)).symm
    · exact implValidC_l0 p c1 xs (by omega) xs [] 0 rfl rfl (by simp)
  · refine evSucc ?_
    simp only [impl_IsValidClaims.j0]
    exact evPos (by trivial) (evSome (decide_eq_false (fun g => c1 g.1)).symm)
theorem specGross_l0 (p : Int) (xs : List S54) (hn : xs.length ≤ 20) (hok : ∀ a ∈ xs, okC p a) : ∀ (rest pre : List S54) (i : Int), xs = pre ++ rest → i = pre.length → Ev (fun k => spec_l16Gross.l0 k xs (sumC pre) i) (sumC xs) := by
  intro rest
  induction rest with
  | nil =>
    intro pre i h hi
    have hl := len_nil h
    refine evSucc ?_
    simp only [spec_l16Gross.l0]
    refine evNeg (by omega) ?_
    exact evSome (by rw [h]; simp)
  | cons a t ih =>
    intro pre i h hi
    have hl := len_cons h
    have hp : ∀ b ∈ pre, okC p b := fun b hb => hok b (by rw [h]; simp [hb])
    have hb := sumC_bd pre hp
    have ha := (hok a (by rw [h]; simp)).2.2.2
    refine evSucc ?_
    simp only [spec_l16Gross.l0, rd_T54_at h hi]
    refine evPos (by omega) ?_
    refine evPos (by omega) ?_
    have e : wrap64 (sumC pre + a.f2) = sumC (pre ++ [a]) := by rw [sumC_snoc, wrapId (by omega)]
    rw [e]
    exact ih (pre ++ [a]) _ (snoc h) (by rw [wrapId (by omega), len_snoc]; omega)
theorem specGross_ev (p : Int) (xs : List S54) (hn : xs.length ≤ 20) (hok : ∀ a ∈ xs, okC p a) : Ev (fun k => spec_l16Gross.f k xs) (sumC xs) := by
  simp only [spec_l16Gross.f]
  exact specGross_l0 p xs hn hok xs [] 0 rfl rfl
theorem specGoodC_l0 (p : Int) (hp : 2 ≤ p ∧ p ≤ 8) (xs : List S54) (hn : xs.length ≤ 20) : ∀ (rest pre : List S54) (i : Int), xs = pre ++ rest → i = pre.length → (∀ a ∈ pre, okC p a) → Ev (fun k => spec_l16Good.l0 k xs p i) (goodC xs p) := by
  have hw : wrap64 (p - 1) = p - 1 := wrapId (by omega)
  intro rest
  induction rest with
  | nil =>
    intro pre i h hi hok
    have hl := len_nil h
    have hx : xs = pre := by simpa using h
    refine evSucc ?_
    simp only [spec_l16Good.l0]
    refine evNeg (by omega) ?_
    refine evBind (specGross_ev p xs hn (by rw [hx]; exact hok)) (evSome ?_)
    unfold goodC
    rw [decide_eq_decide]
    exact ⟨fun g => ⟨hp, hn, by rw [hx]; exact hok, g⟩, fun g => g.2.2.2⟩
  | cons a t ih =>
    intro pre i h hi hok
    have hl := len_cons h
    have ha : a ∈ xs := by rw [h]; simp
    refine evSucc ?_
    simp only [spec_l16Good.l0, l1In_eq, Option.bind_some, decide_eq_true_eq, rd_T54_at h hi, hw]
    refine evPos (by omega) ?_
    refine evPos (by omega) ?_
    have bad : ¬ okC p a → false = goodC xs p := fun n => (decide_eq_false (fun g => n (g.2.2.1 a ha))).symm
    refine evIte (fun c1 => ?_) (fun c1 => evSome (bad (fun g => c1 g.1)))
    refine evIte (fun c2 => ?_) (fun c2 => evSome (bad (fun g => c2 g.2.1)))
    refine evIte (fun c3 => evSome (bad (fun g => g.2.2.1 c3))) (fun c3 => ?_)
    refine evIte (fun c4 => ?_) (fun c4 => evSome (bad (fun g => c4 g.2.2.2)))
    exact ih (pre ++ [a]) _ (snoc h) (by rw [wrapId (by omega), len_snoc]; omega) (okC_snoc hok ⟨c1, c2, c3, c4⟩)
theorem specGoodC_ev (xs : List S54) (p : Int) (hn : xs.length ≤ 1048576) : Ev (fun k => spec_l16Good.f k xs p) (goodC xs p) := by
  simp only [spec_l16Good.f, l1In_eq, Option.bind_some, decide_eq_true_eq]
  refine evIte (fun c1 => ?_) (fun c1 => ?_)
  · refine evSucc ?_
    simp only [spec_l16Good.j0, decide_eq_true_eq]
    refine evIte (fun c2 => ?_) (fun c2 => ?_)
    · exact evSome (decide_eq_false (fun g => by have := g.2.1; omega)).symm
    · exact specGoodC_l0 p c1 xs (by omega) xs [] 0 rfl rfl (by simp)
  · refine evSucc ?_
    simp only [spec_l16Good.j0]
    exact evPos (by trivial) (evSome (decide_eq_false (fun g => c1 g.1)).symm)

def posStep (out : List Int) (a : S54) : List Int :=
  (out.set a.f0.toNat (wrap64 (rd out a.f0 - a.f2))).set a.f1.toNat (wrap64 (rd (out.set a.f0.toNat (wrap64 (rd out a.f0 - a.f2))) a.f1 + a.f2))
def posFold : List Int → List S54 → List Int
  | out, [] => out
  | out, a :: t => posFold (posStep out a) t
theorem posStep_length (out : List Int) (a : S54) : (posStep out a).length = out.length := by simp [posStep]
theorem posFold_length : ∀ (xs : List S54) (out : List Int), (posFold out xs).length = out.length
  | [], _ => rfl
  | a :: t, out => by rw [posFold, posFold_length t, posStep_length]
def lsum : List Int → Int
  | [] => 0
  | x :: t => x + lsum t
theorem lsum_set : ∀ (l : List Int) (i : Nat) (v : Int), i < l.length → lsum (l.set i v) = lsum l - l.getD i 0 + v
  | [], _, _, h => by simp at h
  | x :: t, 0, v, _ => by simp [lsum]; omega
  | x :: t, i + 1, v, h => by
    have := lsum_set t i v (by simpa using h)
    simp only [List.set_cons_succ, lsum, this, List.getD_cons_succ]
    omega
theorem lsum_replicate : ∀ m : Nat, lsum (List.replicate m 0) = 0
  | 0 => rfl
  | m + 1 => by rw [List.replicate_succ, lsum, lsum_replicate m]; rfl
theorem mem_set_or {l : List Int} {i : Nat} {v x : Int} (h : x ∈ l.set i v) : x ∈ l ∨ x = v := by
  rcases List.mem_or_eq_of_mem_set h with h | h
  · exact .inl h
  · exact .inr h
theorem rd_mem {l : List Int} {i : Int} (h0 : 0 ≤ i) (h1 : i < l.length) : rd l i ∈ l := by
  rw [rd, List.getD_eq_getElem?_getD, List.getElem?_eq_getElem (by omega)]
  exact List.getElem_mem _
/-- Positions add up to nothing, and none is greater than the sum of all claims. -/
theorem posFold_facts (m : Nat) (xs : List S54) (hok : ∀ a ∈ xs, okC m a) (hs : sumC xs ≤ 1000000000) : ∀ (rest pre : List S54) (out : List Int), xs = pre ++ rest → out.length = m → lsum out = 0 → (∀ x ∈ out, -sumC pre ≤ x ∧ x ≤ sumC pre) →
    lsum (posFold out rest) = 0 ∧ (∀ x ∈ posFold out rest, -1000000000 ≤ x ∧ x ≤ 1000000000) := by
  intro rest
  induction rest with
  | nil =>
    intro pre out h ho hl hb
    have e : xs = pre := by simpa using h
    refine ⟨hl, fun x hx => ?_⟩
    have := hb x hx
    rw [← e] at this
    omega
  | cons a t ih =>
    intro pre out h ho hl hb
    have ha := hok a (by rw [h]; simp)
    have h1 := ha.1
    have h2 := ha.2.1
    have h3 := ha.2.2.1
    have h4 := ha.2.2.2
    have hp : 0 ≤ sumC pre := (sumC_bd pre (fun b hb => hok b (by rw [h]; simp [hb]))).1
    have ht : 0 ≤ sumC t := (sumC_bd t (fun b hb => hok b (by rw [h]; simp [hb]))).1
    have hall : sumC pre + a.f2 + sumC t = sumC xs := by rw [h, sumC_append, sumC]; omega
    have b0 := hb _ (rd_mem (l := out) (i := a.f0) (by omega) (by omega))
    have e0 : wrap64 (rd out a.f0 - a.f2) = rd out a.f0 - a.f2 := wrapId (by omega)
    obtain ⟨o1, ho1⟩ : ∃ o, o = out.set a.f0.toNat (rd out a.f0 - a.f2) := ⟨_, rfl⟩
    have l1 : o1.length = m := by rw [ho1, List.length_set]; exact ho
    have m1 : ∀ x ∈ o1, -(sumC pre + a.f2) ≤ x ∧ x ≤ sumC pre + a.f2 := by
      intro x hx
      rw [ho1] at hx
      rcases mem_set_or hx with g | g
      · have := hb x g; omega
      · omega
    have q1 : rd o1 a.f1 = rd out a.f1 := by
      rw [ho1]
      simp only [rd, List.getD_eq_getElem?_getD]
      rw [List.getElem?_set_ne (by omega)]
    have b1 := hb _ (rd_mem (l := out) (i := a.f1) (by omega) (by omega))
    have e1 : wrap64 (rd o1 a.f1 + a.f2) = rd o1 a.f1 + a.f2 := by rw [q1]; exact wrapId (by omega)
    have hstep : posStep out a = o1.set a.f1.toNat (rd o1 a.f1 + a.f2) := by
      unfold posStep
      rw [e0, ← ho1, e1]
    unfold posFold
    rw [hstep]
    refine ih (pre ++ [a]) _ (snoc h) (by rw [List.length_set]; exact l1) ?_ ?_
    · have z1 : lsum o1 = lsum out - rd out a.f0 + (rd out a.f0 - a.f2) := by rw [ho1]; exact lsum_set out a.f0.toNat _ (by omega)
      have z2 := lsum_set o1 a.f1.toNat (rd o1 a.f1 + a.f2) (by omega)
      have z3 : o1.getD a.f1.toNat 0 = rd o1 a.f1 := rfl
      omega
    · intro x hx
      rw [sumC_snoc]
      rcases mem_set_or hx with g | g
      · exact m1 x g
      · rw [q1] at g; omega

def goodB (bal : List Int) (p : Int) : Bool := decide ((bal.length : Int) = p ∧ ∀ x ∈ bal, 0 ≤ x ∧ x ≤ 1000000000)
theorem specBal_l0 (p : Int) (xs : List Int) (hn : xs.length ≤ 1048576) : ∀ (rest pre : List Int) (i : Int), xs = pre ++ rest → i = pre.length → (∀ x ∈ pre, 0 ≤ x ∧ x ≤ 1000000000) → Ev (fun k => spec_l16Balances.l0 k xs p i) (goodB xs p) := by
  intro rest
  induction rest with
  | nil =>
    intro pre i h hi hok
    have hl := len_nil h
    have hx : xs = pre := by simpa using h
    refine evSucc ?_
    simp only [spec_l16Balances.l0]
    refine evNeg (by omega) (evSome ?_)
    unfold goodB
    rw [Bool.eq_iff_iff, beq_iff_eq, decide_eq_true_iff, hx]
    exact ⟨fun g => ⟨g, hok⟩, fun g => g.1⟩
  | cons a t ih =>
    intro pre i h hi hok
    have hl := len_cons h
    have ha : rd xs i = a := rd_at h hi
    have hm : a ∈ xs := by rw [h]; simp
    refine evSucc ?_
    simp only [spec_l16Balances.l0, l1In_eq, Option.bind_some, decide_eq_true_eq, ha]
    refine evPos (by omega) ?_
    refine evPos (by omega) ?_
    refine evIte (fun c => ?_) (fun c => evSome (decide_eq_false (fun g => c (g.2 a hm))).symm)
    exact ih (pre ++ [a]) _ (snoc h) (by rw [wrapId (by omega), len_snoc]; omega) (fun x hx => by
      rcases List.mem_append.mp hx with q | q
      · exact hok x q
      · rw [List.mem_singleton.mp q]; exact c)
theorem specBal_ev (xs : List Int) (p : Int) (hn : xs.length ≤ 1048576) : Ev (fun k => spec_l16Balances.f k xs p) (goodB xs p) := by
  simp only [spec_l16Balances.f]
  exact specBal_l0 p xs hn xs [] 0 rfl rfl (by simp)
theorem specHas_l0 (x : Int) (xs : List Int) (hn : xs.length ≤ 1048576) : ∀ (rest pre : List Int) (i : Int), xs = pre ++ rest → i = pre.length → x ∉ pre → Ev (fun k => spec_l1Has.l0 k xs x i) (decide (x ∈ xs)) := by
  intro rest
  induction rest with
  | nil =>
    intro pre i h hi hok
    have hl := len_nil h
    have hx : xs = pre := by simpa using h
    refine evSucc ?_
    simp only [spec_l1Has.l0]
    refine evNeg (by omega) (evSome ?_)
    exact (decide_eq_false (by rw [hx]; exact hok)).symm
  | cons a t ih =>
    intro pre i h hi hok
    have hl := len_cons h
    have ha : rd xs i = a := rd_at h hi
    refine evSucc ?_
    simp only [spec_l1Has.l0, ha]
    refine evPos (by omega) ?_
    refine evPos (by omega) ?_
    refine evIte (fun c => evSome (decide_eq_true (by rw [h, ← c]; simp)).symm) (fun c => ?_)
    exact ih (pre ++ [a]) _ (snoc h) (by rw [wrapId (by omega), len_snoc]; omega) (fun q => by
      rcases List.mem_append.mp q with q | q
      · exact hok q
      · exact c (List.mem_singleton.mp q).symm)
theorem specHas_ev (xs : List Int) (x : Int) (hn : xs.length ≤ 1048576) : Ev (fun k => spec_l1Has.f k xs x) (decide (x ∈ xs)) := by
  simp only [spec_l1Has.f]
  exact specHas_l0 x xs hn xs [] 0 rfl rfl (by simp)
theorem ixOf_l0 (x : Int) (xs : List Int) (hn : xs.length ≤ 1048576) : ∀ (rest pre : List Int) (i : Int), xs = pre ++ rest → i = pre.length → x ∉ pre → ∃ r, Ev (fun k => slices_Index_int_int.l0 k xs x (xs.length : Int) i) r ∧ (0 ≤ r ↔ x ∈ xs) := by
  intro rest
  induction rest with
  | nil =>
    intro pre i h hi hok
    have hl := len_nil h
    have hx : xs = pre := by simpa using h
    refine ⟨-1, evSucc ?_, ⟨fun g => absurd g (by decide), fun g => absurd g (by rw [hx]; exact hok)⟩⟩
    simp only [slices_Index_int_int.l0]
    exact evNeg (by omega) (evSome rfl)
  | cons a t ih =>
    intro pre i h hi hok
    have hl := len_cons h
    have ha : rd xs i = a := rd_at h hi
    by_cases c : x = a
    · refine ⟨i, evSucc ?_, ⟨fun _ => by rw [h, c]; simp, fun _ => by omega⟩⟩
      simp only [slices_Index_int_int.l0, ha]
      refine evPos (by omega) ?_
      refine evPos (by omega) ?_
      refine evPos (by omega) ?_
      exact evPos c (evSome rfl)
    · obtain ⟨r, h1, h2⟩ := ih (pre ++ [a]) (wrap64 (i + 1)) (snoc h) (by rw [wrapId (by omega), len_snoc]; omega) (fun q => by
        rcases List.mem_append.mp q with q | q
        · exact hok q
        · exact c (List.mem_singleton.mp q))
      refine ⟨r, evSucc ?_, h2⟩
      simp only [slices_Index_int_int.l0, ha]
      refine evPos (by omega) ?_
      refine evPos (by omega) ?_
      refine evPos (by omega) ?_
      exact evNeg c h1
theorem contains_ev (xs : List Int) (x : Int) (hn : xs.length ≤ 1048576) : Ev (fun k => slices_Contains_int_int.f k xs x) (decide (x ∈ xs)) := by
  obtain ⟨r, h1, h2⟩ := ixOf_l0 x xs hn xs [] 0 rfl rfl (by simp)
  simp only [slices_Contains_int_int.f, slices_Index_int_int.f]
  exact evBind h1 (evSome (decide_eq_decide.mpr h2))
theorem own_eq (l : List Int) (h : l.length ≤ 1048576) : spec_l1Own.f l = some l := by
  unfold spec_l1Own.f
  simp only [Option.bind_some, List.nil_append, List.length_nil]
  rw [if_pos (by omega)]
/-- How many of the first n numbers are not in a list. -/
def miss : Nat → List Int → Nat
  | 0, _ => 0
  | n + 1, l => (if (n : Int) ∈ l then 0 else 1) + miss n l
theorem miss_nil : ∀ n, miss n [] = n
  | 0 => rfl
  | n + 1 => by rw [miss, miss_nil n]; simp; omega
theorem miss_ge (l : List Int) (i : Nat) : ∀ n, n ≤ i → miss n (l ++ [(i : Int)]) = miss n l
  | 0, _ => rfl
  | n + 1, h => by
    rw [miss, miss, miss_ge l i n (by omega)]
    congr 1
    by_cases c : (n : Int) ∈ l
    · rw [if_pos c, if_pos (by simp [c])]
    · rw [if_neg c, if_neg (by rw [List.mem_append, List.mem_singleton]; exact fun q => q.elim c (fun e => by omega))]
theorem miss_add {l : List Int} {i : Nat} (hi : (i : Int) ∉ l) : ∀ n, i < n → miss n (l ++ [(i : Int)]) + 1 = miss n l
  | 0, h => absurd h (Nat.not_lt_zero _)
  | n + 1, h => by
    by_cases e : n = i
    · subst e
      rw [miss, miss, miss_ge l n n (Nat.le_refl _), if_pos (by simp), if_neg hi]
      omega
    · have ih := miss_add hi n (by omega)
      rw [miss, miss]
      by_cases c : (n : Int) ∈ l
      · rw [if_pos c, if_pos (by simp [c])]; omega
      · rw [if_neg c, if_neg (by rw [List.mem_append, List.mem_singleton]; exact fun q => q.elim c (fun e => by omega))]; omega
/-- One pass over the claims. -/
def passS : List S54 → Int → List Int → List Int → Bool → Option (List Int × List Int × Bool)
  | [], _, out, bal, more => some (out, bal, more)
  | a :: t, i, out, bal, more => if i ∈ out ∨ rd bal a.f0 < a.f2 then passS t (i + 1) out bal more else if 1000000000 < rd (posStep bal a) a.f1 then none else passS t (i + 1) (out ++ [i]) (posStep bal a) true
def settleK (xs : List S54) : Nat → List Int → List Int → List Int × List Int × Bool
  | 0, _, _ => ([], [], false)
  | k + 1, out, bal => match passS xs 0 out bal false with
    | none => ([], [], false)
    | some (o, b, more) => if more = true then settleK xs k o b else (o, b, true)
def setA (xs : List S54) (p : Int) (bal : List Int) : List Int × List Int × Bool := if goodC xs p = true ∧ goodB bal p = true then settleK xs (xs.length + 1) [] bal else ([], [], false)
theorem posStep_ok {m : Nat} {bal : List Int} {a : S54} (ha : okC m a) (hl : bal.length = m) (hb : ∀ x ∈ bal, 0 ≤ x ∧ x ≤ 1000000000) (hc : ¬ rd bal a.f0 < a.f2) (hd : ¬ 1000000000 < rd (posStep bal a) a.f1) : ∀ x ∈ posStep bal a, 0 ≤ x ∧ x ≤ 1000000000 := by
  have h0 := ha.1
  have h1 := ha.2.1
  have hne := ha.2.2.1
  have h3 := ha.2.2.2
  have b0 := hb _ (rd_mem (l := bal) (i := a.f0) (by omega) (by omega))
  have e0 : wrap64 (rd bal a.f0 - a.f2) = rd bal a.f0 - a.f2 := wrapId (by omega)
  have b1 := hb _ (rd_mem (l := bal) (i := a.f1) (by omega) (by omega))
  have r1 : rd (bal.set a.f0.toNat (rd bal a.f0 - a.f2)) a.f1 = rd bal a.f1 := by
    rw [rd, rd, List.getD_eq_getElem?_getD, List.getElem?_set_ne (by omega), ← List.getD_eq_getElem?_getD]
    rfl
  have e1 : wrap64 (rd bal a.f1 + a.f2) = rd bal a.f1 + a.f2 := wrapId (by omega)
  have r2 : rd (posStep bal a) a.f1 = rd bal a.f1 + a.f2 := by
    unfold posStep
    rw [e0, r1, e1, rd, List.getD_eq_getElem?_getD, List.getElem?_set_self (by rw [List.length_set]; omega)]
    rfl
  rw [r2] at hd
  intro x hx
  unfold posStep at hx
  rw [e0, r1, e1] at hx
  rcases mem_set_or hx with g | g
  · rcases mem_set_or g with q | q
    · exact hb x q
    · omega
  · omega
theorem rd_posStep1 {m : Nat} {bal : List Int} {a : S54} (ha : okC m a) (hl : bal.length = m) (hb : ∀ x ∈ bal, 0 ≤ x ∧ x ≤ 1000000000) (hc : ¬ rd bal a.f0 < a.f2) : posStep bal a = (bal.set a.f0.toNat (rd bal a.f0 - a.f2)).set a.f1.toNat (rd bal a.f1 + a.f2) ∧ rd (bal.set a.f0.toNat (rd bal a.f0 - a.f2)) a.f1 = rd bal a.f1 ∧ rd (posStep bal a) a.f1 = rd bal a.f1 + a.f2 ∧ (0 ≤ rd bal a.f0 ∧ rd bal a.f0 ≤ 1000000000) ∧ (0 ≤ rd bal a.f1 ∧ rd bal a.f1 ≤ 1000000000) := by
  have h0 := ha.1
  have h1 := ha.2.1
  have hne := ha.2.2.1
  have h3 := ha.2.2.2
  have b0 := hb _ (rd_mem (l := bal) (i := a.f0) (by omega) (by omega))
  have e0 : wrap64 (rd bal a.f0 - a.f2) = rd bal a.f0 - a.f2 := wrapId (by omega)
  have b1 := hb _ (rd_mem (l := bal) (i := a.f1) (by omega) (by omega))
  have r1 : rd (bal.set a.f0.toNat (rd bal a.f0 - a.f2)) a.f1 = rd bal a.f1 := by
    rw [rd, rd, List.getD_eq_getElem?_getD, List.getElem?_set_ne (by omega), ← List.getD_eq_getElem?_getD]
    rfl
  have e1 : wrap64 (rd bal a.f1 + a.f2) = rd bal a.f1 + a.f2 := wrapId (by omega)
  have p1 : posStep bal a = (bal.set a.f0.toNat (rd bal a.f0 - a.f2)).set a.f1.toNat (rd bal a.f1 + a.f2) := by unfold posStep; rw [e0, r1, e1]
  refine ⟨p1, r1, ?_, b0, b1⟩
  rw [p1, rd, List.getD_eq_getElem?_getD, List.getElem?_set_self (by rw [List.length_set]; omega)]
  rfl
/-- What a pass and all passes keep short. -/
theorem passS_len : ∀ (t : List S54) (i : Nat) (out bal : List Int) (more : Bool) (o b : List Int) (m' : Bool), passS t i out bal more = some (o, b, m') → o.length ≤ out.length + t.length ∧ b.length = bal.length
  | [], i, out, bal, more, o, b, m', h => by
    simp only [passS, Option.some.injEq, Prod.mk.injEq] at h
    rw [← h.1, ← h.2.1]
    exact ⟨Nat.le_refl _, rfl⟩
  | a :: t, i, out, bal, more, o, b, m', h => by
    rw [passS] at h
    split at h
    · have := passS_len t (i + 1) out bal more o b m' h
      exact ⟨by rw [List.length_cons]; omega, this.2⟩
    · split at h
      · cases h
      · have := passS_len t (i + 1) _ _ _ o b m' h
        rw [List.length_append, List.length_singleton, posStep_length] at this
        exact ⟨by rw [List.length_cons]; omega, this.2⟩
theorem settle_len (xs : List S54) : ∀ (k : Nat) (out bal : List Int), (settleK xs k out bal).1.length ≤ out.length + k * xs.length ∧ (settleK xs k out bal).2.1.length ≤ bal.length
  | 0, out, bal => by simp [settleK]
  | k + 1, out, bal => by
    rw [settleK]
    cases hp : passS xs 0 out bal false with
    | none => simp
    | some q =>
      obtain ⟨o, b, more⟩ := q
      have h1 := passS_len xs 0 out bal false o b more (by exact_mod_cast hp)
      have h2 := settle_len xs k o b
      rw [Nat.succ_mul]
      by_cases c : more = true
      · simp only [c, if_true]; omega
      · simp only [if_neg c]; omega
theorem setA_len (xs : List S54) (p : Int) (bal : List Int) : (setA xs p bal).1.length ≤ 420 ∧ (setA xs p bal).2.1.length ≤ 8 := by
  unfold setA
  split
  · rename_i g
    have g1 := of_decide_eq_true g.1
    have g2 := of_decide_eq_true g.2
    have h := settle_len xs (xs.length + 1) [] bal
    have hmm : (xs.length + 1) * xs.length ≤ 21 * 20 := Nat.mul_le_mul (by omega) (by omega)
    simp only [List.length_nil, Nat.zero_add] at h
    omega
  · simp
theorem passS_skip {a : S54} {t : List S54} {n : Nat} {out bal : List Int} {more : Bool} (h : (n : Int) ∈ out ∨ rd bal a.f0 < a.f2) : passS (a :: t) n out bal more = passS t ((n + 1 : Nat) : Int) out bal more := by
  rw [passS, if_pos h]
  rfl
theorem passS_over {a : S54} {t : List S54} {n : Nat} {out bal : List Int} {more : Bool} (h : ¬ (n : Int) ∈ out) (h1 : ¬ rd bal a.f0 < a.f2) (h2 : 1000000000 < rd (posStep bal a) a.f1) : passS (a :: t) n out bal more = none := by
  rw [passS, if_neg (fun q => q.elim h h1), if_pos h2]
theorem passS_take {a : S54} {t : List S54} {n : Nat} {out bal : List Int} {more : Bool} (h : ¬ (n : Int) ∈ out) (h1 : ¬ rd bal a.f0 < a.f2) (h2 : ¬ 1000000000 < rd (posStep bal a) a.f1) : passS (a :: t) n out bal more = passS t ((n + 1 : Nat) : Int) (out ++ [(n : Int)]) (posStep bal a) true := by
  rw [passS, if_neg (fun q => q.elim h h1), if_neg h2]
  rfl
theorem settleK_none {xs : List S54} {k : Nat} {out bal : List Int} (h : passS xs 0 out bal false = none) : settleK xs (k + 1) out bal = ([], [], false) := by rw [settleK, h]
theorem settleK_more {xs : List S54} {k : Nat} {out bal o b : List Int} (h : passS xs 0 out bal false = some (o, b, true)) : settleK xs (k + 1) out bal = settleK xs k o b := by rw [settleK, h]; rfl
theorem settleK_done {xs : List S54} {k : Nat} {out bal o b : List Int} (h : passS xs 0 out bal false = some (o, b, false)) : settleK xs (k + 1) out bal = (o, b, true) := by rw [settleK, h]; rfl

theorem i64_and1 (x : Int) (h0 : 0 ≤ x) (h1 : x < 4611686018427387904) : Go.bits .and .i64 x 1 = x % 2 :=
  bits_mask .i64 62 (by decide) (fun n a b => by rw [IntKind.wrap_i64]; omega) 1 (by decide) x h0 h1
theorem shr_nat (v i : Nat) (hi : i ≤ 62) : shr .i64 (v : Int) (i : Int) = ((v / 2 ^ i : Nat) : Int) := by
  unfold shr
  rw [show min (i : Int).toNat (IntKind.i64).bits = i from Nat.min_eq_left (by simp [IntKind.bits]; omega)]
  simp
theorem u64_small (x : Int) (h0 : 0 ≤ x) (h1 : x ≤ 9223372036854775807) : IntKind.u64.wrap x = x := by
  simp only [IntKind.wrap, IntKind.bits, IntKind.signed]; simp; omega
theorem bit_at (v i : Nat) (hi : i ≤ 62) (hv : v < 1048576) : Go.bits .and .i64 (shr .i64 (v : Int) (i : Int)) 1 = ((v / 2 ^ i % 2 : Nat) : Int) := by
  rw [shr_nat v i hi]
  have h := Nat.div_le_self v (2 ^ i)
  generalize v / 2 ^ i = q at h ⊢
  rw [i64_and1 _ (by omega) (by omega)]
  omega
theorem div_pow_succ (v i : Nat) : v / 2 ^ (i + 1) = v / 2 ^ i / 2 := by rw [Nat.pow_succ, Nat.div_div_eq_div_mul]
/-- The places of v's bits that are 1, counted from i; n places at most. -/
def blF : Nat → Nat → Int → List Int
  | 0, _, _ => []
  | n + 1, v, i => (if v % 2 = 1 then [i] else []) ++ blF n (v / 2) (i + 1)
theorem blF_zero : ∀ (n : Nat) (i : Int), blF n 0 i = []
  | 0, _ => rfl
  | n + 1, i => by simp [blF, blF_zero n]
theorem blF_length : ∀ (n v : Nat) (i : Int), (blF n v i).length ≤ n
  | 0, _, _ => by simp [blF]
  | n + 1, v, i => by
    have := blF_length n (v / 2) (i + 1)
    unfold blF
    split <;> simp <;> omega

theorem getD_memT {l : List Int} {i : Nat} (h : i < l.length) : l.getD i 0 ∈ l := by
  rw [List.getD_eq_getElem?_getD, List.getElem?_eq_getElem h]
  exact List.getElem_mem _
/-- The claims of a set. -/
def pickF : List S54 → Nat → List S54
  | [], _ => []
  | a :: t, v => (if v % 2 = 1 then [a] else []) ++ pickF t (v / 2)
theorem pickF_zero : ∀ xs : List S54, pickF xs 0 = []
  | [] => rfl
  | a :: t => by simp [pickF, pickF_zero t]
theorem pickF_mem : ∀ (xs : List S54) (v : Nat) (a : S54), a ∈ pickF xs v → a ∈ xs
  | [], _, _, h => by simp [pickF] at h
  | b :: t, v, a, h => by
    rw [pickF] at h
    rcases List.mem_append.mp h with g | g
    · split at g
      · rw [List.mem_singleton.mp g]; exact List.mem_cons_self
      · simp at g
    · exact List.mem_cons_of_mem _ (pickF_mem t _ a g)
theorem pickF_len : ∀ (xs : List S54) (v : Nat), (pickF xs v).length ≤ xs.length
  | [], _ => by simp [pickF]
  | b :: t, v => by
    have := pickF_len t (v / 2)
    rw [pickF]
    split <;> simp <;> omega
theorem pickF_sum {n : Int} : ∀ (xs : List S54) (v : Nat), (∀ a ∈ xs, okC n a) → sumC (pickF xs v) ≤ sumC xs
  | [], _, _ => by simp [pickF]
  | b :: t, v, h => by
    have h1 := pickF_sum t (v / 2) (fun a ha => h a (List.mem_cons_of_mem _ ha))
    have h2 := (h b List.mem_cons_self).2.2.2
    rw [pickF]
    split
    · show sumC (b :: pickF t (v / 2)) ≤ sumC (b :: t)
      simp only [sumC]; omega
    · simp only [List.nil_append, sumC]; omega
/-- What a claim, and claims, do to a balance. -/
def dl (a : S54) (j : Nat) : Int := (if a.f1 = (j : Int) then a.f2 else 0) - (if a.f0 = (j : Int) then a.f2 else 0)
def dsum : List S54 → Nat → Int
  | [], _ => 0
  | a :: t, j => dl a j + dsum t j
theorem posStep_get {m : Nat} {out : List Int} {a : S54} (ha : okC m a) (hl : out.length = m) (B : Int) (hB : 0 ≤ B ∧ B ≤ 4000000000) (hb : ∀ x ∈ out, -B ≤ x ∧ x ≤ B) : (∀ j, j < m → (posStep out a).getD j 0 = out.getD j 0 + dl a j) ∧ ∀ x ∈ posStep out a, -(B + a.f2) ≤ x ∧ x ≤ B + a.f2 := by
  have h0 := ha.1
  have h1 := ha.2.1
  have hne := ha.2.2.1
  have h3 := ha.2.2.2
  have b0 := hb _ (rd_mem (l := out) (i := a.f0) (by omega) (by omega))
  have b1 := hb _ (rd_mem (l := out) (i := a.f1) (by omega) (by omega))
  have e0 : wrap64 (rd out a.f0 - a.f2) = rd out a.f0 - a.f2 := wrapId (by omega)
  have r1 : rd (out.set a.f0.toNat (rd out a.f0 - a.f2)) a.f1 = rd out a.f1 := by
    rw [rd, rd, List.getD_eq_getElem?_getD, List.getElem?_set_ne (by omega), ← List.getD_eq_getElem?_getD]
    rfl
  have e1 : wrap64 (rd out a.f1 + a.f2) = rd out a.f1 + a.f2 := wrapId (by omega)
  have p1 : posStep out a = (out.set a.f0.toNat (rd out a.f0 - a.f2)).set a.f1.toNat (rd out a.f1 + a.f2) := by unfold posStep; rw [e0, r1, e1]
  rw [p1]
  refine ⟨fun j hj => ?_, fun x hx => ?_⟩
  · unfold dl
    by_cases c1 : a.f1 = (j : Int)
    · rw [if_pos c1, if_neg (by omega)]
      have ej : a.f1.toNat = j := by omega
      rw [ej, List.getD_eq_getElem?_getD, List.getElem?_set_self (by rw [List.length_set]; omega)]
      show rd out a.f1 + a.f2 = out.getD j 0 + (a.f2 - 0)
      rw [rd, ej]
      omega
    · rw [if_neg c1, List.getD_eq_getElem?_getD, List.getElem?_set_ne (by omega), ← List.getD_eq_getElem?_getD]
      by_cases c0 : a.f0 = (j : Int)
      · rw [if_pos c0]
        have ej : a.f0.toNat = j := by omega
        rw [ej, List.getD_eq_getElem?_getD, List.getElem?_set_self (by omega)]
        show rd out a.f0 - a.f2 = out.getD j 0 + (0 - a.f2)
        rw [rd, ej]
        omega
      · rw [if_neg c0, List.getD_eq_getElem?_getD, List.getElem?_set_ne (by omega), ← List.getD_eq_getElem?_getD]
        omega
  · rcases mem_set_or hx with q | q
    · rcases mem_set_or q with q | q
      · have := hb x q; omega
      · omega
    · omega
theorem posStep_set {m : Nat} {out : List Int} {a : S54} (ha : okC m a) (hl : out.length = m) (B : Int) (hB : 0 ≤ B ∧ B ≤ 4000000000) (hb : ∀ x ∈ out, -B ≤ x ∧ x ≤ B) : posStep out a = (out.set a.f0.toNat (rd out a.f0 - a.f2)).set a.f1.toNat (rd out a.f1 + a.f2) ∧ rd (out.set a.f0.toNat (rd out a.f0 - a.f2)) a.f1 = rd out a.f1 ∧ (-B ≤ rd out a.f0 ∧ rd out a.f0 ≤ B) ∧ (-B ≤ rd out a.f1 ∧ rd out a.f1 ≤ B) := by
  have h0 := ha.1
  have h1 := ha.2.1
  have hne := ha.2.2.1
  have h3 := ha.2.2.2
  have b0 := hb _ (rd_mem (l := out) (i := a.f0) (by omega) (by omega))
  have b1 := hb _ (rd_mem (l := out) (i := a.f1) (by omega) (by omega))
  have e0 : wrap64 (rd out a.f0 - a.f2) = rd out a.f0 - a.f2 := wrapId (by omega)
  have r1 : rd (out.set a.f0.toNat (rd out a.f0 - a.f2)) a.f1 = rd out a.f1 := by
    rw [rd, rd, List.getD_eq_getElem?_getD, List.getElem?_set_ne (by omega), ← List.getD_eq_getElem?_getD]
    rfl
  have e1 : wrap64 (rd out a.f1 + a.f2) = rd out a.f1 + a.f2 := wrapId (by omega)
  exact ⟨by unfold posStep; rw [e0, r1, e1], r1, b0, b1⟩
theorem posFold_get {m : Nat} : ∀ (p : List S54) (out : List Int) (B : Int), (∀ a ∈ p, okC m a) → out.length = m → 0 ≤ B → B + sumC p ≤ 4000000000 → (∀ x ∈ out, -B ≤ x ∧ x ≤ B) → (∀ j, j < m → (posFold out p).getD j 0 = out.getD j 0 + dsum p j) ∧ ∀ x ∈ posFold out p, -(B + sumC p) ≤ x ∧ x ≤ B + sumC p
  | [], out, B, _, _, _, _, hb => ⟨fun j _ => by simp [posFold, dsum], fun x hx => by have := hb x hx; simp only [sumC]; omega⟩
  | a :: t, out, B, hok, hl, hB, hs, hb => by
    have ha := hok a List.mem_cons_self
    have ht := (sumC_bd t (fun x hx => hok x (List.mem_cons_of_mem _ hx))).1
    simp only [sumC] at hs ⊢
    have h3 := ha.2.2.2
    obtain ⟨g1, g2⟩ := posStep_get ha hl B ⟨hB, by omega⟩ hb
    obtain ⟨k1, k2⟩ := posFold_get t (posStep out a) (B + a.f2) (fun x hx => hok x (List.mem_cons_of_mem _ hx)) (by rw [posStep_length]; exact hl) (by omega) (by omega) g2
    refine ⟨fun j hj => ?_, fun x hx => ?_⟩
    · rw [posFold, k1 j hj, g1 j hj, dsum]; omega
    · have := k2 x hx; omega
def fitB (bal : List Int) (p : List S54) : Bool := decide (∀ j, j < bal.length → 0 ≤ bal.getD j 0 + dsum p j)
def stepTg (xs : List S54) (bal : List Int) (s : Nat × Int) (v : Nat) : Nat × Int := if fitB bal (pickF xs v) = true ∧ s.2 < sumC (pickF xs v) then (v, sumC (pickF xs v)) else s
def foldT (xs : List S54) (bal : List Int) : Nat → Nat → Nat × Int → Nat × Int
  | 0, _, s => s
  | d + 1, v, s => foldT xs bal d (v + 1) (stepTg xs bal s v)
theorem foldT_zero (xs : List S54) (bal : List Int) (d : Nat) (hd : 0 < d) : foldT xs bal d 0 (0, 0) = foldT xs bal (d - 1) 1 (0, 0) := by
  obtain ⟨e, rfl⟩ : ∃ e, d = e + 1 := ⟨d - 1, by omega⟩
  rw [foldT, stepTg, if_neg (by rw [pickF_zero]; simp [sumC])]
  rfl
theorem foldT_lt (xs : List S54) (bal : List Int) (N : Nat) : ∀ (d v : Nat) (s : Nat × Int), v + d ≤ N → s.1 < N → (foldT xs bal d v s).1 < N
  | 0, _, s, _, h => h
  | d + 1, v, s, hv, h => by
    rw [foldT]
    refine foldT_lt xs bal N d (v + 1) _ (by omega) ?_
    unfold stepTg
    split
    · show v < N; omega
    · exact h
def bestOf (xs : List S54) (bal : List Int) : Nat := (foldT xs bal (2 ^ xs.length - 1) 1 (0, 0)).1
theorem bestOf_lt (xs : List S54) (bal : List Int) : bestOf xs bal < 2 ^ xs.length := by
  have h : 0 < 2 ^ xs.length := Nat.pow_pos (by decide)
  exact foldT_lt xs bal _ _ _ _ (by omega) h
def togA (xs : List S54) (p : Int) (bal : List Int) : List Int × Bool := if goodC xs p = true ∧ xs.length ≤ 10 ∧ goodB bal p = true then (blF xs.length (bestOf xs bal) 0, true) else ([], false)
theorem togA_len (xs : List S54) (p : Int) (bal : List Int) : (togA xs p bal).1.length ≤ 10 := by
  unfold togA
  split
  · rename_i g
    have := blF_length xs.length (bestOf xs bal) 0
    show (blF xs.length (bestOf xs bal) 0).length ≤ 10
    omega
  · simp
theorem foldMinT : ∀ (l : List Int) (a : Int), (l.foldl min a = a ∨ l.foldl min a ∈ l) ∧ l.foldl min a ≤ a ∧ ∀ x ∈ l, l.foldl min a ≤ x
  | [], a => ⟨.inl rfl, Int.le_refl _, fun x hx => by simp at hx⟩
  | b :: t, a => by
    obtain ⟨h1, h2, h3⟩ := foldMinT t (min a b)
    refine ⟨?_, ?_, fun x hx => ?_⟩
    · rcases h1 with g | g
      · simp only [List.foldl_cons]
        rcases Int.le_total a b with q | q
        · rw [Int.min_eq_left q] at g ⊢; exact .inl g
        · rw [Int.min_eq_right q] at g ⊢; rw [g]; exact .inr List.mem_cons_self
      · exact .inr (List.mem_cons_of_mem _ g)
    · simp only [List.foldl_cons]; exact Int.le_trans h2 (Int.min_le_left _ _)
    · simp only [List.foldl_cons]
      rcases List.mem_cons.mp hx with rfl | hx
      · exact Int.le_trans h2 (Int.min_le_right _ _)
      · exact h3 x hx
theorem minOf_nonneg {l : List Int} (h : 0 < l.length) : 0 ≤ Lib.minOf l ↔ ∀ x ∈ l, 0 ≤ x := by
  obtain ⟨h1, h2, h3⟩ := foldMinT l (l.headD 0)
  have hd : l.headD 0 ∈ l := by
    cases l with
    | nil => simp at h
    | cons a t => exact List.mem_cons_self
  have hm : Lib.minOf l ∈ l := by
    unfold Lib.minOf
    rcases h1 with g | g
    · rw [g]; exact hd
    · exact g
  refine ⟨fun g x hx => ?_, fun g => g _ hm⟩
  have := h3 x hx
  unfold Lib.minOf at g
  omega
theorem fit_min {m : Nat} {bal : List Int} {p : List S54} (hl : bal.length = m) (hm : 0 < m) (hg : ∀ j, j < m → (posFold bal p).getD j 0 = bal.getD j 0 + dsum p j) : decide (0 ≤ Lib.minOf (posFold bal p)) = fitB bal p := by
  have hpl : (posFold bal p).length = m := by rw [posFold_length]; exact hl
  unfold fitB
  rw [decide_eq_decide, minOf_nonneg (by omega)]
  refine ⟨fun h j hj => ?_, fun h x hx => ?_⟩
  · rw [← hg j (by omega)]
    exact h _ (getD_memT (by omega))
  · obtain ⟨j, hj, e⟩ := List.getElem_of_mem hx
    have := h j (by omega)
    rw [← hg j (by omega), List.getD_eq_getElem?_getD, List.getElem?_eq_getElem hj] at this
    rw [← e]
    exact this

/-- The claims whose places are in a list. -/
def selP : List S54 → Nat → List Int → List S54
  | [], _, _ => []
  | a :: t, i, out => (if (i : Int) ∈ out then [a] else []) ++ selP t (i + 1) out
theorem sel_mask : ∀ (rest : List S54) (i : Nat) (out : List Int), ∃ v, v < 2 ^ rest.length ∧ pickF rest v = selP rest i out
  | [], i, out => ⟨0, by simp, rfl⟩
  | a :: t, i, out => by
    obtain ⟨v, h1, h2⟩ := sel_mask t (i + 1) out
    have hp : (2 : Nat) ^ (t.length + 1) = 2 ^ t.length * 2 := Nat.pow_succ 2 t.length
    by_cases c : (i : Int) ∈ out
    · refine ⟨2 * v + 1, by rw [List.length_cons]; omega, ?_⟩
      rw [pickF, selP, if_pos c, if_pos (by omega), show (2 * v + 1) / 2 = v from by omega, h2]
    · refine ⟨2 * v, by rw [List.length_cons]; omega, ?_⟩
      rw [pickF, selP, if_neg c, if_neg (by omega), show 2 * v / 2 = v from by omega, h2]
theorem selP_mem : ∀ (rest : List S54) (i : Nat) (out : List Int), ∀ a ∈ selP rest i out, a ∈ rest
  | [], i, out, a, h => by simp [selP] at h
  | b :: t, i, out, a, h => by
    rw [selP, List.mem_append] at h
    rcases h with h | h
    · split at h
      · rw [List.mem_singleton.mp h]; exact List.mem_cons_self
      · simp at h
    · exact List.mem_cons_of_mem _ (selP_mem t _ out a h)
theorem selP_old : ∀ (rest : List S54) (i k : Nat) (out : List Int), k < i → selP rest i (out ++ [(k : Int)]) = selP rest i out
  | [], i, k, out, h => rfl
  | a :: t, i, k, out, h => by
    rw [selP, selP, selP_old t (i + 1) k out (by omega)]
    congr 1
    by_cases c : (i : Int) ∈ out
    · rw [if_pos c, if_pos (by simp [c])]
    · rw [if_neg c, if_neg (by rw [List.mem_append, List.mem_singleton]; exact fun q => q.elim c (fun e => by omega))]
theorem selP_add : ∀ (rest : List S54) (i k : Nat) (out : List Int) (hk : k < rest.length), ((i + k : Nat) : Int) ∉ out → (∀ j, dsum (selP rest i (out ++ [((i + k : Nat) : Int)])) j = dsum (selP rest i out) j + dl rest[k] j) ∧ sumC (selP rest i (out ++ [((i + k : Nat) : Int)])) = sumC (selP rest i out) + rest[k].f2
  | [], i, k, out, hk, h => by simp at hk
  | a :: t, i, 0, out, hk, h => by
    rw [Nat.add_zero] at h ⊢
    rw [selP, selP, selP_old t (i + 1) i out (by omega), if_neg h, if_pos (by simp)]
    simp only [List.singleton_append, List.nil_append, dsum, sumC, List.getElem_cons_zero]
    exact ⟨fun j => by omega, by omega⟩
  | a :: t, i, k + 1, out, hk, h => by
    have e : i + (k + 1) = i + 1 + k := by omega
    obtain ⟨h1, h2⟩ := selP_add t (i + 1) k out (by simpa using hk) (by rw [← e]; exact h)
    rw [e, List.getElem_cons_succ, selP, selP]
    by_cases c : (i : Int) ∈ out
    · rw [if_pos (List.mem_append.mpr (.inl c)), if_pos c]
      simp only [List.singleton_append, dsum, sumC]
      exact ⟨fun j => by rw [h1 j]; omega, by omega⟩
    · rw [if_neg (fun q => (List.mem_append.mp q).elim c (fun g => by have := List.mem_singleton.mp g; omega)), if_neg c]
      simp only [List.nil_append]
      exact ⟨h1, h2⟩
/-- What holds on the way of a settlement in order. -/
def InvS (xs : List S54) (m : Nat) (bal out b : List Int) : Prop := b.length = m ∧ (∀ x ∈ b, 0 ≤ x ∧ x ≤ 1000000000) ∧ (∀ j, j < m → b.getD j 0 = bal.getD j 0 + dsum (selP xs 0 out) j) ∧ lsum b = lsum bal
theorem lsum_step {m : Nat} {out : List Int} {a : S54} (ha : okC m a) (hl : out.length = m) (B : Int) (hB : 0 ≤ B ∧ B ≤ 4000000000) (hb : ∀ x ∈ out, -B ≤ x ∧ x ≤ B) : lsum (posStep out a) = lsum out := by
  obtain ⟨e, r1, _, _⟩ := posStep_set ha hl B hB hb
  have h0 := ha.1
  have h1 := ha.2.1
  have hne := ha.2.2.1
  have z1 := lsum_set out a.f0.toNat (rd out a.f0 - a.f2) (by omega)
  have z2 := lsum_set (out.set a.f0.toNat (rd out a.f0 - a.f2)) a.f1.toNat (rd out a.f1 + a.f2) (by rw [List.length_set]; omega)
  have z3 : (out.set a.f0.toNat (rd out a.f0 - a.f2)).getD a.f1.toNat 0 = rd out a.f1 := r1
  have z4 : out.getD a.f0.toNat 0 = rd out a.f0 := rfl
  rw [e]; omega
theorem passS_inv {xs : List S54} {m : Nat} {bal : List Int} (hok : ∀ a ∈ xs, okC m a) : ∀ (rest pre : List S54) (out b : List Int) (more : Bool) (o b' : List Int) (m' : Bool), xs = pre ++ rest → InvS xs m bal out b → passS rest ((pre.length : Nat) : Int) out b more = some (o, b', m') → InvS xs m bal o b' ∧ (more = true → m' = true) ∧ (m' = false → o = out ∧ b' = b ∧ ∀ (k : Nat) (hk : k < rest.length), ((pre.length + k : Nat) : Int) ∈ out ∨ rd b rest[k].f0 < rest[k].f2) := by
  intro rest
  induction rest with
  | nil =>
    intro pre out b more o b' m' h hi hp
    simp only [passS, Option.some.injEq, Prod.mk.injEq] at hp
    obtain ⟨rfl, rfl, rfl⟩ := hp
    exact ⟨hi, id, fun _ => ⟨rfl, rfl, fun k hk => by simp at hk⟩⟩
  | cons a t ih =>
    intro pre out b more o b' m' h hi hp
    have ha := hok a (by rw [h]; simp)
    have e : (((pre ++ [a]).length : Nat) : Int) = ((pre.length + 1 : Nat) : Int) := by simp
    by_cases c : ((pre.length : Nat) : Int) ∈ out ∨ rd b a.f0 < a.f2
    · rw [passS_skip c, ← e] at hp
      obtain ⟨h1, h2, h3⟩ := ih (pre ++ [a]) out b more o b' m' (snoc h) hi hp
      refine ⟨h1, h2, fun q => ?_⟩
      obtain ⟨q1, q2, q3⟩ := h3 q
      refine ⟨q1, q2, fun k hk => ?_⟩
      cases k with
      | zero => simpa using c
      | succ k =>
        have := q3 k (by simpa using hk)
        rw [List.length_append, List.length_singleton] at this
        rw [show pre.length + (k + 1) = pre.length + 1 + k from by omega, List.getElem_cons_succ]
        exact this
    · have c1 : ((pre.length : Nat) : Int) ∉ out := fun q => c (.inl q)
      have c2 : ¬ rd b a.f0 < a.f2 := fun q => c (.inr q)
      by_cases c3 : 1000000000 < rd (posStep b a) a.f1
      · rw [passS_over c1 c2 c3] at hp; cases hp
      · rw [passS_take c1 c2 c3, ← e] at hp
        obtain ⟨i1, i2, i3, i4⟩ := hi
        have hbb : ∀ x ∈ b, -1000000000 ≤ x ∧ x ≤ 1000000000 := fun x hx => by have := i2 x hx; omega
        have hkx : pre.length < xs.length := by rw [h]; simp
        have hel : xs[pre.length] = a := by simp [h]
        have had := selP_add xs 0 pre.length out hkx (by rw [Nat.zero_add]; exact c1)
        rw [Nat.zero_add, hel] at had
        have hnew : InvS xs m bal (out ++ [((pre.length : Nat) : Int)]) (posStep b a) := by
          refine ⟨by rw [posStep_length]; exact i1, posStep_ok ha i1 i2 c2 c3, fun j hj => ?_, ?_⟩
          · rw [(posStep_get ha i1 1000000000 (by decide) hbb).1 j hj, i3 j hj, had.1 j]; omega
          · rw [lsum_step ha i1 1000000000 (by decide) hbb]; exact i4
        obtain ⟨h1, h2, h3⟩ := ih (pre ++ [a]) _ _ true o b' m' (snoc h) hnew hp
        refine ⟨h1, fun _ => h2 rfl, fun q => ?_⟩
        rw [h2 rfl] at q
        cases q
theorem settle_inv {xs : List S54} {m : Nat} {bal : List Int} (hok : ∀ a ∈ xs, okC m a) : ∀ (k : Nat) (out b o b' : List Int), InvS xs m bal out b → settleK xs k out b = (o, b', true) → InvS xs m bal o b' ∧ ∀ (i : Nat) (hi : i < xs.length), (i : Int) ∈ o ∨ rd b' xs[i].f0 < xs[i].f2 := by
  intro k
  induction k with
  | zero => intro out b o b' _ h; simp [settleK] at h
  | succ k ih =>
    intro out b o b' hi h
    rw [settleK] at h
    cases hp : passS xs 0 out b false with
    | none => rw [hp] at h; simp at h
    | some q =>
      obtain ⟨o1, b1, more⟩ := q
      rw [hp] at h
      obtain ⟨h1, _, h3⟩ := passS_inv hok xs [] out b false o1 b1 more rfl hi (by simpa using hp)
      cases more with
      | true => simp only [if_true] at h; exact ih o1 b1 o b' h1 h
      | false =>
        simp only [Bool.false_eq_true, if_false, Prod.mk.injEq, and_true] at h
        obtain ⟨rfl, rfl⟩ := h
        obtain ⟨q1, q2, q3⟩ := h3 rfl
        refine ⟨h1, fun i hi2 => ?_⟩
        have := q3 i hi2
        rw [q1, q2]
        simpa using this
theorem foldT_best (xs : List S54) (bal : List Int) : ∀ (d v : Nat) (s : Nat × Int), (s.2 = sumC (pickF xs s.1)) → (s.2 ≤ (foldT xs bal d v s).2) ∧ (foldT xs bal d v s).2 = sumC (pickF xs (foldT xs bal d v s).1) ∧ ∀ t, v ≤ t → t < v + d → fitB bal (pickF xs t) = true → sumC (pickF xs t) ≤ (foldT xs bal d v s).2
  | 0, v, s, h => ⟨by rw [foldT]; exact Int.le_refl _, by rw [foldT]; exact h, fun t h1 h2 => by omega⟩
  | d + 1, v, s, h => by
    have hs : (stepTg xs bal s v).2 = sumC (pickF xs (stepTg xs bal s v).1) ∧ s.2 ≤ (stepTg xs bal s v).2 ∧ (fitB bal (pickF xs v) = true → sumC (pickF xs v) ≤ (stepTg xs bal s v).2) := by
      unfold stepTg
      by_cases c : fitB bal (pickF xs v) = true ∧ s.2 < sumC (pickF xs v)
      · rw [if_pos c]; exact ⟨rfl, by show s.2 ≤ sumC (pickF xs v); omega, fun _ => Int.le_refl _⟩
      · rw [if_neg c]; exact ⟨h, Int.le_refl _, fun g => by have : ¬ s.2 < sumC (pickF xs v) := fun q => c ⟨g, q⟩; omega⟩
    obtain ⟨h1, h2, h3⟩ := foldT_best xs bal d (v + 1) (stepTg xs bal s v) hs.1
    rw [foldT]
    refine ⟨by omega, h2, fun t g1 g2 g3 => ?_⟩
    by_cases q : t = v
    · subst q; have := hs.2.2 g3; omega
    · exact h3 t (by omega) (by omega) g3
theorem blF_pick (xs : List S54) : ∀ (rest pre : List S54) (v : Nat), xs = pre ++ rest → (blF rest.length v pre.length).map (fun k => rd_T54 xs k) = pickF rest v
  | [], pre, v, h => by simp [blF, pickF]
  | a :: t, pre, v, h => by
    have e := blF_pick xs t (pre ++ [a]) (v / 2) (snoc h)
    rw [len_snoc] at e
    rw [List.length_cons, blF, pickF, List.map_append, e]
    split
    · rw [List.map_singleton, rd_T54_at h rfl]
    · rfl
theorem blF_in : ∀ (n v : Nat) (i : Int), ∀ k ∈ blF n v i, i ≤ k ∧ k < i + n
  | 0, v, i, k, h => by simp [blF] at h
  | n + 1, v, i, k, h => by
    rw [blF, List.mem_append] at h
    rcases h with h | h
    · split at h
      · rw [List.mem_singleton.mp h]; omega
      · simp at h
    · have := blF_in n (v / 2) (i + 1) k h
      push_cast; omega
/-- What holds of a settlement in order that is told. -/
theorem set_facts {xs : List S54} {p : Int} {bal at_ now : List Int} (h : setA xs p bal = (at_, now, true)) : (2 ≤ p ∧ p ≤ 8) ∧ xs.length ≤ 20 ∧ (∀ a ∈ xs, okC p a) ∧ sumC xs ≤ 1000000000 ∧ ((bal.length : Int) = p ∧ ∀ x ∈ bal, 0 ≤ x ∧ x ≤ 1000000000) ∧ ((now.length : Int) = p ∧ ∀ x ∈ now, 0 ≤ x ∧ x ≤ 1000000000) ∧ lsum now = lsum bal ∧ (∀ (i : Nat) (hi : i < xs.length), (i : Int) ∈ at_ ∨ rd now xs[i].f0 < xs[i].f2) ∧ fitB bal (selP xs 0 at_) = true := by
  unfold setA at h
  by_cases c : goodC xs p = true ∧ goodB bal p = true
  · rw [if_pos c] at h
    have g1 := of_decide_eq_true c.1
    have g2 := of_decide_eq_true c.2
    obtain ⟨m, rfl⟩ := Int.eq_ofNat_of_zero_le (show 0 ≤ p from by omega)
    have hm : bal.length = m := by omega
    have hnil : ∀ (rest : List S54) (i j : Nat), dsum (selP rest i []) j = 0 := by
      intro rest
      induction rest with
      | nil => intro i j; rfl
      | cons a t ih => intro i j; rw [selP, if_neg (by simp), List.nil_append]; exact ih (i + 1) j
    obtain ⟨h1, h2⟩ := settle_inv g1.2.2.1 (xs.length + 1) [] bal at_ now ⟨hm, g2.2, fun j _ => by rw [hnil]; omega, rfl⟩ h
    obtain ⟨i1, i2, i3, i4⟩ := h1
    refine ⟨g1.1, g1.2.1, g1.2.2.1, g1.2.2.2, g2, ⟨by omega, i2⟩, i4, h2, decide_eq_true (fun j hj => ?_)⟩
    rw [← i3 j (by omega)]
    have hj2 : j < now.length := by omega
    have : now.getD j 0 ∈ now := getD_memT hj2
    exact (i2 _ this).1
  · rw [if_neg c] at h; simp at h
/-- What holds of a settlement together that is told. -/
theorem tog_facts {xs : List S54} {p : Int} {bal tg : List Int} (h : togA xs p bal = (tg, true)) : tg.length ≤ 10 ∧ (∀ k ∈ tg, 0 ≤ k ∧ k < (xs.length : Int)) ∧ ∀ out : List Int, fitB bal (selP xs 0 out) = true → sumC (selP xs 0 out) ≤ sumC (tg.map (fun k => rd_T54 xs k)) := by
  have hl := togA_len xs p bal
  rw [h] at hl
  unfold togA at h
  by_cases c : goodC xs p = true ∧ xs.length ≤ 10 ∧ goodB bal p = true
  · rw [if_pos c] at h
    have ht : tg = blF xs.length (bestOf xs bal) 0 := (congrArg Prod.fst h).symm
    refine ⟨hl, fun k hk => ?_, fun out hf => ?_⟩
    · rw [ht] at hk
      have := blF_in xs.length _ 0 k hk
      omega
    · obtain ⟨v, hv, he⟩ := sel_mask xs 0 out
      have hz : (0 : Int) = sumC (pickF xs 0) := by rw [pickF_zero]; rfl
      obtain ⟨b1, b2, b3⟩ := foldT_best xs bal (2 ^ xs.length - 1) 1 (0, 0) hz
      have hm : tg.map (fun k => rd_T54 xs k) = pickF xs (bestOf xs bal) := by rw [ht]; exact blF_pick xs xs [] _ rfl
      rw [hm, ← he]
      rw [← he] at hf
      show sumC (pickF xs v) ≤ sumC (pickF xs (foldT xs bal (2 ^ xs.length - 1) 1 (0, 0)).1)
      rw [← b2]
      by_cases q : v = 0
      · subst q; rw [pickF_zero]; exact b1
      · exact b3 v (by omega) (by omega) hf
  · rw [if_neg c] at h; simp at h

def sumI : List Int → Int
  | [] => 0
  | a :: t => a + sumI t
def sumWI : Int → List Int → Int
  | s, [] => s
  | s, a :: t => sumWI (wrap64 (s + a)) t
/-- Without a wrap where all parts are at least 0 and the whole is small. -/
theorem sumI_nonneg (xs : List Int) (h : ∀ x ∈ xs, 0 ≤ x) : 0 ≤ sumI xs := by
  induction xs with
  | nil => simp [sumI]
  | cons a t ih =>
    have h1 := h a List.mem_cons_self
    have h2 := ih (fun x hx => h x (List.mem_cons_of_mem _ hx))
    simp only [sumI]; omega
theorem sumWI_eq : ∀ (xs : List Int) (s : Int), (∀ x ∈ xs, 0 ≤ x) → 0 ≤ s → s + sumI xs ≤ 9223372036854775807 → sumWI s xs = s + sumI xs
  | [], s, _, _, _ => by simp [sumWI, sumI]
  | a :: t, s, h, h0, h1 => by
    have ha := h a List.mem_cons_self
    have ht : ∀ x ∈ t, 0 ≤ x := fun x hx => h x (List.mem_cons_of_mem _ hx)
    have hs := sumI_nonneg t ht
    simp only [sumI] at h1
    simp only [sumWI, sumI]
    rw [wrapId (by omega), sumWI_eq t (s + a) ht (by omega) (by omega)]
    omega

theorem rSum_l0 (xs : List Int) (hn : xs.length ≤ 1048576) : ∀ (rest pre : List Int) (s i : Int), xs = pre ++ rest → i = pre.length → Ev (fun k => laws_rSum.l0 k xs s i) (sumWI s rest) := by
  intro rest
  induction rest with
  | nil =>
    intro pre s i h hi
    have hl := len_nil h
    refine evSucc ?_
    simp only [laws_rSum.l0]
    refine evNeg (by omega) ?_
    exact evSome rfl
  | cons a t ih =>
    intro pre s i h hi
    have hl := len_cons h
    refine evSucc ?_
    simp only [laws_rSum.l0, rd_at h hi]
    refine evPos (by omega) ?_
    refine evPos (by omega) ?_
    exact ih (pre ++ [a]) _ _ (snoc h) (by rw [wrapId (by omega), len_snoc]; omega)
theorem rSum_ev (xs : List Int) (hn : xs.length ≤ 1048576) (h0 : ∀ x ∈ xs, 0 ≤ x) (h1 : sumI xs ≤ 9223372036854775807) : Ev (fun k => laws_rSum.f k xs) (sumI xs) := by
  simp only [laws_rSum.f]
  refine evEq (rSum_l0 xs hn xs [] 0 0 rfl rfl) ?_
  rw [sumWI_eq xs 0 h0 (by omega) (by omega)]; omega

theorem rIn_l0 (xs : List Int) (x : Int) (hn : xs.length ≤ 1048576) : ∀ (rest pre : List Int) (i : Int), xs = pre ++ rest → i = pre.length → Ev (fun k => laws_rIn.l0 k xs x i) (decide (x ∈ rest)) := by
  intro rest
  induction rest with
  | nil =>
    intro pre i h hi
    have hl := len_nil h
    refine evSucc ?_
    simp only [laws_rIn.l0]
    refine evNeg (by omega) ?_
    exact evSome (by simp)
  | cons a t ih =>
    intro pre i h hi
    have hl := len_cons h
    refine evSucc ?_
    simp only [laws_rIn.l0, rd_at h hi]
    refine evPos (by omega) ?_
    refine evPos (by omega) ?_
    refine evIte (fun c => evSome (by simp [c])) (fun c => ?_)
    refine evEq (ih (pre ++ [a]) _ (snoc h) (by rw [wrapId (by omega), len_snoc]; omega)) ?_
    have c2 : ¬ x = a := fun e => c e.symm
    simp [c2]
theorem rIn_ev (xs : List Int) (x : Int) (hn : xs.length ≤ 1048576) : Ev (fun k => laws_rIn.f k xs x) (decide (x ∈ xs)) := by
  simp only [laws_rIn.f]
  exact rIn_l0 xs x hn xs [] 0 rfl rfl

theorem lsum_sumI : ∀ xs : List Int, lsum xs = sumI xs
  | [] => rfl
  | a :: t => by rw [lsum, sumI, lsum_sumI t]
theorem sumI_le : ∀ (xs : List Int) (B : Int), (∀ x ∈ xs, 0 ≤ x ∧ x ≤ B) → 0 ≤ sumI xs ∧ sumI xs ≤ B * xs.length
  | [], B, _ => by simp [sumI]
  | a :: t, B, h => by
    have h1 := sumI_le t B (fun x hx => h x (List.mem_cons_of_mem _ hx))
    have h2 := h a List.mem_cons_self
    rw [sumI, List.length_cons]
    push_cast
    rw [Int.mul_add]
    omega

theorem selP_bd {n : Int} : ∀ (rest : List S54) (i : Nat) (out : List Int), (∀ a ∈ rest, okC n a) → 0 ≤ sumC (selP rest i out) ∧ sumC (selP rest i out) ≤ sumC rest
  | [], i, out, h => by simp [selP, sumC]
  | a :: t, i, out, h => by
    have h1 := selP_bd t (i + 1) out (fun b hb => h b (List.mem_cons_of_mem _ hb))
    have h2 := (h a List.mem_cons_self).2.2.2
    rw [selP]
    by_cases c : (i : Int) ∈ out
    · rw [if_pos c]
      simp only [List.singleton_append, sumC]
      omega
    · rw [if_neg c]
      simp only [List.nil_append, sumC]
      omega
theorem selP_in {a : S54} {t : List S54} {i : Nat} {out : List Int} (h : (i : Int) ∈ out) : sumC (selP (a :: t) i out) = a.f2 + sumC (selP t (i + 1) out) := by
  rw [selP, if_pos h]; rfl
theorem selP_out {a : S54} {t : List S54} {i : Nat} {out : List Int} (h : ¬ (i : Int) ∈ out) : sumC (selP (a :: t) i out) = sumC (selP t (i + 1) out) := by
  rw [selP, if_neg h]; rfl
theorem rdC_mem {xs : List S54} {k : Int} (h : 0 ≤ k ∧ k < (xs.length : Int)) : rd_T54 xs k ∈ xs := by
  have hk : k.toNat < xs.length := by omega
  rw [show rd_T54 xs k = xs[k.toNat] from by rw [rd_T54, List.getD_eq_getElem?_getD, List.getElem?_eq_getElem hk]; rfl]
  exact List.getElem_mem hk
theorem tgC_ok {n : Int} {xs : List S54} {tg : List Int} (ho : ∀ a ∈ xs, okC n a) (h : ∀ k ∈ tg, 0 ≤ k ∧ k < (xs.length : Int)) : ∀ a ∈ tg.map (fun k => rd_T54 xs k), okC n a := by
  intro a ha
  obtain ⟨k, hk, rfl⟩ := List.mem_map.mp ha
  exact ho _ (rdC_mem (h k hk))
/-- What a claim that is not in the settlement lacks. -/
theorem lackC {xs : List S54} {now at_ : List Int} (h : ∀ (i : Nat) (hi : i < xs.length), (i : Int) ∈ at_ ∨ rd now xs[i].f0 < xs[i].f2) {pre t : List S54} {a : S54} (hx : xs = pre ++ a :: t) (hn : ¬ (pre.length : Int) ∈ at_) : rd now a.f0 < a.f2 := by
  have hi : pre.length < xs.length := by rw [hx]; simp
  have e : xs[pre.length] = a := by
    have h2 : xs[pre.length]? = some a := by rw [hx]; simp
    rw [List.getElem?_eq_getElem hi] at h2
    exact Option.some.inj h2
  rcases h pre.length hi with q | q
  · exact absurd q hn
  · rw [e] at q; exact q
end Go.Proofs.Ytaobdjdmmhglaaa.Pure
