/- The plain law of FnRegular: the printed functions that it uses answer as plain Lean functions do; days at regular distances. No other condition. -/
import Derived.Test.YtlmdghcpcohamaaPL14Gx0
import Derived.Test.YtlmdghcpcohamaaPL14Gx1
import Derived.Test.YtlmdghcpcohamaaPL14Gx2
import Derived.Test.YtlmdghcpcohamaaPL14Gx3
import Derived.Test.YtlmdghcpcohamaaPL14Gx4
import Derived.Test.YtlmdghcpcohamaaPL14Gx5
import Derived.Test.YtlmdghcpcohamaaPL14Gx6
import Derived.Test.YtlmdghcpcohamaaEvKit
import Derived.Test.YtlmdghcpcohamaaKReads
namespace Go.Proofs.Ytlmdghcpcohamaa.Pure
open Go.RowKit Go.Proofs.YtlmdghcpcohamaaW.PrintWords Go.Proofs.YtlmdghcpcohamaaW.PrintLast Go.Proofs.YtlmdghcpcohamaaW.PrintMore Go.Proofs.Ytlmdghcpcohamaa.PL14G Go.Proofs.Ytlmdghcpcohamaa.EvKit
set_option linter.unusedVariables false
set_option linter.unusedSimpArgs false

theorem eqIntS_l0 (xs : List Int) (hn : xs.length ≤ 9223372036854775806) : ∀ (rest pre : List Int) (i : Int), xs = pre ++ rest → i = pre.length → Ev (fun k => laws_eqIntS.l0 k xs xs i) true := by
  intro rest
  induction rest with
  | nil =>
    intro pre i h hi
    have hl := len_nil h
    refine evSucc ?_
    simp only [laws_eqIntS.l0]
    refine evNeg (by omega) ?_
    exact evSome rfl
  | cons a t ih =>
    intro pre i h hi
    have hl := len_cons h
    refine evSucc ?_
    simp only [laws_eqIntS.l0]
    refine evPos (by omega) ?_
    refine evPos (by omega) ?_
    refine evPos (by omega) ?_
    refine evPos (by trivial) ?_
    exact ih (pre ++ [a]) _ (snoc h) (by rw [wrapId (by omega), len_snoc]; omega)
theorem eqIntS_ev (xs : List Int) (hn : xs.length ≤ 9223372036854775806) : Ev (fun k => laws_eqIntS.f k xs xs) true := by
  simp only [laws_eqIntS.f]
  exact evPos (by trivial) (eqIntS_l0 xs hn xs [] 0 rfl rfl)


theorem vInts_l0 (xs : List Int) (hn : xs.length ≤ 9223372036854775806) : ∀ (rest pre : List Int) (i : Int), xs = pre ++ rest → i = pre.length → Ev (fun k => laws_vInts.l0 k xs xs i) true := by
  intro rest
  induction rest with
  | nil =>
    intro pre i h hi
    have hl := len_nil h
    refine evSucc ?_
    simp only [laws_vInts.l0]
    refine evNeg (by omega) ?_
    exact evSome rfl
  | cons a t ih =>
    intro pre i h hi
    have hl := len_cons h
    refine evSucc ?_
    simp only [laws_vInts.l0]
    refine evPos (by omega) ?_
    refine evPos (by omega) ?_
    refine evPos (by omega) ?_
    refine evPos (by trivial) ?_
    exact ih (pre ++ [a]) _ (snoc h) (by rw [wrapId (by omega), len_snoc]; omega)
theorem vInts_ev (xs : List Int) (hn : xs.length ≤ 9223372036854775806) : Ev (fun k => laws_vInts.f k xs xs) true := by
  simp only [laws_vInts.f]
  exact evPos (by trivial) (vInts_l0 xs hn xs [] 0 rfl rfl)


def upFrom : Nat → Int → List Int
  | 0, _ => []
  | n + 1, m => m :: upFrom n (m + 1)
theorem upFrom_length : ∀ (n : Nat) (m : Int), (upFrom n m).length = n
  | 0, _ => rfl
  | n + 1, m => by simp [upFrom, upFrom_length n]
theorem markIntS_l0 : ∀ (rest pre : List Int) (xs : List Int) (m i : Int), xs = pre ++ rest → i = pre.length → 0 ≤ m → m + rest.length ≤ 9223372036854775807 → pre.length + rest.length ≤ 9223372036854775806 →
    Ev (fun k => laws_markIntS.l0 k xs m i) (m + rest.length, pre ++ upFrom rest.length m) := by
  intro rest
  induction rest with
  | nil =>
    intro pre xs m i h hi h0 h1 h2
    have hl := len_nil h
    refine evSucc ?_
    simp only [laws_markIntS.l0]
    refine evNeg (by omega) ?_
    exact evSome (by simp [h, upFrom])
  | cons a t ih =>
    intro pre xs m i h hi h0 h1 h2
    have hl := len_cons h
    simp only [List.length_cons] at h1 h2
    refine evSucc ?_
    simp only [laws_markIntS.l0]
    refine evPos (by omega) ?_
    refine evPos (by omega) ?_
    refine evEq (ih (pre ++ [m]) _ (wrap64 (m + 1)) _ ?_ ?_ ?_ ?_ ?_) ?_
    · rw [set_at h hi]; simp
    · rw [wrapId (by omega), len_snoc]; omega
    · rw [wrapId (by omega)]; omega
    · rw [wrapId (by omega)]; omega
    · simp; omega
    · rw [wrapId (by omega)]; simp [upFrom]; omega
theorem markIntS_ev (xs : List Int) (m : Int) (h0 : 0 ≤ m) (h1 : m + xs.length ≤ 9223372036854775807) (h2 : xs.length ≤ 9223372036854775806) : Ev (fun k => laws_markIntS.f k xs m) (m + xs.length, upFrom xs.length m) := by
  simp only [laws_markIntS.f]
  exact evEq (markIntS_l0 xs [] xs m 0 rfl rfl h0 h1 (by simpa using h2)) (by simp)


theorem heldIntS_l0 : ∀ (n : Nat) (pre : List Int) (xs : List Int) (m i : Int), xs = pre ++ upFrom n m → i = pre.length → 0 ≤ m → m + n ≤ 9223372036854775807 → pre.length + n ≤ 9223372036854775806 →
    Ev (fun k => laws_heldIntS.l0 k xs m i) (m + n) := by
  intro n
  induction n with
  | zero =>
    intro pre xs m i h hi h0 h1 h2
    have hl := len_nil h
    refine evSucc ?_
    simp only [laws_heldIntS.l0]
    refine evNeg (by omega) ?_
    exact evSome (by simp)
  | succ n ih =>
    intro pre xs m i h hi h0 h1 h2
    have h' : xs = pre ++ m :: upFrom n (m + 1) := h
    have hl := len_cons h'
    rw [upFrom_length] at hl
    refine evSucc ?_
    simp only [laws_heldIntS.l0, rd_at h' hi]
    refine evPos (by omega) ?_
    refine evPos (by omega) ?_
    refine evPos (by trivial) ?_
    refine evEq (ih (pre ++ [m]) _ (wrap64 (m + 1)) _ ?_ ?_ ?_ ?_ ?_) ?_
    · rw [wrapId (by omega)]; exact snoc h'
    · rw [wrapId (by omega), len_snoc]; omega
    · rw [wrapId (by omega)]; omega
    · rw [wrapId (by omega)]; omega
    · simp; omega
    · rw [wrapId (by omega)]; omega
theorem heldIntS_ev (n : Nat) (m : Int) (h0 : 0 ≤ m) (h1 : m + n ≤ 9223372036854775807) (h2 : n ≤ 9223372036854775806) : Ev (fun k => laws_heldIntS.f k (upFrom n m) m) (m + n) := by
  simp only [laws_heldIntS.f]
  exact heldIntS_l0 n [] _ m 0 rfl rfl h0 h1 (by simpa using h2)

theorem within_eq (a b c : Int) : impl_within.f a b c = some (decide (b ≤ a ∧ a ≤ c)) := by
  unfold impl_within.f
  by_cases h : a ≥ b
  · rw [if_pos h]; exact congrArg some (decide_eq_decide.mpr ⟨fun g => ⟨h, g⟩, fun g => g.2⟩)
  · rw [if_neg h]; exact congrArg some (decide_eq_false (fun g => h g.1)).symm
theorem l1In_eq (a b c : Int) : spec_l1In.f a b c = some (decide (b ≤ a ∧ a ≤ c)) := by
  unfold spec_l1In.f
  by_cases h : a ≥ b
  · rw [if_pos h]; exact congrArg some (decide_eq_decide.mpr ⟨fun g => ⟨h, g⟩, fun g => g.2⟩)
  · rw [if_neg h]; exact congrArg some (decide_eq_false (fun g => h g.1)).symm

def sumI : List Int → Int
  | [] => 0
  | a :: t => a + sumI t
def sumWI : Int → List Int → Int
  | s, [] => s
  | s, a :: t => sumWI (wrap64 (s + a)) t
theorem implSumOf_l0 (xs : List Int) (hn : xs.length ≤ 9223372036854775806) : ∀ (rest pre : List Int) (s i : Int), xs = pre ++ rest → i = pre.length → Ev (fun k => impl_sumOf.l0 k s xs (xs.length : Int) i) (sumWI s rest) := by
  intro rest
  induction rest with
  | nil =>
    intro pre s i h hi
    have hl := len_nil h
    refine evSucc ?_
    simp only [impl_sumOf.l0]
    refine evNeg (by omega) ?_
    exact evSome rfl
  | cons a t ih =>
    intro pre s i h hi
    have hl := len_cons h
    refine evSucc ?_
    simp only [impl_sumOf.l0, rd_at h hi]
    refine evPos (by omega) ?_
    refine evPos (by omega) ?_
    refine evPos (by omega) ?_
    exact ih (pre ++ [a]) _ _ (snoc h) (by rw [wrapId (by omega), len_snoc]; omega)
theorem implSumOf_ev (xs : List Int) (hn : xs.length ≤ 9223372036854775806) : Ev (fun k => impl_sumOf.f k xs) (sumWI 0 xs) := by
  simp only [impl_sumOf.f]
  exact implSumOf_l0 xs hn xs [] 0 0 rfl rfl
/-- Without a wrap where all parts are at least 0 and the whole is small. -/
theorem sumI_nonneg (xs : List Int) (h : ∀ x ∈ xs, 0 ≤ x) : 0 ≤ sumI xs := by
  induction xs with
  | nil => simp [sumI]
  | cons a t ih =>
    have h1 := h a List.mem_cons_self
    have h2 := ih (fun x hx => h x (List.mem_cons_of_mem _ hx))
    simp only [sumI]; omega
theorem sumWI_eq : ∀ (xs : List Int) (s : Int), (∀ x ∈ xs, 0 ≤ x) → 0 ≤ s → s + sumI xs ≤ 9223372036854775807 → sumWI s xs = s + sumI xs
  | [], s, _, _, _ => by simp [sumWI, sumI]
  | a :: t, s, h, h0, h1 => by
    have ha := h a List.mem_cons_self
    have ht : ∀ x ∈ t, 0 ≤ x := fun x hx => h x (List.mem_cons_of_mem _ hx)
    have hs := sumI_nonneg t ht
    simp only [sumI] at h1
    simp only [sumWI, sumI]
    rw [wrapId (by omega), sumWI_eq t (s + a) ht (by omega) (by omega)]
    omega

theorem rSum_l0 (xs : List Int) (hn : xs.length ≤ 1048576) : ∀ (rest pre : List Int) (s i : Int), xs = pre ++ rest → i = pre.length → Ev (fun k => laws_rSum.l0 k xs s i) (sumWI s rest) := by
  intro rest
  induction rest with
  | nil =>
    intro pre s i h hi
    have hl := len_nil h
    refine evSucc ?_
    simp only [laws_rSum.l0]
    refine evNeg (by omega) ?_
    exact evSome rfl
  | cons a t ih =>
    intro pre s i h hi
    have hl := len_cons h
    refine evSucc ?_
    simp only [laws_rSum.l0, rd_at h hi]
    refine evPos (by omega) ?_
    refine evPos (by omega) ?_
    exact ih (pre ++ [a]) _ _ (snoc h) (by rw [wrapId (by omega), len_snoc]; omega)
theorem rSum_ev (xs : List Int) (hn : xs.length ≤ 1048576) (h0 : ∀ x ∈ xs, 0 ≤ x) (h1 : sumI xs ≤ 9223372036854775807) : Ev (fun k => laws_rSum.f k xs) (sumI xs) := by
  simp only [laws_rSum.f]
  refine evEq (rSum_l0 xs hn xs [] 0 0 rfl rfl) ?_
  rw [sumWI_eq xs 0 h0 (by omega) (by omega)]; omega

def dimA (y m : Int) : Int := if m = 2 then (if y % 4 = 0 then 29 else 28) else if m = 4 then 30 else if m = 6 then 30 else if m = 9 then 30 else if m = 11 then 30 else 31
def ylA (y : Int) : Int := 337 + dimA y 2
def dbyA (y : Int) : Int := 365 * (y - 2000) + (y - 2000 + 3) / 4
def leapA (y : Int) : Int := if y % 4 = 0 then 1 else 0
def cumA (y m : Int) : Int :=
  if m ≤ 1 then 0 else if m = 2 then 31 else leapA y + (if m = 3 then 59 else if m = 4 then 90 else if m = 5 then 120 else if m = 6 then 151 else if m = 7 then 181 else if m = 8 then 212 else if m = 9 then 243 else if m = 10 then 273 else if m = 11 then 304 else if m = 12 then 334 else 365)
theorem dim_bd (y m : Int) : 28 ≤ dimA y m ∧ dimA y m ≤ 31 := by unfold dimA; repeat (first | omega | split)
theorem yl_eq (y : Int) : ylA y = 365 + leapA y := by unfold ylA dimA leapA; rw [if_pos rfl]; split <;> omega
theorem leap_bd (y : Int) : 0 ≤ leapA y ∧ leapA y ≤ 1 := by unfold leapA; split <;> omega
theorem dby_succ (y : Int) : dbyA (y + 1) = dbyA y + ylA y := by
  rw [yl_eq]; unfold dbyA leapA; split <;> omega
theorem dby_bd (y : Int) (h : 2000 ≤ y ∧ y ≤ 2100) : 0 ≤ dbyA y ∧ dbyA y ≤ 36525 := by unfold dbyA; omega
theorem cum_succ (y m : Int) (h : 1 ≤ m ∧ m ≤ 12) : cumA y (m + 1) = cumA y m + dimA y m := by
  have : m = 1 ∨ m = 2 ∨ m = 3 ∨ m = 4 ∨ m = 5 ∨ m = 6 ∨ m = 7 ∨ m = 8 ∨ m = 9 ∨ m = 10 ∨ m = 11 ∨ m = 12 := by omega
  rcases this with rfl | rfl | rfl | rfl | rfl | rfl | rfl | rfl | rfl | rfl | rfl | rfl <;> simp [cumA, dimA] <;> unfold leapA <;> split <;> rfl
theorem cum_bd (y m : Int) : 0 ≤ cumA y m ∧ cumA y m ≤ 366 := by
  have := leap_bd y
  unfold cumA; repeat (first | omega | split)
theorem cum_13 (y : Int) : cumA y 13 = ylA y := by rw [yl_eq]; simp [cumA]; omega
theorem cum_1 (y : Int) : cumA y 1 = 0 := rfl
theorem daysIn_eq (y m : Int) (hy : 0 ≤ y) : impl_daysIn.f y m = some (dimA y m) := by
  unfold impl_daysIn.f dimA
  rw [Int.tmod_eq_emod_of_nonneg hy]
  repeat (first | rfl | split)
theorem daysOf_eq (y : Int) (hy : 0 ≤ y) : impl_daysOf.f y = some (ylA y) := by
  unfold impl_daysOf.f
  rw [daysIn_eq y 2 hy]
  have := dim_bd y 2
  simp only [Option.bind_some]
  rw [wrapId (by omega)]; rfl
theorem l3Length_ev (y m : Int) (hy : 0 ≤ y) : Ev (fun k => spec_l3Length.f k y m) (dimA y m) := by
  have hm := Int.tmod_eq_emod_of_nonneg (b := 4) hy
  simp only [spec_l3Length.f]
  refine evIte (fun c => ?_) (fun c4 => ?_)
  · subst c; refine evSucc ?_; simp only [spec_l3Length.j0]; exact evPos (by decide) (evSome rfl)
  refine evIte (fun c => ?_) (fun c6 => ?_)
  · subst c; refine evSucc ?_; simp only [spec_l3Length.j0]; exact evPos (by decide) (evSome rfl)
  refine evIte (fun c => ?_) (fun c9 => ?_)
  · subst c; refine evSucc ?_; simp only [spec_l3Length.j0]; exact evPos (by decide) (evSome rfl)
  refine evSucc ?_
  simp only [spec_l3Length.j0, hm]
  by_cases c11 : m = 11
  · subst c11; exact evPos (by decide) (evSome rfl)
  · refine evNeg (by rw [beq_iff_eq]; exact c11) ?_
    unfold dimA
    refine evIte (fun c => ?_) (fun c => ?_)
    · rw [if_pos c]
      refine evIte (fun c => ?_) (fun c => ?_)
      · rw [if_pos c]; exact evSome rfl
      · rw [if_neg c]; exact evSome rfl
    · rw [if_neg c, if_neg c4, if_neg c6, if_neg c9, if_neg c11]; exact evSome rfl
theorem specDay_ev (y m d : Int) (hy : 2000 ≤ y ∧ y ≤ 2100) (hm : 1 ≤ m ∧ m ≤ 13) (hd : -1 ≤ d ∧ d ≤ 400) : Ev (fun k => spec_l3Day.f k y m d) (dbyA y + cumA y m + d - 1) := by
  have hb := dby_bd y hy
  have main : ∀ (n : Nat) (s j : Int), j + n = m → 1 ≤ j → s = dbyA y + cumA y j → Ev (fun k => spec_l3Day.l0 k s j y m d) (dbyA y + cumA y m + d - 1) := by
    intro n
    induction n with
    | zero =>
      intro s j h1 h2 h3
      have hc := cum_bd y j
      refine evSucc ?_
      simp only [spec_l3Day.l0]
      refine evNeg (by omega) ?_
      have : j = m := by omega
      subst this
      exact evSome (by rw [wrapId (x := s + d) (by omega), wrapId (by omega)]; omega)
    | succ n ih =>
      intro s j h1 h2 h3
      have hc := cum_bd y j
      have hd2 := dim_bd y j
      have hs := cum_succ y j (by omega)
      refine evSucc ?_
      simp only [spec_l3Day.l0]
      refine evPos (by omega) ?_
      refine evBind (l3Length_ev y j (by omega)) ?_
      exact ih _ _ (by rw [wrapId (by omega)]; omega) (by rw [wrapId (by omega)]; omega) (by rw [wrapId (by omega), wrapId (by omega), hs]; omega)
  simp only [spec_l3Day.f]
  refine main (m - 1).toNat _ 1 (by omega) (by omega) ?_
  rw [wrapId (x := y - 2000) (by omega), wrapId (x := 365 * (y - 2000)) (by omega), wrapId (x := y - 2000 + 3) (by omega), Int.tdiv_eq_ediv_of_nonneg (by omega), wrapId (x := (y - 2000 + 3) / 4) (by omega), wrapId (by omega), cum_1]
  unfold dbyA; omega
/-- The day has this date. -/
def isDate (day y m d : Int) : Prop := (2000 ≤ y ∧ y ≤ 2099) ∧ (1 ≤ m ∧ m ≤ 12) ∧ (1 ≤ d ∧ d ≤ dimA y m) ∧ day = dbyA y + cumA y m + d - 1
theorem cum_mono (y : Int) : ∀ (n : Nat) (m : Int), 1 ≤ m → m + n ≤ 13 → cumA y m + 28 * n ≤ cumA y (m + n) := by
  intro n
  induction n with
  | zero => intro m _ _; simp
  | succ n ih =>
    intro m h1 h2
    have := ih m h1 (by omega)
    have hs := cum_succ y (m + n) (by omega)
    have hd := dim_bd y (m + n)
    have e : m + ((n + 1 : Nat) : Int) = m + n + 1 := by omega
    rw [e, hs]; omega
theorem dby_mono : ∀ (n : Nat) (y : Int), dbyA y + 365 * n ≤ dbyA (y + n) := by
  intro n
  induction n with
  | zero => intro y; simp
  | succ n ih =>
    intro y
    have := ih y
    have hs := dby_succ (y + n)
    have hl := yl_eq (y + n)
    have hl2 := leap_bd (y + n)
    have e : y + ((n + 1 : Nat) : Int) = y + n + 1 := by omega
    rw [e, hs]; omega
theorem isDate_inYear {day y m d : Int} (h : isDate day y m d) : dbyA y ≤ day ∧ day < dbyA (y + 1) := by
  obtain ⟨h1, h2, h3, h4⟩ := h
  have hs := dby_succ y
  have hc := cum_bd y m
  have hs2 := cum_succ y m h2
  have hm := cum_mono y (12 - m).toNat (m + 1) (by omega) (by omega)
  have e : m + 1 + ((12 - m).toNat : Int) = 13 := by omega
  rw [e, cum_13] at hm
  omega
theorem isDate_unique {day y m d y' m' d' : Int} (h : isDate day y m d) (h' : isDate day y' m' d') : y = y' ∧ m = m' ∧ d = d' := by
  have a := isDate_inYear h
  have b := isDate_inYear h'
  have hy : y = y' := by
    rcases Int.lt_trichotomy y y' with c | c | c
    · have := dby_mono (y' - (y + 1)).toNat (y + 1)
      have e : y + 1 + ((y' - (y + 1)).toNat : Int) = y' := by omega
      rw [e] at this; omega
    · exact c
    · have := dby_mono (y - (y' + 1)).toNat (y' + 1)
      have e : y' + 1 + ((y - (y' + 1)).toNat : Int) = y := by omega
      rw [e] at this; omega
  subst hy
  obtain ⟨h1, h2, h3, h4⟩ := h
  obtain ⟨g1, g2, g3, g4⟩ := h'
  have hs := cum_succ y m h2
  have gs := cum_succ y m' g2
  have hm : m = m' := by
    rcases Int.lt_trichotomy m m' with c | c | c
    · have := cum_mono y (m' - (m + 1)).toNat (m + 1) (by omega) (by omega)
      have e : m + 1 + ((m' - (m + 1)).toNat : Int) = m' := by omega
      rw [e] at this; omega
    · exact c
    · have := cum_mono y (m - (m' + 1)).toNat (m' + 1) (by omega) (by omega)
      have e : m' + 1 + ((m - (m' + 1)).toNat : Int) = m := by omega
      rw [e] at this; omega
  subst hm
  exact ⟨rfl, rfl, by omega⟩
theorem specDate_ev (day : Int) (h : 0 ≤ day ∧ day ≤ 36524) : ∃ y m d, isDate day y m d ∧ Ev (fun k => spec_l3Date.f k day) (y, m, d) := by
  have inner : ∀ (n : Nat) (y m : Int), (2000 ≤ y ∧ y ≤ 2099) → m + n = 12 → 1 ≤ m → dbyA y + cumA y m ≤ day → day < dbyA y + ylA y → ∃ m' d, isDate day y m' d ∧ Ev (fun k => spec_l3Date.l1 k day y m 1) (y, m', d) := by
    intro n
    have last : ∀ y m : Int, (2000 ≤ y ∧ y ≤ 2099) → (1 ≤ m ∧ m ≤ 12) → dbyA y + cumA y m ≤ day → day < dbyA y + cumA y (m + 1) → isDate day y m (day - (dbyA y + cumA y m) + 1) := by
      intro y m hy hm h3 h4
      have hs := cum_succ y m hm
      exact ⟨hy, hm, by omega, by omega⟩
    induction n with
    | zero =>
      intro y m hy h1 h2 h3 h4
      have : m = 12 := by omega
      subst this
      refine ⟨12, _, last y 12 hy (by omega) h3 (by rw [show (12 : Int) + 1 = 13 from rfl, cum_13]; exact h4), ?_⟩
      refine evSucc ?_
      simp only [spec_l3Date.l1]
      refine evNeg (by omega) ?_
      have hb := dby_bd y (by omega)
      have hc := cum_bd y 12
      refine evBind (specDay_ev y 12 1 (by omega) (by omega) (by omega)) (evSome ?_)
      rw [show dbyA y + cumA y 12 + 1 - 1 = dbyA y + cumA y 12 by omega, wrapId (x := day - (dbyA y + cumA y 12)) (by omega), wrapId (by omega)]
    | succ n ih =>
      intro y m hy h1 h2 h3 h4
      have hb := dby_bd y (by omega)
      have hc := cum_bd y m
      have hc1 := cum_bd y (m + 1)
      have g1 := specDay_ev y (m + 1) 1 (by omega) (by omega) (by omega)
      by_cases c : dbyA y + cumA y (m + 1) + 1 - 1 ≤ day
      · obtain ⟨m', d, hd', he⟩ := ih y (m + 1) hy (by omega) (by omega) (by omega) h4
        refine ⟨m', d, hd', ?_⟩
        refine evSucc ?_
        simp only [spec_l3Date.l1, wrapId (x := m + 1) (by omega)]
        refine evPos (by omega) ?_
        refine evBind g1 ?_
        exact evPos c he
      · refine ⟨m, _, last y m hy (by omega) h3 (by omega), ?_⟩
        refine evSucc ?_
        simp only [spec_l3Date.l1, wrapId (x := m + 1) (by omega)]
        refine evPos (by omega) ?_
        refine evBind g1 ?_
        refine evNeg c ?_
        refine evBind (specDay_ev y m 1 (by omega) (by omega) (by omega)) (evSome ?_)
        rw [show dbyA y + cumA y m + 1 - 1 = dbyA y + cumA y m by omega, wrapId (x := day - (dbyA y + cumA y m)) (by omega), wrapId (by omega)]
  have fin : ∀ y : Int, (2000 ≤ y ∧ y ≤ 2099) → dbyA y ≤ day → day < dbyA y + ylA y → ∃ m d, isDate day y m d ∧ Ev (fun k => spec_l3Date.j1 k day y 1 1) (y, m, d) := by
    intro y hy h1 h2
    obtain ⟨m, d, hd, he⟩ := inner 11 y 1 hy (by omega) (by omega) (by rw [cum_1]; omega) h2
    refine ⟨m, d, hd, ?_⟩
    refine evSucc ?_
    simp only [spec_l3Date.j1]
    exact he
  have outer : ∀ (n : Nat) (y : Int), 2000 ≤ y → y + n = 2099 → dbyA y ≤ day → ∃ y' m d, isDate day y' m d ∧ Ev (fun k => spec_l3Date.l0 k day y 1 1) (y', m, d) := by
    intro n
    induction n with
    | zero =>
      intro y h1 h2 h3
      have : y = 2099 := by omega
      subst this
      have e : dbyA 2099 + ylA 2099 = 36525 := by decide
      obtain ⟨m, d, hd, he⟩ := fin 2099 (by omega) h3 (by omega)
      refine ⟨2099, m, d, hd, ?_⟩
      refine evSucc ?_
      simp only [spec_l3Date.l0]
      exact evNeg (by omega) he
    | succ n ih =>
      intro y h1 h2 h3
      have hs := dby_succ y
      have g1 := specDay_ev (y + 1) 1 1 (by omega) (by omega) (by omega)
      rw [cum_1] at g1
      by_cases c : dbyA (y + 1) + 0 + 1 - 1 ≤ day
      · obtain ⟨y', m, d, hd', he⟩ := ih (y + 1) (by omega) (by omega) (by omega)
        refine ⟨y', m, d, hd', ?_⟩
        refine evSucc ?_
        simp only [spec_l3Date.l0, wrapId (x := y + 1) (by omega)]
        refine evPos (by omega) ?_
        refine evBind g1 ?_
        exact evPos c he
      · obtain ⟨m, d, hd, he⟩ := fin y (by omega) h3 (by omega)
        refine ⟨y, m, d, hd, ?_⟩
        refine evSucc ?_
        simp only [spec_l3Date.l0, wrapId (x := y + 1) (by omega)]
        refine evPos (by omega) ?_
        refine evBind g1 ?_
        exact evNeg c he
  obtain ⟨y, m, d, h1, h2⟩ := outer 99 2000 (by omega) (by omega) (by unfold dbyA; omega)
  exact ⟨y, m, d, h1, by simp only [spec_l3Date.f]; exact h2⟩

theorem implDay_l1 (y m d : Int) (hy : 2000 ≤ y ∧ y ≤ 2100) (hm : 1 ≤ m ∧ m ≤ 13) (hd : -1 ≤ d ∧ d ≤ 400) : ∀ (n : Nat) (s j : Int), j + n = m → 1 ≤ j → s = d - 1 + dbyA y + cumA y j → Ev (fun k => impl_dayOf.l1 k s j y m d) (dbyA y + cumA y m + d - 1) := by
  have hb := dby_bd y hy
  intro n
  induction n with
  | zero =>
    intro s j h1 h2 h3
    refine evSucc ?_
    simp only [impl_dayOf.l1, daysIn_eq y _ (show 0 ≤ y by omega), Option.bind_some]
    refine evNeg (by omega) ?_
    have : j = m := by omega
    subst this
    exact evSome (by omega)
  | succ n ih =>
    intro s j h1 h2 h3
    have hc := cum_bd y j
    have hd2 := dim_bd y j
    have hs := cum_succ y j (by omega)
    refine evSucc ?_
    simp only [impl_dayOf.l1, daysIn_eq y _ (show 0 ≤ y by omega), Option.bind_some]
    refine evPos (by omega) ?_
    exact ih _ _ (by rw [wrapId (by omega)]; omega) (by rw [wrapId (by omega)]; omega) (by rw [wrapId (by omega), wrapId (by omega), hs]; omega)
theorem implDay_ev (y m d : Int) (hy : 2000 ≤ y ∧ y ≤ 2100) (hm : 1 ≤ m ∧ m ≤ 13) (hd : -1 ≤ d ∧ d ≤ 400) : Ev (fun k => impl_dayOf.f k y m d) (dbyA y + cumA y m + d - 1) := by
  have main : ∀ (n : Nat) (s j : Int), j + n = y → 2000 ≤ j → s = d - 1 + dbyA j → Ev (fun k => impl_dayOf.l0 k s j y m d) (dbyA y + cumA y m + d - 1) := by
    intro n
    induction n with
    | zero =>
      intro s j h1 h2 h3
      refine evSucc ?_
      simp only [impl_dayOf.l0, daysOf_eq j (show 0 ≤ j by omega), Option.bind_some]
      refine evNeg (by omega) ?_
      have : j = y := by omega
      subst this
      exact implDay_l1 j m d hy hm hd (m - 1).toNat _ 1 (by omega) (by omega) (by rw [cum_1]; omega)
    | succ n ih =>
      intro s j h1 h2 h3
      have hb := dby_bd j (by omega)
      have hl := yl_eq j
      have hl2 := leap_bd j
      have hs := dby_succ j
      refine evSucc ?_
      simp only [impl_dayOf.l0, daysOf_eq j (show 0 ≤ j by omega), Option.bind_some]
      refine evPos (by omega) ?_
      exact ih _ _ (by rw [wrapId (by omega)]; omega) (by rw [wrapId (by omega)]; omega) (by rw [wrapId (by omega), wrapId (by omega), hs]; omega)
  simp only [impl_dayOf.f]
  exact main (y - 2000).toNat _ 2000 (by omega) (by omega) (by rw [wrapId (by omega)]; unfold dbyA; omega)

theorem isDay_eq (a : Int) : impl_isDay.f a = some (decide (0 ≤ a ∧ a ≤ 36524)) := by
  unfold impl_isDay.f; rw [within_eq]; rfl
theorem l3Good_eq (a : Int) : spec_l3Good.f a = some (decide (0 ≤ a ∧ a ≤ 36524)) := by
  unfold spec_l3Good.f; rw [l1In_eq]; rfl

def minI (a b : Int) : Int := if b < a then b else a
theorem l1Least_eq (a b : Int) : spec_l1Least.f a b = some (minI a b) := by
  unfold spec_l1Least.f minI
  repeat (first | rfl | (congr 1; omega) | omega | split)
theorem minI_bd (a b : Int) : (minI a b = a ∨ minI a b = b) ∧ minI a b ≤ a ∧ minI a b ≤ b := by unfold minI; split <;> omega

/-- The day some months after a date; false if there is none. -/
def addD (y m d n : Int) : Int × Bool :=
  if 0 ≤ 12 * (y - 2000) + m - 1 + n ∧ 12 * (y - 2000) + m - 1 + n ≤ 1199 then
    (dbyA (2000 + (12 * (y - 2000) + m - 1 + n) / 12) + cumA (2000 + (12 * (y - 2000) + m - 1 + n) / 12) (1 + (12 * (y - 2000) + m - 1 + n) % 12) + minI d (dimA (2000 + (12 * (y - 2000) + m - 1 + n) / 12) (1 + (12 * (y - 2000) + m - 1 + n) % 12)) - 1, true)
  else (0, false)
theorem specMonths_ev {day y m d : Int} (n : Int) (hd : isDate day y m d) (he : Ev (fun k => spec_l3Date.f k day) (y, m, d)) (hn : -4800 ≤ n ∧ n ≤ 4800) : Ev (fun k => spec_l3Months.f k day n) (addD y m d n) := by
  obtain ⟨h1, h2, h3, h4⟩ := hd
  have hdm := dim_bd y m
  simp only [spec_l3Months.f]
  refine evBind he ?_
  have w : wrap64 (wrap64 (wrap64 (wrap64 (12 * y) + m) - 1) + n) = 12 * y + m - 1 + n := by
    rw [wrapId (x := 12 * y) (by omega), wrapId (x := 12 * y + m) (by omega), wrapId (x := 12 * y + m - 1) (by omega), wrapId (by omega)]
  simp only [w]
  rw [Int.tdiv_eq_ediv_of_nonneg (by omega), Int.tmod_eq_emod_of_nonneg (by omega)]
  have w2 : wrap64 ((12 * y + m - 1 + n) / 12) = (12 * y + m - 1 + n) / 12 := wrapId (by omega)
  have w3 : wrap64 ((12 * y + m - 1 + n) % 12 + 1) = (12 * y + m - 1 + n) % 12 + 1 := wrapId (by omega)
  simp only [w2, w3, l1In_eq, Option.bind_some, decide_eq_true_eq]
  unfold addD
  have e1 : 2000 + (12 * (y - 2000) + m - 1 + n) / 12 = (12 * y + m - 1 + n) / 12 := by omega
  have e2 : 1 + (12 * (y - 2000) + m - 1 + n) % 12 = (12 * y + m - 1 + n) % 12 + 1 := by omega
  rw [e1, e2]
  have hb : 1 ≤ (12 * y + m - 1 + n) % 12 + 1 ∧ (12 * y + m - 1 + n) % 12 + 1 ≤ 12 := by omega
  have hc : (0 ≤ 12 * (y - 2000) + m - 1 + n ∧ 12 * (y - 2000) + m - 1 + n ≤ 1199) ↔ (2000 ≤ (12 * y + m - 1 + n) / 12 ∧ (12 * y + m - 1 + n) / 12 ≤ 2099) := by omega
  generalize (12 * y + m - 1 + n) / 12 = Y at *
  generalize (12 * y + m - 1 + n) % 12 + 1 = M at *
  refine evIte (fun c => ?_) (fun c => ?_)
  · rw [if_pos (hc.mpr c)]
    refine evBind (l3Length_ev Y M (by omega)) ?_
    refine evBindS (l1Least_eq d (dimA Y M)) ?_
    have hm := minI_bd d (dimA Y M)
    have hq := dim_bd Y M
    exact evBind (specDay_ev Y M (minI d (dimA Y M)) (by omega) (by omega) (by omega)) (evSome rfl)
  · rw [if_neg (fun g => c (hc.mp g))]; exact evSome rfl
open Classical in
noncomputable def dateC (day : Int) : Int × Int × Int := if h : ∃ t : Int × Int × Int, isDate day t.1 t.2.1 t.2.2 then Classical.choose h else (0, 0, 0)
theorem dateC_eq {day y m d : Int} (h : isDate day y m d) : dateC day = (y, m, d) := by
  have hx : ∃ t : Int × Int × Int, isDate day t.1 t.2.1 t.2.2 := ⟨(y, m, d), h⟩
  unfold dateC
  rw [dif_pos hx]
  obtain ⟨a, b, c⟩ := isDate_unique (Classical.choose_spec hx) h
  exact Prod.ext a (Prod.ext b c)
theorem specDateC_ev (day : Int) (h : 0 ≤ day ∧ day ≤ 36524) : Ev (fun k => spec_l3Date.f k day) (dateC day) := by
  obtain ⟨y, m, d, h1, h2⟩ := specDate_ev day h
  rw [dateC_eq h1]; exact h2
theorem dateC_is (day : Int) (h : 0 ≤ day ∧ day ≤ 36524) : isDate day (dateC day).1 (dateC day).2.1 (dateC day).2.2 := by
  obtain ⟨y, m, d, h1, h2⟩ := specDate_ev day h
  rw [dateC_eq h1]; exact h1
/-- The months of a hundred years, numbered; where each begins, how long it is, and the day d of it. -/
def startN (n : Int) : Int := dbyA (2000 + n / 12) + cumA (2000 + n / 12) (1 + n % 12)
def dimN (n : Int) : Int := dimA (2000 + n / 12) (1 + n % 12)
def dayN (d n : Int) : Int := startN n + minI d (dimN n) - 1
theorem startN_succ (n : Int) (h : 0 ≤ n) : startN (n + 1) = startN n + dimN n := by
  unfold startN dimN
  by_cases c : n % 12 = 11
  · have e1 : (n + 1) / 12 = n / 12 + 1 := by omega
    have e2 : (n + 1) % 12 = 0 := by omega
    have h1 := dby_succ (2000 + n / 12)
    have h2 := cum_succ (2000 + n / 12) 12 (by omega)
    have h3 := cum_13 (2000 + n / 12)
    have h4 := cum_1 (2000 + (n / 12 + 1))
    rw [e1, e2, c, show (1 : Int) + 0 = 1 from rfl, show (1 : Int) + 11 = 12 from rfl, h4, show (2000 : Int) + (n / 12 + 1) = 2000 + n / 12 + 1 from by omega, h1]
    rw [show (12 : Int) + 1 = 13 from rfl] at h2
    omega
  · have e1 : (n + 1) / 12 = n / 12 := by omega
    have e2 : (n + 1) % 12 = n % 12 + 1 := by omega
    have h2 := cum_succ (2000 + n / 12) (1 + n % 12) (by omega)
    rw [e1, e2, show (1 : Int) + (n % 12 + 1) = 1 + n % 12 + 1 from by omega, h2]
    omega
theorem dayN_lt (d n : Int) (hd : 1 ≤ d) (h : 0 ≤ n) : dayN d n < dayN d (n + 1) := by
  unfold dayN
  rw [startN_succ n h]
  have b1 := minI_bd d (dimN n)
  have b2 := minI_bd d (dimN (n + 1))
  have c2 : 28 ≤ dimN (n + 1) ∧ dimN (n + 1) ≤ 31 := dim_bd _ _
  omega
theorem dayN_mono (d : Int) (hd : 1 ≤ d) : ∀ (k : Nat) (n : Int), 0 ≤ n → dayN d n < dayN d (n + k + 1)
  | 0, n, h => by have := dayN_lt d n hd h; rw [show n + ((0 : Nat) : Int) + 1 = n + 1 from by omega]; exact this
  | k + 1, n, h => by
    have h1 := dayN_mono d hd k n h
    have h2 := dayN_lt d (n + k + 1) hd (by omega)
    rw [show n + ((k + 1 : Nat) : Int) + 1 = n + k + 1 + 1 from by omega]
    omega
theorem addD_eq (y m d n : Int) : addD y m d n = if 0 ≤ 12 * (y - 2000) + m - 1 + n ∧ 12 * (y - 2000) + m - 1 + n ≤ 1199 then (dayN d (12 * (y - 2000) + m - 1 + n), true) else (0, false) := rfl
/-- The day k steps of s months after a day. -/
noncomputable def regD (day s : Int) (k : Nat) : Int × Bool := addD (dateC day).1 (dateC day).2.1 (dateC day).2.2 (k * s)
theorem regD_lt {day s : Int} (h : 0 ≤ day ∧ day ≤ 36524) (hs : 1 ≤ s) {k : Nat} (h1 : (regD day s k).2 = true) (h2 : (regD day s (k + 1)).2 = true) : (regD day s k).1 < (regD day s (k + 1)).1 := by
  obtain ⟨i1, i2, i3, _⟩ := dateC_is day h
  unfold regD at h1 h2 ⊢
  rw [addD_eq] at h1 h2 ⊢
  rw [addD_eq]
  have e : ((k + 1 : Nat) : Int) * s = k * s + s := by rw [Int.natCast_add, Int.add_mul]; simp
  rw [e] at h2 ⊢
  generalize (k : Int) * s = q at h1 h2 ⊢
  split at h1
  · split at h2
    · rename_i c1 c2
      rw [if_pos c1, if_pos c2]
      have := dayN_mono (dateC day).2.2 i3.1 (s - 1).toNat (12 * ((dateC day).1 - 2000) + (dateC day).2.1 - 1 + q) c1.1
      rw [show 12 * ((dateC day).1 - 2000) + (dateC day).2.1 - 1 + q + (((s - 1).toNat : Nat) : Int) + 1 = 12 * ((dateC day).1 - 2000) + (dateC day).2.1 - 1 + (q + s) from by omega] at this
      exact this
    · cases h2
  · cases h1
theorem regD_gt {day s : Int} (h : 0 ≤ day ∧ day ≤ 36524) (hs : s ≤ -1) {k : Nat} (h1 : (regD day s k).2 = true) (h2 : (regD day s (k + 1)).2 = true) : (regD day s (k + 1)).1 < (regD day s k).1 := by
  obtain ⟨i1, i2, i3, _⟩ := dateC_is day h
  unfold regD at h1 h2 ⊢
  rw [addD_eq] at h1 h2 ⊢
  rw [addD_eq]
  have e : ((k + 1 : Nat) : Int) * s = k * s + s := by rw [Int.natCast_add, Int.add_mul]; simp
  rw [e] at h2 ⊢
  generalize (k : Int) * s = q at h1 h2 ⊢
  split at h1
  · split at h2
    · rename_i c1 c2
      rw [if_pos c1, if_pos c2]
      have := dayN_mono (dateC day).2.2 i3.1 (-s - 1).toNat (12 * ((dateC day).1 - 2000) + (dateC day).2.1 - 1 + (q + s)) c2.1
      rw [show 12 * ((dateC day).1 - 2000) + (dateC day).2.1 - 1 + (q + s) + (((-s - 1).toNat : Nat) : Int) + 1 = 12 * ((dateC day).1 - 2000) + (dateC day).2.1 - 1 + q from by omega] at this
      exact this
    · cases h2
  · cases h1
/-- No step beyond a hundred years. -/
theorem regD_few {day s : Int} (h : 0 ≤ day ∧ day ≤ 36524) (hs : 1 ≤ s ∨ s ≤ -1) {k : Nat} (h1 : (regD day s k).2 = true) : (k : Int) ≤ 1199 ∧ -1199 ≤ (k : Int) * s ∧ (k : Int) * s ≤ 1199 := by
  obtain ⟨i1, i2, i3, _⟩ := dateC_is day h
  unfold regD at h1
  rw [addD_eq] at h1
  split at h1
  · rename_i c
    have hb : -1199 ≤ (k : Int) * s ∧ (k : Int) * s ≤ 1199 := by omega
    refine ⟨?_, hb⟩
    rcases hs with q | q
    · have := Int.mul_le_mul_of_nonneg_left q (show 0 ≤ (k : Int) by omega)
      omega
    · have := Int.mul_le_mul_of_nonneg_left (show 1 ≤ -s by omega) (show 0 ≤ (k : Int) by omega)
      rw [Int.mul_neg] at this
      omega
  · cases h1
/-- The days strictly between two days, from step k on. -/
noncomputable def regL (lo hi day s : Int) : Nat → Nat → List Int
  | 0, _ => []
  | f + 1, k => if (regD day s k).2 = true ∧ lo < (regD day s k).1 ∧ (regD day s k).1 < hi then (regD day s k).1 :: regL lo hi day s f (k + 1) else []
theorem regL_in (lo hi day s : Int) : ∀ (f k : Nat), ∀ x ∈ regL lo hi day s f k, lo < x ∧ x < hi
  | 0, _, x, hx => by simp [regL] at hx
  | f + 1, k, x, hx => by
    rw [regL] at hx
    split at hx
    · rename_i c
      rcases List.mem_cons.mp hx with q | q
      · rw [q]; exact c.2
      · exact regL_in lo hi day s f (k + 1) x q
    · simp at hx
theorem regL_up {lo hi day s : Int} (h : 0 ≤ day ∧ day ≤ 36524) (hs : 1 ≤ s) : ∀ (f k : Nat), (regL lo hi day s f k).Pairwise (· < ·) ∧ ∀ x ∈ regL lo hi day s f k, (regD day s k).2 = true ∧ (regD day s k).1 ≤ x
  | 0, _ => by simp [regL]
  | f + 1, k => by
    rw [regL]
    split
    · rename_i c
      obtain ⟨p1, p2⟩ := regL_up h hs (lo := lo) (hi := hi) f (k + 1)
      refine ⟨List.pairwise_cons.mpr ⟨fun x hx => ?_, p1⟩, fun x hx => ⟨c.1, ?_⟩⟩
      · have h1 := p2 x hx
        have h2 := regD_lt h hs c.1 h1.1
        omega
      · rcases List.mem_cons.mp hx with q | q
        · omega
        · have h1 := p2 x q
          have h2 := regD_lt h hs c.1 h1.1
          omega
    · simp
theorem regL_down {lo hi day s : Int} (h : 0 ≤ day ∧ day ≤ 36524) (hs : s ≤ -1) : ∀ (f k : Nat), (regL lo hi day s f k).Pairwise (fun a b => b < a) ∧ ∀ x ∈ regL lo hi day s f k, (regD day s k).2 = true ∧ x ≤ (regD day s k).1
  | 0, _ => by simp [regL]
  | f + 1, k => by
    rw [regL]
    split
    · rename_i c
      obtain ⟨p1, p2⟩ := regL_down h hs (lo := lo) (hi := hi) f (k + 1)
      refine ⟨List.pairwise_cons.mpr ⟨fun x hx => ?_, p1⟩, fun x hx => ⟨c.1, ?_⟩⟩
      · have h1 := p2 x hx
        have h2 := regD_gt h hs c.1 h1.1
        omega
      · rcases List.mem_cons.mp hx with q | q
        · omega
        · have h1 := p2 x q
          have h2 := regD_gt h hs c.1 h1.1
          omega
    · simp
/-- The days found, in the order of the steps; the same in the order of time; the answer. -/
noncomputable def regS (a b m : Int) (back : Bool) : List Int := if back then regL a b b (-m) 1201 1 else regL a b a m 1201 1
noncomputable def regM (a b m : Int) (back : Bool) : List Int := if back then (regS a b m back).reverse else regS a b m back
noncomputable def regA (a b m : Int) (back : Bool) : List Int × Bool :=
  if (0 ≤ a ∧ a ≤ 36524) ∧ (0 ≤ b ∧ b ≤ 36524) ∧ a < b ∧ (1 ≤ m ∧ m ≤ 120) then (if (regS a b m back).length ≤ 39 then (a :: (regM a b m back ++ [b]), true) else ([], false)) else ([], false)
theorem regA_len (a b m : Int) (back : Bool) : (regA a b m back).1.length ≤ 41 := by
  unfold regA
  split
  · split
    · unfold regM; split <;> simp <;> omega
    · exact Nat.zero_le _
  · exact Nat.zero_le _
theorem regM_sorted {a b m : Int} {back : Bool} (h : (0 ≤ a ∧ a ≤ 36524) ∧ (0 ≤ b ∧ b ≤ 36524) ∧ a < b ∧ (1 ≤ m ∧ m ≤ 120)) : (a :: (regM a b m back ++ [b])).Pairwise (· < ·) ∧ ∀ x ∈ regS a b m back, a < x ∧ x < b := by
  obtain ⟨ha, hb, hab, hm⟩ := h
  have hin : ∀ x ∈ regS a b m back, a < x ∧ x < b := by
    unfold regS; split
    · exact regL_in _ _ _ _ _ _
    · exact regL_in _ _ _ _ _ _
  have hmem : ∀ x ∈ regM a b m back, a < x ∧ x < b := fun x hx => by
    unfold regM at hx
    split at hx
    · exact hin x (List.mem_reverse.mp hx)
    · exact hin x hx
  have hp : (regM a b m back).Pairwise (· < ·) := by
    unfold regM
    split
    · rename_i c
      rw [List.pairwise_reverse]
      unfold regS
      rw [if_pos c]
      exact (regL_down hb (by omega) 1201 1).1
    · rename_i c
      unfold regS
      rw [if_neg c]
      exact (regL_up ha (by omega) 1201 1).1
  refine ⟨List.pairwise_cons.mpr ⟨fun x hx => ?_, List.pairwise_append.mpr ⟨hp, by simp, fun x hx y hy => ?_⟩⟩, hin⟩
  · rcases List.mem_append.mp hx with q | q
    · exact (hmem x q).1
    · rw [List.mem_singleton.mp q]; exact hab
  · rw [List.mem_singleton.mp hy]; exact (hmem x hx).2
/-- What the program sorts. -/
theorem reg_sort {a b m : Int} {back : Bool} (h : (0 ≤ a ∧ a ≤ 36524) ∧ (0 ≤ b ∧ b ≤ 36524) ∧ a < b ∧ (1 ≤ m ∧ m ≤ 120)) : (a :: (regS a b m back ++ [b])).mergeSort (fun x y => decide (x ≤ y)) = a :: (regM a b m back ++ [b]) := by
  have hs := (regM_sorted (back := back) h).1
  refine List.Perm.eq_of_pairwise (le := fun x y => decide (x ≤ y) = true) (fun x y _ _ h1 h2 => ?_) (List.pairwise_mergeSort (fun x y z h1 h2 => ?_) (fun x y => ?_) _) (hs.imp (fun {x y} h1 => decide_eq_true (Int.le_of_lt h1))) ?_
  · have := of_decide_eq_true h1; have := of_decide_eq_true h2; omega
  · have := of_decide_eq_true h1; have := of_decide_eq_true h2; exact decide_eq_true (by omega)
  · by_cases q : x ≤ y
    · simp [q]
    · simp [show y ≤ x by omega]
  · refine (List.mergeSort_perm _ _).trans (List.Perm.cons a (List.Perm.append_right _ ?_))
    unfold regM
    split
    · exact (List.reverse_perm _).symm
    · exact List.Perm.refl _
/-- A number put into a rising row. -/
def putA : List Int → Int → List Int
  | [], n => [n]
  | a :: t, n => if a < n then a :: putA t n else if a = n then a :: t else n :: a :: t
theorem putA_end {x e : Int} (he : x < e) : ∀ l : List Int, (∀ a ∈ l, a < x) → putA (l ++ [e]) x = l ++ [x, e]
  | [], _ => by rw [List.nil_append, putA, if_neg (by omega), if_neg (by omega)]; rfl
  | a :: t, h => by
    rw [List.cons_append, putA, if_pos (h a List.mem_cons_self), putA_end he t (fun b hb => h b (List.mem_cons_of_mem _ hb))]; rfl
theorem putA_front {x a b : Int} (ha : a < x) (hb : x < b) (t : List Int) : putA (a :: b :: t) x = a :: x :: b :: t := by
  rw [putA, if_pos ha, putA, if_neg (by omega), if_neg (by omega)]
theorem putA_split (n : Int) : ∀ (l : List Int) (k : Nat), k ≤ l.length → (∀ a ∈ l.take k, a < n) → (∀ a, l[k]? = some a → ¬ a < n) → putA l n = if l[k]? = some n then l else l.take k ++ n :: l.drop k
  | [], k, hk, _, _ => by
    obtain rfl : k = 0 := by simpa using hk
    simp [putA]
  | a :: t, 0, _, _, h2 => by
    have h3 := h2 a (by simp)
    rw [putA, if_neg h3]
    by_cases q : a = n
    · simp [q]
    · rw [if_neg q]; simp [q]
  | a :: t, k + 1, hk, h1, h2 => by
    have h3 := h1 a (by simp)
    rw [putA, if_pos h3, putA_split n t k (by simpa using hk) (fun b hb => h1 b (by simp [hb])) (fun b hb => h2 b (by simpa using hb))]
    simp only [List.getElem?_cons_succ, List.take_succ_cons, List.drop_succ_cons, List.cons_append]
    split <;> rfl

theorem regL_at (lo hi day s : Int) : ∀ (f k j : Nat) (x : Int), (regL lo hi day s f k)[j]? = some x → regD day s (k + j) = (x, true)
  | 0, k, j, x, h => by simp [regL] at h
  | f + 1, k, j, x, h => by
    rw [regL] at h
    split at h
    · rename_i c
      rcases j with _ | j
      · have e : (regD day s k).1 = x := by simpa using h
        rw [Nat.add_zero, ← e, ← c.1]
      · have h2 : (regL lo hi day s f (k + 1))[j]? = some x := by simpa using h
        have := regL_at lo hi day s f (k + 1) j x h2
        rw [show k + (j + 1) = k + 1 + j from by omega]
        exact this
    · simp at h
/-- What holds of the days in the end. -/
theorem reg_at {a b m : Int} {back : Bool} {i : Nat} (h1 : 1 ≤ i) (h2 : i ≤ (regS a b m back).length) :
    ∃ x, (a :: (regM a b m back ++ [b]))[i]? = some x ∧ (if back then regD b (-m) ((regS a b m back).length + 1 - i) else regD a m i) = (x, true) := by
  obtain ⟨j, rfl⟩ : ∃ j, i = j + 1 := ⟨i - 1, by omega⟩
  have hl : (regM a b m back).length = (regS a b m back).length := by unfold regM; split <;> simp
  have hj : j < (regM a b m back).length := by omega
  refine ⟨(regM a b m back)[j], by rw [List.getElem?_cons_succ, List.getElem?_append_left hj, List.getElem?_eq_getElem hj], ?_⟩
  have hg : (regM a b m back)[j]? = some (regM a b m back)[j] := List.getElem?_eq_getElem hj
  generalize (regM a b m back)[j] = x at hg
  unfold regM at hg
  split
  · rename_i c
    rw [if_pos c] at hg
    rw [List.getElem?_reverse (by omega)] at hg
    unfold regS at hg
    rw [if_pos c] at hg
    have := regL_at _ _ _ _ _ _ _ _ hg
    rw [← this]
    have e : regS a b m back = regL a b b (-m) 1201 1 := by unfold regS; rw [if_pos c]
    rw [e]
    congr 1
    rw [e] at h2
    omega
  · rename_i c
    rw [if_neg c] at hg
    unfold regS at hg
    rw [if_neg c] at hg
    have := regL_at _ _ _ _ _ _ _ _ hg
    rw [Nat.add_comm] at this
    exact this
theorem addD_far {y m d n : Int} (h1 : 2000 ≤ y ∧ y ≤ 2099) (h2 : 1 ≤ m ∧ m ≤ 12) (hn : ¬ (-1200 ≤ n ∧ n ≤ 1200)) : addD y m d n = (0, false) := by
  rw [addD_eq, if_neg (by omega)]
theorem specAddM_ev {day : Int} (h : 0 ≤ day ∧ day ≤ 36524) (n : Int) : Ev (fun k => spec_AddMonths.f k day n) (addD (dateC day).1 (dateC day).2.1 (dateC day).2.2 n) := by
  obtain ⟨i1, i2, _, _⟩ := dateC_is day h
  simp only [spec_AddMonths.f, l3Good_eq, l1In_eq, Option.bind_some, decide_eq_true_eq]
  refine evPos h ?_
  by_cases c : -1200 ≤ n ∧ n ≤ 1200
  · refine evPos c ?_
    exact evBind (specMonths_ev n (dateC_is day h) (specDateC_ev day h) (by omega)) (Ev.now _)
  · refine evNeg c ?_
    rw [addD_far i1 i2 c]
    exact Ev.now _
end Go.Proofs.Ytlmdghcpcohamaa.Pure
