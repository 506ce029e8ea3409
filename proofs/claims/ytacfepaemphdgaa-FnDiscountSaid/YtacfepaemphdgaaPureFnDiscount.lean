/- The plain law of FnDiscount. No other condition. -/
import Derived.Test.YtacfepaemphdgaaPL15Ix0
import Derived.Test.YtacfepaemphdgaaPL15Ix1
import Derived.Test.YtacfepaemphdgaaPL15Ix2
import Derived.Test.YtacfepaemphdgaaPL15Ix3
import Derived.Test.YtacfepaemphdgaaPL15Ix4
import Derived.Test.YtacfepaemphdgaaPL15Ix5
import Derived.Test.YtacfepaemphdgaaEvKit
import Derived.Test.YtacfepaemphdgaaKReads
namespace Go.Proofs.Ytacfepaemphdgaa.Pure
open Go.RowKit Go.Proofs.YtacfepaemphdgaaW.PrintWords Go.Proofs.YtacfepaemphdgaaW.PrintLast Go.Proofs.YtacfepaemphdgaaW.PrintMore Go.Proofs.Ytacfepaemphdgaa.PL15I Go.Proofs.Ytacfepaemphdgaa.EvKit
set_option linter.unusedVariables false
set_option linter.unusedSimpArgs false
theorem within_eq (a b c : Int) : impl_within.f a b c = some (decide (b ≤ a ∧ a ≤ c)) := by
  unfold impl_within.f
  by_cases h : a ≥ b
  · rw [if_pos h]; exact congrArg some (decide_eq_decide.mpr ⟨fun g => ⟨h, g⟩, fun g => g.2⟩)
  · rw [if_neg h]; exact congrArg some (decide_eq_false (fun g => h g.1)).symm
theorem l1In_eq (a b c : Int) : spec_l1In.f a b c = some (decide (b ≤ a ∧ a ≤ c)) := by
  unfold spec_l1In.f
  by_cases h : a ≥ b
  · rw [if_pos h]; exact congrArg some (decide_eq_decide.mpr ⟨fun g => ⟨h, g⟩, fun g => g.2⟩)
  · rw [if_neg h]; exact congrArg some (decide_eq_false (fun g => h g.1)).symm

theorem isAmount_eq (a : Int) : impl_isAmount.f a = some (decide (-1000000000 ≤ a ∧ a ≤ 1000000000)) := by
  unfold impl_isAmount.f; rw [within_eq]; rfl

theorem l2Amount_eq (a : Int) : spec_l2Amount.f a = some (decide (-1000000000 ≤ a ∧ a ≤ 1000000000)) := by
  unfold spec_l2Amount.f; rw [l1In_eq]; rfl

theorem gcd_step (a b : Int) : Int.gcd b (Int.tmod a b) = Int.gcd a b := by
  unfold Int.gcd
  rw [Int.natAbs_tmod, Nat.gcd_comm b.natAbs, ← Nat.gcd_rec, Nat.gcd_comm]
def okF (n d : Int) : Prop := (1 ≤ d ∧ d ≤ 1000000000) ∧ (-1000000000 ≤ n ∧ n ≤ 1000000000) ∧ Int.gcd n d = 1
instance (n d : Int) : Decidable (okF n d) := by unfold okF; infer_instance
theorem implDiv_l0 : ∀ (n : Nat) (a b : Int), b.natAbs ≤ n → a.natAbs ≤ 9223372036854775807 → b.natAbs ≤ 9223372036854775807 → Ev (fun k => impl_divisor.l0 k a b) (Int.gcd a b : Int) := by
  intro n
  induction n with
  | zero =>
    intro a b h1 h2 h3
    have hb : b = 0 := by omega
    refine evSucc ?_
    simp only [impl_divisor.l0, impl_size.f, Option.bind_some]
    refine evPos hb ?_
    refine evSome ?_
    rw [hb, Int.gcd_zero_right, wrapId (by omega)]
    unfold mx; split <;> omega
  | succ n ih =>
    intro a b h1 h2 h3
    refine evSucc ?_
    simp only [impl_divisor.l0, impl_size.f, Option.bind_some]
    by_cases hb : b = 0
    · refine evPos hb ?_
      refine evSome ?_
      rw [hb, Int.gcd_zero_right, wrapId (by omega)]
      unfold mx; split <;> omega
    · refine evNeg hb ?_
      have hm : (Int.tmod a b).natAbs < b.natAbs := by rw [Int.natAbs_tmod]; exact Nat.mod_lt _ (by omega)
      have g := ih b (Int.tmod a b) (by omega) (by omega) (by omega)
      rw [gcd_step] at g
      exact g
theorem implDiv_ev (a b : Int) (h2 : a.natAbs ≤ 9223372036854775807) (h3 : b.natAbs ≤ 9223372036854775807) : Ev (fun k => impl_divisor.f k a b) (Int.gcd a b : Int) := by
  simp only [impl_divisor.f]; exact implDiv_l0 b.natAbs a b (Nat.le_refl _) h2 h3
theorem specGcd_l0 : ∀ (n : Nat) (a b : Int), b.natAbs ≤ n → 0 ≤ a → 0 ≤ b → Ev (fun k => spec_l2Gcd.l0 k a b) (Int.gcd a b : Int) := by
  intro n
  induction n with
  | zero =>
    intro a b h1 h2 h3
    have hb : b = 0 := by omega
    refine evSucc ?_
    simp only [spec_l2Gcd.l0]
    refine evPos hb ?_
    refine evSome ?_
    rw [hb, Int.gcd_zero_right]; omega
  | succ n ih =>
    intro a b h1 h2 h3
    refine evSucc ?_
    simp only [spec_l2Gcd.l0]
    by_cases hb : b = 0
    · refine evPos hb ?_
      refine evSome ?_
      rw [hb, Int.gcd_zero_right]; omega
    · refine evNeg hb ?_
      have hm : (Int.tmod a b).natAbs < b.natAbs := by rw [Int.natAbs_tmod]; exact Nat.mod_lt _ (by omega)
      have h0 : 0 ≤ Int.tmod a b := Int.tmod_nonneg b h2
      have g := ih b (Int.tmod a b) (by omega) h3 h0
      rw [gcd_step] at g
      exact g
theorem specGcd_ev (a b : Int) (h2 : 0 ≤ a) (h3 : 0 ≤ b) : Ev (fun k => spec_l2Gcd.f k a b) (Int.gcd a b : Int) := by
  simp only [spec_l2Gcd.f]; exact specGcd_l0 b.natAbs a b (Nat.le_refl _) h2 h3
theorem specAbs_eq (a : Int) (h : a.natAbs ≤ 9223372036854775807) : spec_l2Abs.f a = some (a.natAbs : Int) := by
  unfold spec_l2Abs.f
  rw [wrapId (by omega)]
  split <;> (congr 1; omega)
theorem int_one {a : Nat} : ((a : Int) == 1) = decide (a = 1) := by
  rw [Bool.eq_iff_iff]; simp only [beq_iff_eq, decide_eq_true_eq]; omega
theorem implIsF_ev (n d : Int) : Ev (fun k => impl_isFraction.f k n d) (decide (okF n d)) := by
  simp only [impl_isFraction.f, within_eq, isAmount_eq, Option.bind_some, decide_eq_true_eq]
  refine evIte (fun c1 => ?_) (fun c1 => evSome (decide_eq_false (fun g => c1 g.1)).symm)
  refine evIte (fun c2 => ?_) (fun c2 => evSome (decide_eq_false (fun g => c2 g.2.1)).symm)
  refine evBind (implDiv_ev n d (by omega) (by omega)) (evSome ?_)
  rw [int_one]
  exact decide_eq_decide.mpr ⟨fun g => ⟨c1, c2, g⟩, fun g => g.2.2⟩
theorem specIsF_ev (n d : Int) : Ev (fun k => spec_l2Fraction.f k n d) (decide (okF n d)) := by
  simp only [spec_l2Fraction.f, l1In_eq, l2Amount_eq, Option.bind_some, decide_eq_true_eq]
  refine evIte (fun c1 => ?_) (fun c1 => evSome (decide_eq_false (fun g => c1 g.1)).symm)
  refine evIte (fun c2 => ?_) (fun c2 => evSome (decide_eq_false (fun g => c2 g.2.1)).symm)
  refine evBindS (specAbs_eq n (by omega)) ?_
  refine evBind (specGcd_ev (n.natAbs : Int) d (by omega) (by omega)) (evSome ?_)
  rw [int_one]
  refine decide_eq_decide.mpr ⟨fun g => ⟨c1, c2, ?_⟩, fun g => ?_⟩
  · unfold Int.gcd at g ⊢; simpa using g
  · have := g.2.2; unfold Int.gcd at this ⊢; simpa using this
/-- The valid fraction equal to a / b, b not 0. -/
def fracA (a b : Int) : Int × Int × Bool :=
  if okF ((if b < 0 then -a else a) / (Int.gcd a b : Int)) ((if b < 0 then -b else b) / (Int.gcd a b : Int)) then
    ((if b < 0 then -a else a) / (Int.gcd a b : Int), (if b < 0 then -b else b) / (Int.gcd a b : Int), true) else (0, 0, false)
theorem quot_of {a g c : Int} (hg : 0 < g) (h : a = g * c) : a / g = c ∧ a.tdiv g = c ∧ (-a) / g = -c ∧ a.tdiv (-g) = -c ∧ c.natAbs ≤ a.natAbs := by
  have h1 : a / g = c := by rw [h]; exact Int.mul_ediv_cancel_left _ (by omega)
  have h2 : a.tdiv g = c := by rw [h]; exact Int.mul_tdiv_cancel_left _ (by omega)
  refine ⟨h1, h2, ?_, ?_, ?_⟩
  · rw [h, ← Int.mul_neg]; exact Int.mul_ediv_cancel_left _ (by omega)
  · rw [Int.tdiv_neg, h2]
  · rw [h, Int.natAbs_mul]; exact Nat.le_mul_of_pos_left _ (by omega)
theorem specReduce_j0 (a b : Int) (ha : a.natAbs ≤ 4000000000000000000) (hb : b.natAbs ≤ 4000000000000000000) (h0 : 0 < b) : Ev (fun k => spec_l2Reduce.j0 k a b) (fracA a b) := by
  have hg : (0 : Int) < (Int.gcd a b : Int) := by have := Int.gcd_pos_of_ne_zero_right a (show b ≠ 0 by omega); omega
  obtain ⟨c, hc⟩ : (Int.gcd a b : Int) ∣ a := Int.gcd_dvd_left a b
  obtain ⟨e, he⟩ : (Int.gcd a b : Int) ∣ b := Int.gcd_dvd_right a b
  have e1 : Int.gcd (a.natAbs : Int) b = Int.gcd a b := by unfold Int.gcd; simp
  have g1 := specGcd_ev (a.natAbs : Int) b (by omega) (by omega)
  rw [e1] at g1
  refine evSucc ?_
  simp only [spec_l2Reduce.j0]
  refine evBindS (specAbs_eq a (by omega)) ?_
  refine evBind g1 ?_
  unfold fracA
  clear g1 e1
  generalize hG : (Int.gcd a b : Int) = g at *
  obtain ⟨q1, q2, q3, q4, q5⟩ := quot_of hg hc
  obtain ⟨r1, r2, r3, r4, r5⟩ := quot_of hg he
  have cb : ¬ b < 0 := by omega
  simp only [if_neg cb]
  have w2 : wrap64 c = c := wrapId (by omega)
  have w3 : wrap64 e = e := wrapId (by omega)
  simp only [q2, r2, w2, w3, q1, r1]
  refine evNeg (by omega) ?_
  refine evBind (specIsF_ev c e) ?_
  simp only [decide_eq_true_eq]
  refine evIte (fun k => ?_) (fun k => ?_)
  · rw [if_pos k]; exact evSome rfl
  · rw [if_neg k]; exact evSome rfl
theorem fracA_neg (a b : Int) (h : b < 0) : fracA (-a) (-b) = fracA a b := by
  unfold fracA
  rw [Int.neg_gcd, Int.gcd_neg]
  simp only [if_pos h, if_neg (show ¬ -b < 0 by omega)]
theorem specReduce_ev (a b : Int) (ha : a.natAbs ≤ 4000000000000000000) (hb : b.natAbs ≤ 4000000000000000000) (h0 : b ≠ 0) : Ev (fun k => spec_l2Reduce.f k a b) (fracA a b) := by
  simp only [spec_l2Reduce.f]
  refine evIte (fun c => ?_) (fun c => ?_)
  · rw [wrapId (x := -a) (by omega), wrapId (x := -b) (by omega), ← fracA_neg a b c]
    exact specReduce_j0 (-a) (-b) (by omega) (by omega) (by omega)
  · exact specReduce_j0 a b ha hb (by omega)
theorem fracA_cases (a b : Int) : fracA a b = (0, 0, false) ∨ ∃ n d, fracA a b = (n, d, true) ∧ okF n d := by
  unfold fracA
  generalize (if b < 0 then -a else a) / (Int.gcd a b : Int) = n
  generalize (if b < 0 then -b else b) / (Int.gcd a b : Int) = d
  by_cases h : okF n d
  · rw [if_pos h]; exact .inr ⟨_, _, rfl, h⟩
  · rw [if_neg h]; exact .inl rfl

/-- What the program's fraction computes on its way. -/
theorem frac_parts (a b : Int) (ha : a.natAbs ≤ 4000000000000000000) (hb : b.natAbs ≤ 4000000000000000000) (h0 : b ≠ 0) : ∃ g n d : Int, (Int.gcd a b : Int) = g ∧ (0 < g ∧ g ≤ 4000000000000000000) ∧ (-4000000000000000000 ≤ n ∧ n ≤ 4000000000000000000) ∧ (-4000000000000000000 ≤ d ∧ d ≤ 4000000000000000000) ∧ (b < 0 → a.tdiv (-g) = n ∧ b.tdiv (-g) = d) ∧ (¬ b < 0 → a.tdiv g = n ∧ b.tdiv g = d) ∧ fracA a b = if okF n d then (n, d, true) else (0, 0, false) := by
  have hg : (0 : Int) < (Int.gcd a b : Int) := by have := Int.gcd_pos_of_ne_zero_right a h0; omega
  obtain ⟨c, hc⟩ : (Int.gcd a b : Int) ∣ a := Int.gcd_dvd_left a b
  obtain ⟨e, he⟩ : (Int.gcd a b : Int) ∣ b := Int.gcd_dvd_right a b
  have hgb : (Int.gcd a b) ≤ b.natAbs := Nat.gcd_le_right _ (by omega)
  unfold fracA
  generalize hG : (Int.gcd a b : Int) = g at *
  obtain ⟨q1, q2, q3, q4, q5⟩ := quot_of hg hc
  obtain ⟨r1, r2, r3, r4, r5⟩ := quot_of hg he
  by_cases cb : b < 0
  · simp only [if_pos cb]
    rw [q3, r3]
    exact ⟨g, -c, -e, rfl, by omega, by omega, by omega, fun _ => ⟨q4, r4⟩, fun h => absurd cb h, rfl⟩
  · simp only [if_neg cb]
    rw [q1, r1]
    exact ⟨g, c, e, rfl, by omega, by omega, by omega, fun h => absurd h cb, fun _ => ⟨q2, r2⟩, rfl⟩


theorem rd_T61_at {xs pre t : List S61} {a : S61} (h : xs = pre ++ a :: t) {i : Int} (hi : i = pre.length) : rd_T61 xs i = a := getD_at h hi

def dimA (y m : Int) : Int := if m = 2 then (if y % 4 = 0 then 29 else 28) else if m = 4 then 30 else if m = 6 then 30 else if m = 9 then 30 else if m = 11 then 30 else 31
def ylA (y : Int) : Int := 337 + dimA y 2
def dbyA (y : Int) : Int := 365 * (y - 2000) + (y - 2000 + 3) / 4
def leapA (y : Int) : Int := if y % 4 = 0 then 1 else 0
def cumA (y m : Int) : Int :=
  if m ≤ 1 then 0 else if m = 2 then 31 else leapA y + (if m = 3 then 59 else if m = 4 then 90 else if m = 5 then 120 else if m = 6 then 151 else if m = 7 then 181 else if m = 8 then 212 else if m = 9 then 243 else if m = 10 then 273 else if m = 11 then 304 else if m = 12 then 334 else 365)
theorem dim_bd (y m : Int) : 28 ≤ dimA y m ∧ dimA y m ≤ 31 := by unfold dimA; repeat (first | omega | split)
theorem yl_eq (y : Int) : ylA y = 365 + leapA y := by unfold ylA dimA leapA; rw [if_pos rfl]; split <;> omega
theorem leap_bd (y : Int) : 0 ≤ leapA y ∧ leapA y ≤ 1 := by unfold leapA; split <;> omega
theorem dby_succ (y : Int) : dbyA (y + 1) = dbyA y + ylA y := by
  rw [yl_eq]; unfold dbyA leapA; split <;> omega
theorem dby_bd (y : Int) (h : 2000 ≤ y ∧ y ≤ 2100) : 0 ≤ dbyA y ∧ dbyA y ≤ 36525 := by unfold dbyA; omega
theorem cum_succ (y m : Int) (h : 1 ≤ m ∧ m ≤ 12) : cumA y (m + 1) = cumA y m + dimA y m := by
  have : m = 1 ∨ m = 2 ∨ m = 3 ∨ m = 4 ∨ m = 5 ∨ m = 6 ∨ m = 7 ∨ m = 8 ∨ m = 9 ∨ m = 10 ∨ m = 11 ∨ m = 12 := by omega
  rcases this with rfl | rfl | rfl | rfl | rfl | rfl | rfl | rfl | rfl | rfl | rfl | rfl <;> simp [cumA, dimA] <;> unfold leapA <;> split <;> rfl
theorem cum_bd (y m : Int) : 0 ≤ cumA y m ∧ cumA y m ≤ 366 := by
  have := leap_bd y
  unfold cumA; repeat (first | omega | split)
theorem cum_13 (y : Int) : cumA y 13 = ylA y := by rw [yl_eq]; simp [cumA]; omega
theorem cum_1 (y : Int) : cumA y 1 = 0 := rfl
theorem daysIn_eq (y m : Int) (hy : 0 ≤ y) : impl_daysIn.f y m = some (dimA y m) := by
  unfold impl_daysIn.f dimA
  rw [Int.tmod_eq_emod_of_nonneg hy]
  repeat (first | rfl | split)
theorem daysOf_eq (y : Int) (hy : 0 ≤ y) : impl_daysOf.f y = some (ylA y) := by
  unfold impl_daysOf.f
  rw [daysIn_eq y 2 hy]
  have := dim_bd y 2
  simp only [Option.bind_some]
  rw [wrapId (by omega)]; rfl
theorem l3Length_ev (y m : Int) (hy : 0 ≤ y) : Ev (fun k => spec_l3Length.f k y m) (dimA y m) := by
  have hm := Int.tmod_eq_emod_of_nonneg (b := 4) hy
  simp only [spec_l3Length.f]
  refine evIte (fun c => ?_) (fun c4 => ?_)
  · subst c; refine evSucc ?_; simp only [spec_l3Length.j0]; exact evPos (by decide) (evSome rfl)
  refine evIte (fun c => ?_) (fun c6 => ?_)
  · subst c; refine evSucc ?_; simp only [spec_l3Length.j0]; exact evPos (by decide) (evSome rfl)
  refine evIte (fun c => ?_) (fun c9 => ?_)
  · subst c; refine evSucc ?_; simp only [spec_l3Length.j0]; exact evPos (by decide) (evSome rfl)
  refine evSucc ?_
  simp only [spec_l3Length.j0, hm]
  by_cases c11 : m = 11
  · subst c11; exact evPos (by decide) (evSome rfl)
  · refine evNeg (by rw [beq_iff_eq]; exact c11) ?_
    unfold dimA
    refine evIte (fun c => ?_) (fun c => ?_)
    · rw [if_pos c]
      refine evIte (fun c => ?_) (fun c => ?_)
      · rw [if_pos c]; exact evSome rfl
      · rw [if_neg c]; exact evSome rfl
    · rw [if_neg c, if_neg c4, if_neg c6, if_neg c9, if_neg c11]; exact evSome rfl
theorem specDay_ev (y m d : Int) (hy : 2000 ≤ y ∧ y ≤ 2100) (hm : 1 ≤ m ∧ m ≤ 13) (hd : -1 ≤ d ∧ d ≤ 400) : Ev (fun k => spec_l3Day.f k y m d) (dbyA y + cumA y m + d - 1) := by
  have hb := dby_bd y hy
  have main : ∀ (n : Nat) (s j : Int), j + n = m → 1 ≤ j → s = dbyA y + cumA y j → Ev (fun k => spec_l3Day.l0 k s j y m d) (dbyA y + cumA y m + d - 1) := by
    intro n
    induction n with
    | zero =>
      intro s j h1 h2 h3
      have hc := cum_bd y j
      refine evSucc ?_
      simp only [spec_l3Day.l0]
      refine evNeg (by omega) ?_
      have : j = m := by omega
      subst this
      exact evSome (by rw [wrapId (x := s + d) (by omega), wrapId (by omega)]; omega)
    | succ n ih =>
      intro s j h1 h2 h3
      have hc := cum_bd y j
      have hd2 := dim_bd y j
      have hs := cum_succ y j (by omega)
      refine evSucc ?_
      simp only [spec_l3Day.l0]
      refine evPos (by omega) ?_
      refine evBind (l3Length_ev y j (by omega)) ?_
      exact ih _ _ (by rw [wrapId (by omega)]; omega) (by rw [wrapId (by omega)]; omega) (by rw [wrapId (by omega), wrapId (by omega), hs]; omega)
  simp only [spec_l3Day.f]
  refine main (m - 1).toNat _ 1 (by omega) (by omega) ?_
  rw [wrapId (x := y - 2000) (by omega), wrapId (x := 365 * (y - 2000)) (by omega), wrapId (x := y - 2000 + 3) (by omega), Int.tdiv_eq_ediv_of_nonneg (by omega), wrapId (x := (y - 2000 + 3) / 4) (by omega), wrapId (by omega), cum_1]
  unfold dbyA; omega
/-- The day has this date. -/
def isDate (day y m d : Int) : Prop := (2000 ≤ y ∧ y ≤ 2099) ∧ (1 ≤ m ∧ m ≤ 12) ∧ (1 ≤ d ∧ d ≤ dimA y m) ∧ day = dbyA y + cumA y m + d - 1
theorem cum_mono (y : Int) : ∀ (n : Nat) (m : Int), 1 ≤ m → m + n ≤ 13 → cumA y m + 28 * n ≤ cumA y (m + n) := by
  intro n
  induction n with
  | zero => intro m _ _; simp
  | succ n ih =>
    intro m h1 h2
    have := ih m h1 (by omega)
    have hs := cum_succ y (m + n) (by omega)
    have hd := dim_bd y (m + n)
    have e : m + ((n + 1 : Nat) : Int) = m + n + 1 := by omega
    rw [e, hs]; omega
theorem dby_mono : ∀ (n : Nat) (y : Int), dbyA y + 365 * n ≤ dbyA (y + n) := by
  intro n
  induction n with
  | zero => intro y; simp
  | succ n ih =>
    intro y
    have := ih y
    have hs := dby_succ (y + n)
    have hl := yl_eq (y + n)
    have hl2 := leap_bd (y + n)
    have e : y + ((n + 1 : Nat) : Int) = y + n + 1 := by omega
    rw [e, hs]; omega
theorem isDate_inYear {day y m d : Int} (h : isDate day y m d) : dbyA y ≤ day ∧ day < dbyA (y + 1) := by
  obtain ⟨h1, h2, h3, h4⟩ := h
  have hs := dby_succ y
  have hc := cum_bd y m
  have hs2 := cum_succ y m h2
  have hm := cum_mono y (12 - m).toNat (m + 1) (by omega) (by omega)
  have e : m + 1 + ((12 - m).toNat : Int) = 13 := by omega
  rw [e, cum_13] at hm
  omega
theorem isDate_unique {day y m d y' m' d' : Int} (h : isDate day y m d) (h' : isDate day y' m' d') : y = y' ∧ m = m' ∧ d = d' := by
  have a := isDate_inYear h
  have b := isDate_inYear h'
  have hy : y = y' := by
    rcases Int.lt_trichotomy y y' with c | c | c
    · have := dby_mono (y' - (y + 1)).toNat (y + 1)
      have e : y + 1 + ((y' - (y + 1)).toNat : Int) = y' := by omega
      rw [e] at this; omega
    · exact c
    · have := dby_mono (y - (y' + 1)).toNat (y' + 1)
      have e : y' + 1 + ((y - (y' + 1)).toNat : Int) = y := by omega
      rw [e] at this; omega
  subst hy
  obtain ⟨h1, h2, h3, h4⟩ := h
  obtain ⟨g1, g2, g3, g4⟩ := h'
  have hs := cum_succ y m h2
  have gs := cum_succ y m' g2
  have hm : m = m' := by
    rcases Int.lt_trichotomy m m' with c | c | c
    · have := cum_mono y (m' - (m + 1)).toNat (m + 1) (by omega) (by omega)
      have e : m + 1 + ((m' - (m + 1)).toNat : Int) = m' := by omega
      rw [e] at this; omega
    · exact c
    · have := cum_mono y (m - (m' + 1)).toNat (m' + 1) (by omega) (by omega)
      have e : m' + 1 + ((m - (m' + 1)).toNat : Int) = m := by omega
      rw [e] at this; omega
  subst hm
  exact ⟨rfl, rfl, by omega⟩
theorem specDate_ev (day : Int) (h : 0 ≤ day ∧ day ≤ 36524) : ∃ y m d, isDate day y m d ∧ Ev (fun k => spec_l3Date.f k day) (y, m, d) := by
  have inner : ∀ (n : Nat) (y m : Int), (2000 ≤ y ∧ y ≤ 2099) → m + n = 12 → 1 ≤ m → dbyA y + cumA y m ≤ day → day < dbyA y + ylA y → ∃ m' d, isDate day y m' d ∧ Ev (fun k => spec_l3Date.l1 k day y m 1) (y, m', d) := by
    intro n
    have last : ∀ y m : Int, (2000 ≤ y ∧ y ≤ 2099) → (1 ≤ m ∧ m ≤ 12) → dbyA y + cumA y m ≤ day → day < dbyA y + cumA y (m + 1) → isDate day y m (day - (dbyA y + cumA y m) + 1) := by
      intro y m hy hm h3 h4
      have hs := cum_succ y m hm
      exact ⟨hy, hm, by omega, by omega⟩
    induction n with
    | zero =>
      intro y m hy h1 h2 h3 h4
      have : m = 12 := by omega
      subst this
      refine ⟨12, _, last y 12 hy (by omega) h3 (by rw [show (12 : Int) + 1 = 13 from rfl, cum_13]; exact h4), ?_⟩
      refine evSucc ?_
      simp only [spec_l3Date.l1]
      refine evNeg (by omega) ?_
      have hb := dby_bd y (by omega)
      have hc := cum_bd y 12
      refine evBind (specDay_ev y 12 1 (by omega) (by omega) (by omega)) (evSome ?_)
      rw [show dbyA y + cumA y 12 + 1 - 1 = dbyA y + cumA y 12 by omega, wrapId (x := day - (dbyA y + cumA y 12)) (by omega), wrapId (by omega)]
    | succ n ih =>
      intro y m hy h1 h2 h3 h4
      have hb := dby_bd y (by omega)
      have hc := cum_bd y m
      have hc1 := cum_bd y (m + 1)
      have g1 := specDay_ev y (m + 1) 1 (by omega) (by omega) (by omega)
      by_cases c : dbyA y + cumA y (m + 1) + 1 - 1 ≤ day
      · obtain ⟨m', d, hd', he⟩ := ih y (m + 1) hy (by omega) (by omega) (by omega) h4
        refine ⟨m', d, hd', ?_⟩
        refine evSucc ?_
        simp only [spec_l3Date.l1, wrapId (x := m + 1) (by omega)]
        refine evPos (by omega) ?_
        refine evBind g1 ?_
        exact evPos c he
      · refine ⟨m, _, last y m hy (by omega) h3 (by omega), ?_⟩
        refine evSucc ?_
        simp only [spec_l3Date.l1, wrapId (x := m + 1) (by omega)]
        refine evPos (by omega) ?_
        refine evBind g1 ?_
        refine evNeg c ?_
        refine evBind (specDay_ev y m 1 (by omega) (by omega) (by omega)) (evSome ?_)
        rw [show dbyA y + cumA y m + 1 - 1 = dbyA y + cumA y m by omega, wrapId (x := day - (dbyA y + cumA y m)) (by omega), wrapId (by omega)]
  have fin : ∀ y : Int, (2000 ≤ y ∧ y ≤ 2099) → dbyA y ≤ day → day < dbyA y + ylA y → ∃ m d, isDate day y m d ∧ Ev (fun k => spec_l3Date.j1 k day y 1 1) (y, m, d) := by
    intro y hy h1 h2
    obtain ⟨m, d, hd, he⟩ := inner 11 y 1 hy (by omega) (by omega) (by rw [cum_1]; omega) h2
    refine ⟨m, d, hd, ?_⟩
    refine evSucc ?_
    simp only [spec_l3Date.j1]
    exact he
  have outer : ∀ (n : Nat) (y : Int), 2000 ≤ y → y + n = 2099 → dbyA y ≤ day → ∃ y' m d, isDate day y' m d ∧ Ev (fun k => spec_l3Date.l0 k day y 1 1) (y', m, d) := by
    intro n
    induction n with
    | zero =>
      intro y h1 h2 h3
      have : y = 2099 := by omega
      subst this
      have e : dbyA 2099 + ylA 2099 = 36525 := by decide
      obtain ⟨m, d, hd, he⟩ := fin 2099 (by omega) h3 (by omega)
      refine ⟨2099, m, d, hd, ?_⟩
      refine evSucc ?_
      simp only [spec_l3Date.l0]
      exact evNeg (by omega) he
    | succ n ih =>
      intro y h1 h2 h3
      have hs := dby_succ y
      have g1 := specDay_ev (y + 1) 1 1 (by omega) (by omega) (by omega)
      rw [cum_1] at g1
      by_cases c : dbyA (y + 1) + 0 + 1 - 1 ≤ day
      · obtain ⟨y', m, d, hd', he⟩ := ih (y + 1) (by omega) (by omega) (by omega)
        refine ⟨y', m, d, hd', ?_⟩
        refine evSucc ?_
        simp only [spec_l3Date.l0, wrapId (x := y + 1) (by omega)]
        refine evPos (by omega) ?_
        refine evBind g1 ?_
        exact evPos c he
      · obtain ⟨m, d, hd, he⟩ := fin y (by omega) h3 (by omega)
        refine ⟨y, m, d, hd, ?_⟩
        refine evSucc ?_
        simp only [spec_l3Date.l0, wrapId (x := y + 1) (by omega)]
        refine evPos (by omega) ?_
        refine evBind g1 ?_
        exact evNeg c he
  obtain ⟨y, m, d, h1, h2⟩ := outer 99 2000 (by omega) (by omega) (by unfold dbyA; omega)
  exact ⟨y, m, d, h1, by simp only [spec_l3Date.f]; exact h2⟩

theorem isDay_eq (a : Int) : impl_isDay.f a = some (decide (0 ≤ a ∧ a ≤ 36524)) := by
  unfold impl_isDay.f; rw [within_eq]; rfl
theorem l3Good_eq (a : Int) : spec_l3Good.f a = some (decide (0 ≤ a ∧ a ≤ 36524)) := by
  unfold spec_l3Good.f; rw [l1In_eq]; rfl

theorem specMake_ev (a b : Int) (ha : a.natAbs ≤ 1000000000000000000) (hb : b.natAbs ≤ 1000000000000000000) (h0 : b ≠ 0) : Ev (fun k => spec_MakeFraction.f k a b) (fracA a b) := by
  simp only [spec_MakeFraction.f, l1In_eq, Option.bind_some, decide_eq_true_eq]
  refine evNeg h0 ?_
  refine evPos (by omega) ?_
  refine evPos (by omega) ?_
  exact evBind (specReduce_ev a b (by omega) (by omega) h0) (evSome rfl)

def minI (a b : Int) : Int := if b < a then b else a
theorem l1Least_eq (a b : Int) : spec_l1Least.f a b = some (minI a b) := by
  unfold spec_l1Least.f minI
  repeat (first | rfl | (congr 1; omega) | omega | split)
theorem minI_bd (a b : Int) : (minI a b = a ∨ minI a b = b) ∧ minI a b ≤ a ∧ minI a b ≤ b := by unfold minI; split <;> omega

theorem year_unique {x y y' : Int} (h1 : dbyA y ≤ x) (h2 : x < dbyA (y + 1)) (h3 : dbyA y' ≤ x) (h4 : x < dbyA (y' + 1)) : y = y' := by
  rcases Int.lt_trichotomy y y' with c | c | c
  · have := dby_mono (y' - (y + 1)).toNat (y + 1)
    have e : y + 1 + ((y' - (y + 1)).toNat : Int) = y' := by omega
    rw [e] at this; omega
  · exact c
  · have := dby_mono (y - (y' + 1)).toNat (y' + 1)
    have e : y' + 1 + ((y - (y' + 1)).toNat : Int) = y := by omega
    rw [e] at this; omega
open Classical in
noncomputable def dateC (day : Int) : Int × Int × Int := if h : ∃ t : Int × Int × Int, isDate day t.1 t.2.1 t.2.2 then Classical.choose h else (0, 0, 0)
theorem dateC_eq {day y m d : Int} (h : isDate day y m d) : dateC day = (y, m, d) := by
  have hx : ∃ t : Int × Int × Int, isDate day t.1 t.2.1 t.2.2 := ⟨(y, m, d), h⟩
  unfold dateC
  rw [dif_pos hx]
  obtain ⟨a, b, c⟩ := isDate_unique (Classical.choose_spec hx) h
  exact Prod.ext a (Prod.ext b c)
theorem specDateC_ev (day : Int) (h : 0 ≤ day ∧ day ≤ 36524) : Ev (fun k => spec_l3Date.f k day) (dateC day) := by
  obtain ⟨y, m, d, h1, h2⟩ := specDate_ev day h
  rw [dateC_eq h1]; exact h2
theorem dateC_is (day : Int) (h : 0 ≤ day ∧ day ≤ 36524) : isDate day (dateC day).1 (dateC day).2.1 (dateC day).2.2 := by
  obtain ⟨y, m, d, h1, h2⟩ := specDate_ev day h
  rw [dateC_eq h1]; exact h1
noncomputable def thirtyA (a b : Int) : Int := 360 * ((dateC b).1 - (dateC a).1) + 30 * ((dateC b).2.1 - (dateC a).2.1) + minI (dateC b).2.2 30 - minI (dateC a).2.2 30
noncomputable def wdA (day : Int) : Int := if (dateC day).1 % 4 = 0 then 365 else 366
noncomputable def numA : Int → Nat → Int
  | _, 0 => 0
  | a, n + 1 => wdA a + numA (a + 1) n
theorem wd_bd (day : Int) : 365 ≤ wdA day ∧ wdA day ≤ 366 := by unfold wdA; split <;> omega
theorem num_bd : ∀ (n : Nat) (a : Int), 0 ≤ numA a n ∧ numA a n ≤ 366 * n
  | 0, a => by simp [numA]
  | n + 1, a => by
    have := num_bd n (a + 1)
    have := wd_bd a
    unfold numA; omega
theorem num_add : ∀ (n m : Nat) (a : Int), numA a (n + m) = numA a n + numA (a + n) m
  | 0, m, a => by simp [numA]
  | n + 1, m, a => by
    have e : n + 1 + m = (n + m) + 1 := by omega
    rw [e, numA, numA, num_add n m (a + 1), show a + 1 + (n : Int) = a + ((n + 1 : Nat) : Int) by omega]
    omega
theorem num_same (w : Int) : ∀ (n : Nat) (a : Int), (∀ x, a ≤ x → x < a + n → wdA x = w) → numA a n = w * n
  | 0, a, _ => by simp [numA]
  | n + 1, a, h => by
    rw [numA, num_same w n (a + 1) (fun x h1 h2 => h x (by omega) (by omega)), h a (by omega) (by omega)]
    rw [show ((n + 1 : Nat) : Int) = (n : Int) + 1 by omega, Int.mul_add, Int.mul_one]; omega
theorem year_of {x y : Int} (h : 0 ≤ x ∧ x ≤ 36524) (h1 : dbyA y ≤ x) (h2 : x < dbyA (y + 1)) : (dateC x).1 = y := by
  have a := isDate_inYear (dateC_is x h)
  exact year_unique a.1 a.2 h1 h2
/-- The date grows with the day. -/
theorem date_le {a b y m d y' m' d' : Int} (h : isDate a y m d) (h' : isDate b y' m' d') (hab : a ≤ b) : y < y' ∨ (y = y' ∧ (m < m' ∨ (m = m' ∧ d ≤ d'))) := by
  have i := isDate_inYear h
  have i' := isDate_inYear h'
  rcases Int.lt_trichotomy y y' with c | c | c
  · exact .inl c
  · subst c
    refine .inr ⟨rfl, ?_⟩
    obtain ⟨h1, h2, h3, h4⟩ := h
    obtain ⟨g1, g2, g3, g4⟩ := h'
    rcases Int.lt_trichotomy m m' with c | c | c
    · exact .inl c
    · subst c; exact .inr ⟨rfl, by omega⟩
    · exfalso
      have gs := cum_succ y m' g2
      have := cum_mono y (m - (m' + 1)).toNat (m' + 1) (by omega) (by omega)
      have e : m' + 1 + ((m - (m' + 1)).toNat : Int) = m := by omega
      rw [e] at this; omega
  · exfalso
    have := dby_mono (y - (y' + 1)).toNat (y' + 1)
    have e : y' + 1 + ((y - (y' + 1)).toNat : Int) = y := by omega
    rw [e] at this; omega
theorem thirty_bd (a b : Int) (ha : 0 ≤ a ∧ a ≤ 36524) (hb : 0 ≤ b ∧ b ≤ 36524) (hab : a ≤ b) : 0 ≤ thirtyA a b ∧ thirtyA a b ≤ 50000 := by
  have h1 := dateC_is a ha
  have h2 := dateC_is b hb
  have h3 := date_le h1 h2 hab
  unfold thirtyA
  obtain ⟨y1, m1, d1, _⟩ := h1
  obtain ⟨y2, m2, d2, _⟩ := h2
  have b1 := dim_bd (dateC a).1 (dateC a).2.1
  have b2 := dim_bd (dateC b).1 (dateC b).2.1
  unfold minI
  split <;> split <;> omega
noncomputable def countA (a b c : Int) : Int × Int × Bool :=
  if c = 1 then fracA (b - a) 360 else if c = 2 then fracA (b - a) 365 else if c = 3 then fracA (thirtyA a b) 360 else fracA (numA a (b - a).toNat) 133590
def validC (a b c : Int) : Prop := (0 ≤ a ∧ a ≤ 36524) ∧ (0 ≤ b ∧ b ≤ 36524) ∧ a ≤ b ∧ (1 ≤ c ∧ c ≤ 4)
instance (a b c : Int) : Decidable (validC a b c) := by unfold validC; infer_instance
noncomputable def dayCountA (a b c : Int) : Int × Int × Bool := if validC a b c then countA a b c else (0, 0, false)
/-- A count is a valid fraction that is not negative, if there is one. -/
theorem fracA_nonneg (a b : Int) (ha : 0 ≤ a) (hb : 0 < b) (h : (fracA a b).2.2 = true) : okF (fracA a b).1 (fracA a b).2.1 ∧ 0 ≤ (fracA a b).1 := by
  have hn : ¬ b < 0 := by omega
  have h0 : 0 ≤ a / (Int.gcd a b : Int) := Int.ediv_nonneg ha (by omega)
  unfold fracA at h ⊢
  simp only [if_neg hn] at h ⊢
  by_cases c : okF (a / (Int.gcd a b : Int)) (b / (Int.gcd a b : Int))
  · rw [if_pos c]; exact ⟨c, h0⟩
  · rw [if_neg c] at h; simp at h
theorem dayCount_ok (a b c : Int) (h : (dayCountA a b c).2.2 = true) : okF (dayCountA a b c).1 (dayCountA a b c).2.1 ∧ 0 ≤ (dayCountA a b c).1 := by
  unfold dayCountA at h ⊢
  by_cases hv : validC a b c
  · rw [if_pos hv] at h ⊢
    obtain ⟨ha, hb, hab, hc⟩ := hv
    have ht := thirty_bd a b ha hb hab
    have hnb := num_bd (b - a).toNat a
    unfold countA at h ⊢
    by_cases c1 : c = 1
    · rw [if_pos c1] at h ⊢; exact fracA_nonneg _ _ (by omega) (by omega) h
    rw [if_neg c1] at h ⊢
    by_cases c2 : c = 2
    · rw [if_pos c2] at h ⊢; exact fracA_nonneg _ _ (by omega) (by omega) h
    rw [if_neg c2] at h ⊢
    by_cases c3 : c = 3
    · rw [if_pos c3] at h ⊢; exact fracA_nonneg _ _ (by omega) (by omega) h
    rw [if_neg c3] at h ⊢
    exact fracA_nonneg _ _ (by omega) (by omega) h
  · rw [if_neg hv] at h; simp at h
/-- One step of the count of leap days: from a to the end of its year, or to b. -/
theorem years_step {a b : Int} (ha : 0 ≤ a) (hb : b ≤ 36524) (hab : a < b) : ∃ Y M D t, dateC a = (Y, M, D) ∧ (2000 ≤ Y ∧ Y ≤ 2099) ∧ (0 ≤ dbyA (Y + 1) ∧ dbyA (Y + 1) ≤ 36525) ∧ dbyA Y + cumA Y 12 + 31 - 1 = dbyA (Y + 1) - 1 ∧ t = minI b (dbyA (Y + 1)) ∧ a < t ∧ t ≤ b ∧ numA a (b - a).toNat = (if Y % 4 = 0 then 365 else 366) * (t - a) + numA t (b - t).toNat := by
  have hd := dateC_is a (by omega)
  have hy := isDate_inYear hd
  have hs := dby_succ (dateC a).1
  have hc := cum_succ (dateC a).1 12 (by omega)
  rw [show (12 : Int) + 1 = 13 from rfl, cum_13] at hc
  have h12 : dimA (dateC a).1 12 = 31 := rfl
  have hdb := dby_bd (dateC a).1 (by have := hd.1; omega)
  have hdb1 := dby_bd ((dateC a).1 + 1) (by have := hd.1; omega)
  have hyb := yl_eq (dateC a).1
  have hlb := leap_bd (dateC a).1
  obtain ⟨t, ht⟩ : ∃ t, t = minI b (dbyA ((dateC a).1 + 1)) := ⟨_, rfl⟩
  have hmb := minI_bd b (dbyA ((dateC a).1 + 1))
  rw [← ht] at hmb
  have hsame : ∀ x, a ≤ x → x < a + ((t - a).toNat : Int) → wdA x = if (dateC a).1 % 4 = 0 then 365 else 366 := by
    intro x hx1 hx2
    unfold wdA
    rw [year_of (x := x) (y := (dateC a).1) (by omega) (by omega) (by omega)]
  refine ⟨(dateC a).1, (dateC a).2.1, (dateC a).2.2, t, rfl, hd.1, hdb1, by omega, ht, by omega, by omega, ?_⟩
  have e : (b - a).toNat = (t - a).toNat + (b - t).toNat := by omega
  rw [e, num_add, num_same _ _ _ hsame, show a + ((t - a).toNat : Int) = t by omega, show ((t - a).toNat : Int) = t - a by omega]
theorem num_step {a : Int} (n : Nat) : numA a (n + 1) = wdA a + numA (a + 1) n := by rw [numA]
theorem thirty_parts {a b : Int} (ha : 0 ≤ a ∧ a ≤ 36524) (hb : 0 ≤ b ∧ b ≤ 36524) : ∃ y m d y' m' d' n n', dateC a = (y, m, d) ∧ dateC b = (y', m', d') ∧ minI d 30 = n ∧ minI d' 30 = n' ∧ thirtyA a b = 360 * (y' - y) + 30 * (m' - m) + n' - n ∧ (2000 ≤ y ∧ y ≤ 2099) ∧ (1 ≤ m ∧ m ≤ 12) ∧ (1 ≤ d ∧ d ≤ 31) ∧ (2000 ≤ y' ∧ y' ≤ 2099) ∧ (1 ≤ m' ∧ m' ≤ 12) ∧ (1 ≤ d' ∧ d' ≤ 31) ∧ (1 ≤ n ∧ n ≤ 30) ∧ (1 ≤ n' ∧ n' ≤ 30) := by
  obtain ⟨y1, m1, d1, _⟩ := dateC_is a ha
  obtain ⟨y2, m2, d2, _⟩ := dateC_is b hb
  have b1 := dim_bd (dateC a).1 (dateC a).2.1
  have b2 := dim_bd (dateC b).1 (dateC b).2.1
  have n1 := minI_bd (dateC a).2.2 30
  have n2 := minI_bd (dateC b).2.2 30
  exact ⟨(dateC a).1, (dateC a).2.1, (dateC a).2.2, (dateC b).1, (dateC b).2.1, (dateC b).2.2, _, _, rfl, rfl, rfl, rfl, rfl, y1, m1, by omega, y2, m2, by omega, by omega, by omega⟩

def multA (a b c d : Int) : Int × Int × Bool := if okF a b ∧ okF c d then fracA (a * c) (b * d) else (0, 0, false)
theorem mul_bd (a c B C : Int) (ha : a.natAbs ≤ B.natAbs) (hc : c.natAbs ≤ C.natAbs) : (a * c).natAbs ≤ B.natAbs * C.natAbs := by
  rw [Int.natAbs_mul]; exact Nat.mul_le_mul ha hc
theorem okF_mul {a b c d : Int} (h : okF a b) (h' : okF c d) : (a * c).natAbs ≤ 1000000000000000000 ∧ (b * d).natAbs ≤ 1000000000000000000 ∧ 0 < b * d := by
  obtain ⟨h1, h2, _⟩ := h
  obtain ⟨g1, g2, _⟩ := h'
  refine ⟨?_, ?_, Int.mul_pos (by omega) (by omega)⟩
  · have := mul_bd a c 1000000000 1000000000 (by omega) (by omega)
    simpa using this
  · have := mul_bd b d 1000000000 1000000000 (by omega) (by omega)
    simpa using this
noncomputable def growthA (a b from_ to_ c : Int) : Int × Int × Bool := if (dayCountA from_ to_ c).2.2 = true then multA a b (dayCountA from_ to_ c).1 (dayCountA from_ to_ c).2.1 else (0, 0, false)
theorem implRate_ev (a b : Int) : Ev (fun k => impl_isRate.f k a b) (decide (okF a b ∧ 0 ≤ a)) := by
  simp only [impl_isRate.f]
  refine evBind (implIsF_ev a b) ?_
  simp only [decide_eq_true_eq]
  refine evIte (fun c => evSome (decide_eq_decide.mpr ⟨fun g => ⟨c, g⟩, fun g => g.2⟩)) (fun c => evSome (decide_eq_false (fun g => c g.1)).symm)
theorem specRate_ev (a b : Int) : Ev (fun k => spec_l15Rate.f k a b) (decide (okF a b ∧ 0 ≤ a)) := by
  simp only [spec_l15Rate.f]
  refine evBind (specIsF_ev a b) ?_
  simp only [decide_eq_true_eq]
  refine evIte (fun c => evSome (decide_eq_decide.mpr ⟨fun g => ⟨c, g⟩, fun g => g.2⟩)) (fun c => evSome (decide_eq_false (fun g => c g.1)).symm)
theorem growth_ok (a b x y c : Int) (ha : 0 ≤ a) (h : (growthA a b x y c).2.2 = true) : okF (growthA a b x y c).1 (growthA a b x y c).2.1 ∧ 0 ≤ (growthA a b x y c).1 := by
  unfold growthA at h ⊢
  by_cases c1 : (dayCountA x y c).2.2 = true
  · rw [if_pos c1] at h ⊢
    have hd := dayCount_ok x y c c1
    unfold multA at h ⊢
    by_cases c2 : okF a b ∧ okF (dayCountA x y c).1 (dayCountA x y c).2.1
    · rw [if_pos c2] at h ⊢
      exact fracA_nonneg _ _ (Int.mul_nonneg ha hd.2) (okF_mul c2.1 c2.2).2.2 h
    · rw [if_neg c2] at h; simp at h
  · rw [if_neg c1] at h; simp at h

def upB (q r den mode : Int) : Bool := if mode = 2 then decide (0 < r) else if mode = 3 then decide (den ≤ 2 * r) else if mode = 4 then (decide (den < 2 * r) || (decide (2 * r = den) && decide (q % 2 = 1))) else false
/-- The quotient of the absolute value, rounded. -/
def rndA (a den mode : Int) : Int := a / den + if upB (a / den) (a % den) den mode = true then 1 else 0
def roundA (num den mode : Int) : Int := if num < 0 then -(rndA (-num) den mode) else rndA num den mode
theorem rnd_facts (a den : Int) (ha : 0 ≤ a) (ha2 : a ≤ 1000000000000000000) (hd : 1 ≤ den ∧ den ≤ 1000000000) : 0 ≤ a / den ∧ a / den ≤ 1000000000000000000 ∧ 0 ≤ a % den ∧ a % den < den := by
  have h1 : 0 ≤ a / den := Int.ediv_nonneg ha (by omega)
  have h2 : a / den ≤ a := Int.ediv_le_self den ha
  have h3 := Int.emod_nonneg a (show den ≠ 0 by omega)
  have h4 := Int.emod_lt_of_pos a (show 0 < den by omega)
  omega
theorem specRound_j0 (a den mode s : Int) (hs : s = 1 ∨ s = -1) (ha : 0 ≤ a) (ha2 : a ≤ 1000000000000000000) (hd : 1 ≤ den ∧ den ≤ 1000000000) (hm : 1 ≤ mode ∧ mode ≤ 4) : Ev (fun k => spec_l2Round.j0 k a den mode s) (s * rndA a den mode) := by
  have f := rnd_facts a den ha ha2 hd
  refine evSucc ?_
  simp only [spec_l2Round.j0]
  rw [Int.tdiv_eq_ediv_of_nonneg ha, Int.tmod_eq_emod_of_nonneg ha]
  unfold rndA
  generalize a / den = q at *
  generalize a % den = r at *
  have w1 : wrap64 q = q := wrapId (by omega)
  have w2 : wrap64 (q + 1) = q + 1 := wrapId (by omega)
  have w3 : wrap64 (2 * r) = 2 * r := wrapId (by omega)
  have w4 : ∀ x : Int, 0 ≤ x → x ≤ 1000000000000000001 → wrap64 (s * x) = s * x := by
    intro x h1 h2
    rcases hs with rfl | rfl
    · rw [wrapId (by omega)]
    · rw [wrapId (by omega)]
  rw [w1, w2, w3, w4 q (by omega) (by omega), w4 (q + 1) (by omega) (by omega), Int.tmod_eq_emod_of_nonneg f.1]
  refine evNeg (by omega) ?_
  have yes : upB q r den mode = true → s * (q + 1) = s * (q + if upB q r den mode = true then 1 else 0) := fun h => by rw [if_pos h]
  have no : upB q r den mode = false → s * q = s * (q + if upB q r den mode = true then 1 else 0) := fun h => by rw [if_neg (by rw [h]; exact Bool.false_ne_true), Int.add_zero]
  refine evIte (fun c1 => evSome (no (by unfold upB; rw [if_neg (by omega), if_neg (by omega), if_neg (by omega)]))) (fun c1 => ?_)
  refine evIte (fun c3 => ?_) (fun c3 => ?_)
  · have e : upB q r den mode = decide (den ≤ 2 * r) := by unfold upB; rw [if_neg (by omega), if_pos c3]
    exact evIte (fun c => evSome (yes (by rw [e]; exact decide_eq_true c))) (fun c => evSome (no (by rw [e]; exact decide_eq_false c)))
  refine evIte (fun c4 => ?_) (fun c4 => ?_)
  · have e : upB q r den mode = (decide (den < 2 * r) || (decide (2 * r = den) && decide (q % 2 = 1))) := by unfold upB; rw [if_neg (by omega), if_neg c3, if_pos c4]
    refine evIte (fun c => evSome (yes (by rw [e, decide_eq_true c, Bool.true_or]))) (fun c => ?_)
    have c' : ¬ den < 2 * r := c
    refine evIte (fun c5 => ?_) (fun c5 => evSome (no (by rw [e, decide_eq_false c', decide_eq_false c5]; rfl)))
    exact evIte (fun c6 => evSome (yes (by rw [e, decide_eq_true c5, decide_eq_true c6]; simp))) (fun c6 => evSome (no (by rw [e, decide_eq_false c', decide_eq_true c5, decide_eq_false c6]; rfl)))
  · have e : upB q r den mode = decide (0 < r) := by unfold upB; rw [if_pos (by omega)]
    exact evIte (fun c => evSome (yes (by rw [e]; exact decide_eq_true c))) (fun c => evSome (no (by rw [e]; exact decide_eq_false c)))
theorem specRound_ev (num den mode : Int) (hn : num.natAbs ≤ 1000000000000000000) (hd : 1 ≤ den ∧ den ≤ 1000000000) (hm : 1 ≤ mode ∧ mode ≤ 4) : Ev (fun k => spec_l2Round.f k num den mode) (roundA num den mode) := by
  simp only [spec_l2Round.f]
  unfold roundA
  refine evIte (fun c => ?_) (fun c => ?_)
  · rw [if_pos c, wrapId (x := -num) (by omega)]
    exact evEq (specRound_j0 (-num) den mode (-1) (.inr rfl) (by omega) (by omega) hd hm) (by omega)
  · rw [if_neg c]
    exact evEq (specRound_j0 num den mode 1 (.inl rfl) (by omega) (by omega) hd hm) (by omega)
theorem implRound_j0 (a den mode s : Int) (hs : s = 1 ∨ s = -1) (ha : 0 ≤ a) (ha2 : a ≤ 1000000000000000000) (hd : 1 ≤ den ∧ den ≤ 1000000000) (hm : 1 ≤ mode ∧ mode ≤ 4) : Ev (fun k => impl_rounded.j0 k den mode (s * (a / den)) (a % den) s) (s * rndA a den mode) := by
  have f := rnd_facts a den ha ha2 hd
  refine evSucc ?_
  simp only [impl_rounded.j0]
  unfold rndA
  generalize a / den = q at *
  generalize a % den = r at *
  have w1 : wrap64 (s * q + s) = s * (q + 1) := by
    rcases hs with rfl | rfl
    · rw [wrapId (by omega)]; omega
    · rw [wrapId (by omega)]; omega
  have w3 : wrap64 (2 * r) = 2 * r := wrapId (by omega)
  have w2 : Int.tmod (s * q) 2 = 0 ↔ q % 2 = 0 := by
    rcases hs with rfl | rfl
    · rw [Int.one_mul, Int.tmod_eq_emod_of_nonneg f.1]
    · rw [show -1 * q = -q by omega, Int.neg_tmod, Int.tmod_eq_emod_of_nonneg f.1]; omega
  rw [w1, w3]
  have yes : upB q r den mode = true → s * (q + 1) = s * (q + if upB q r den mode = true then 1 else 0) := fun h => by rw [if_pos h]
  have no : upB q r den mode = false → s * q = s * (q + if upB q r den mode = true then 1 else 0) := fun h => by rw [if_neg (by rw [h]; exact Bool.false_ne_true), Int.add_zero]
  refine evIte (fun c2 => ?_) (fun c2 => ?_)
  · have e : upB q r den mode = decide (0 < r) := by unfold upB; rw [if_pos c2]
    exact evIte (fun c => evSome (yes (by rw [e]; exact decide_eq_true c))) (fun c => evSome (no (by rw [e]; exact decide_eq_false c)))
  refine evIte (fun c3 => ?_) (fun c3 => ?_)
  · have e : upB q r den mode = decide (den ≤ 2 * r) := by unfold upB; rw [if_neg c2, if_pos c3]
    exact evIte (fun c => evSome (yes (by rw [e]; exact decide_eq_true c))) (fun c => evSome (no (by rw [e]; exact decide_eq_false c)))
  refine evIte (fun c4 => ?_) (fun c4 => ?_)
  · have e : upB q r den mode = (decide (den < 2 * r) || (decide (2 * r = den) && decide (q % 2 = 1))) := by unfold upB; rw [if_neg c2, if_neg c3, if_pos c4]
    refine evIte (fun c => evSome (yes (by rw [e, decide_eq_true c, Bool.true_or]))) (fun c => ?_)
    have c' : ¬ den < 2 * r := c
    refine evIte (fun c5 => ?_) (fun c5 => evSome (no (by rw [e, decide_eq_false c', decide_eq_false c5]; rfl)))
    refine evIte (fun c6 => evSome (no ?_)) (fun c6 => evSome (yes ?_))
    · have c7 : ¬ q % 2 = 1 := by have := w2.mp c6; omega
      rw [e, decide_eq_false c', decide_eq_true c5, decide_eq_false c7]; rfl
    · have c7 : q % 2 = 1 := by
        have : ¬ q % 2 = 0 := fun g => c6 (w2.mpr g)
        omega
      rw [e, decide_eq_true c5, decide_eq_true c7]; simp
  · exact evSome (no (by unfold upB; rw [if_neg c2, if_neg c3, if_neg c4]))
theorem implRound_ev (num den mode : Int) (hn : num.natAbs ≤ 1000000000000000000) (hd : 1 ≤ den ∧ den ≤ 1000000000) (hm : 1 ≤ mode ∧ mode ≤ 4) : Ev (fun k => impl_rounded.f k num den mode) (roundA num den mode) := by
  simp only [impl_rounded.f]
  refine evNeg (by omega) ?_
  unfold roundA
  by_cases c : num < 0
  · rw [if_pos c]
    obtain ⟨a, rfl⟩ : ∃ a, num = -a := ⟨-num, by omega⟩
    rw [Int.neg_neg]
    have f := rnd_facts a den (by omega) (by omega) hd
    have e1 : Int.tmod (-a) den = -(a % den) := by rw [Int.neg_tmod, Int.tmod_eq_emod_of_nonneg (by omega)]
    have e2 : Int.tdiv (-a) den = -(a / den) := by rw [Int.neg_tdiv, Int.tdiv_eq_ediv_of_nonneg (by omega)]
    rw [e1, e2]
    have e3 : impl_size.f (-(a % den)) = some (a % den) := by
      unfold impl_size.f mx
      rw [wrapId (by omega)]
      split <;> first | rfl | (congr 1; omega)
    refine evBindS e3 ?_
    refine evPos c ?_
    rw [wrapId (x := -(a / den)) (by omega), show -(a / den) = -1 * (a / den) by omega]
    exact evEq (implRound_j0 a den mode (-1) (.inr rfl) (by omega) (by omega) hd hm) (by omega)
  · rw [if_neg c]
    have f := rnd_facts num den (by omega) (by omega) hd
    rw [Int.tdiv_eq_ediv_of_nonneg (by omega), Int.tmod_eq_emod_of_nonneg (by omega)]
    have e3 : impl_size.f (num % den) = some (num % den) := by
      unfold impl_size.f mx
      rw [wrapId (by omega)]
      split <;> first | rfl | (congr 1; omega)
    refine evBindS e3 ?_
    refine evNeg c ?_
    rw [wrapId (x := num / den) (by omega), show num / den = 1 * (num / den) by omega]
    exact evEq (implRound_j0 num den mode 1 (.inl rfl) (by omega) (by omega) hd hm) (by omega)
theorem isMode_eq (a : Int) : impl_isMode.f a = some (decide (1 ≤ a ∧ a ≤ 4)) := by
  unfold impl_isMode.f; rw [within_eq]; rfl
def scaleOk (x n d mode : Int) : Prop := (-1000000000 ≤ x ∧ x ≤ 1000000000) ∧ okF n d ∧ (1 ≤ mode ∧ mode ≤ 4)
instance (x n d mode : Int) : Decidable (scaleOk x n d mode) := by unfold scaleOk; infer_instance
def scaleA (x n d mode : Int) : Int × Bool :=
  if scaleOk x n d mode then (if -1000000000 ≤ roundA (x * n) d mode ∧ roundA (x * n) d mode ≤ 1000000000 then (roundA (x * n) d mode, true) else (0, false)) else (0, false)
theorem scale_mul {x n d mode : Int} (h : scaleOk x n d mode) : (x * n).natAbs ≤ 1000000000000000000 := by
  obtain ⟨h1, ⟨_, h2, _⟩, _⟩ := h
  have := Nat.mul_le_mul (show x.natAbs ≤ 1000000000 by omega) (show n.natAbs ≤ 1000000000 by omega)
  rw [Int.natAbs_mul]; omega
theorem implScale_ev (x n d mode : Int) : Ev (fun k => impl_ScaleAmount.f k x n d mode) (scaleA x n d mode) := by
  simp only [impl_ScaleAmount.f, isAmount_eq, isMode_eq, Option.bind_some]
  have no : ¬ scaleOk x n d mode → Ev (fun k => impl_ScaleAmount.j0 k x mode true n d) (scaleA x n d mode) := by
    intro h
    refine evSucc ?_
    simp only [impl_ScaleAmount.j0]
    exact evPos (by trivial) (evSome (by unfold scaleA; rw [if_neg h]))
  simp only [decide_eq_true_eq]
  refine evIte (fun c1 => ?_) (fun c1 => no (fun g => c1 g.1))
  refine evBind (implIsF_ev n d) ?_
  simp only [decide_eq_true_eq]
  refine evIte (fun c2 => ?_) (fun c2 => no (fun g => c2 g.2.1))
  by_cases c3 : 1 ≤ mode ∧ mode ≤ 4
  · rw [decide_eq_true c3]
    have h : scaleOk x n d mode := ⟨c1, c2, c3⟩
    have hm := scale_mul h
    refine evSucc ?_
    simp only [impl_ScaleAmount.j0]
    refine evNeg (by simp) ?_
    rw [wrapId (x := x * n) (by omega)]
    refine evBind (implRound_ev (x * n) d mode hm c2.1 c3) ?_
    simp only [isAmount_eq, Option.bind_some, decide_eq_true_eq]
    unfold scaleA
    rw [if_pos h]
    refine evIte (fun c => ?_) (fun c => ?_)
    · rw [if_pos c]; exact Ev.now _
    · rw [if_neg c]; exact Ev.now _
  · rw [decide_eq_false c3]
    exact no (fun g => c3 g.2.2)
theorem specScale_ev (x n d mode : Int) : Ev (fun k => spec_ScaleAmount.f k x n d mode) (scaleA x n d mode) := by
  simp only [spec_ScaleAmount.f, l2Amount_eq, l1In_eq, Option.bind_some]
  have no : ¬ scaleOk x n d mode → Ev (fun k => spec_ScaleAmount.j0 k x mode true n d) (scaleA x n d mode) := by
    intro h
    refine evSucc ?_
    simp only [spec_ScaleAmount.j0]
    exact evPos (by trivial) (evSome (by unfold scaleA; rw [if_neg h]))
  simp only [decide_eq_true_eq]
  refine evIte (fun c1 => ?_) (fun c1 => no (fun g => c1 g.1))
  refine evBind (specIsF_ev n d) ?_
  simp only [decide_eq_true_eq]
  refine evIte (fun c2 => ?_) (fun c2 => no (fun g => c2 g.2.1))
  by_cases c3 : 1 ≤ mode ∧ mode ≤ 4
  · rw [decide_eq_true c3]
    have h : scaleOk x n d mode := ⟨c1, c2, c3⟩
    have hm := scale_mul h
    refine evSucc ?_
    simp only [spec_ScaleAmount.j0]
    refine evNeg (by simp) ?_
    rw [wrapId (x := x * n) (by omega)]
    refine evBind (specRound_ev (x * n) d mode hm c2.1 c3) ?_
    simp only [l2Amount_eq, Option.bind_some, decide_eq_true_eq]
    unfold scaleA
    rw [if_pos h]
    refine evIte (fun c => ?_) (fun c => ?_)
    · rw [if_pos c]; exact Ev.now _
    · rw [if_neg c]; exact Ev.now _
  · rw [decide_eq_false c3]
    exact no (fun g => c3 g.2.2)

theorem isCount_eq (a : Int) : impl_isCount.f a = some (decide (1 ≤ a ∧ a ≤ 4)) := by
  unfold impl_isCount.f; rw [within_eq]; rfl
theorem l15Principal_eq (a : Int) : spec_l15Principal.f a = some (decide (0 ≤ a ∧ a ≤ 1000000000)) := by
  unfold spec_l15Principal.f; rw [l1In_eq]; rfl
theorem growth_conv {n d x y c : Int} (h : (growthA n d x y c).2.2 = true) : 1 ≤ c ∧ c ≤ 4 := by
  unfold growthA dayCountA at h
  by_cases hv : validC x y c
  · exact hv.2.2.2
  · rw [if_neg hv] at h; simp at h
theorem scale_mode {x n d mode : Int} (h : ¬ (1 ≤ mode ∧ mode ≤ 4)) : scaleA x n d mode = (0, false) := by
  unfold scaleA; rw [if_neg (fun g => h g.2.2)]

def intOk (n d c mode : Int) : Prop := (okF n d ∧ 0 ≤ n) ∧ (1 ≤ c ∧ c ≤ 4) ∧ (1 ≤ mode ∧ mode ≤ 4)
instance (n d c mode : Int) : Decidable (intOk n d c mode) := by unfold intOk; infer_instance
theorem implInterest_ev (n d c mode : Int) : Ev (fun k => impl_isInterest.f k n d c mode) (decide (intOk n d c mode)) := by
  simp only [impl_isInterest.f, isCount_eq, isMode_eq, Option.bind_some]
  refine evBind (implRate_ev n d) ?_
  simp only [decide_eq_true_eq]
  refine evIte (fun c1 => ?_) (fun c1 => evSome (decide_eq_false (fun g => c1 g.1)).symm)
  refine evIte (fun c2 => ?_) (fun c2 => evSome (decide_eq_false (fun g => c2 g.2.1)).symm)
  exact evSome (decide_eq_decide.mpr ⟨fun g => ⟨c1, c2, g⟩, fun g => g.2.2⟩)
/-- Interest from a day to another one. -/
noncomputable def accrueA (p n d x y c mode : Int) : Int × Bool :=
  if (0 ≤ p ∧ p ≤ 1000000000) ∧ intOk n d c mode then (if (growthA n d x y c).2.2 = true then scaleA p (growthA n d x y c).1 (growthA n d x y c).2.1 mode else (0, false)) else (0, false)
/-- The reference's way to the same answer. -/
theorem accrue_spec {p n d x y c mode : Int} (c1 : 0 ≤ p ∧ p ≤ 1000000000) (c2 : okF n d ∧ 0 ≤ n) : accrueA p n d x y c mode = if (growthA n d x y c).2.2 = true then scaleA p (growthA n d x y c).1 (growthA n d x y c).2.1 mode else (0, false) := by
  unfold accrueA
  by_cases c3 : (growthA n d x y c).2.2 = true
  · have hc := growth_conv c3
    rw [if_pos c3]
    by_cases c4 : 1 ≤ mode ∧ mode ≤ 4
    · rw [if_pos ⟨c1, c2, hc, c4⟩]
    · rw [if_neg (fun g => c4 g.2.2.2), scale_mode c4]
  · rw [if_neg c3]
    by_cases c5 : (0 ≤ p ∧ p ≤ 1000000000) ∧ intOk n d c mode
    · rw [if_pos c5]
    · rw [if_neg c5]

def joinI (p : Option Int) (x : Int) : Prop := ∀ q, p = some q → q < x
instance (p : Option Int) (x : Int) : Decidable (joinI p x) := by
  cases p with
  | none => exact isTrue (fun q h => by cases h)
  | some q =>
    by_cases h : q < x
    · exact isTrue (fun q' e => by cases e; exact h)
    · exact isFalse (fun g => h (g q rfl))
def chkI (lo hi : Int) : Option Int → List Int → Bool
  | _, [] => true
  | p, a :: t => decide (lo ≤ a ∧ a ≤ hi) && decide (joinI p a) && chkI lo hi (some a) t
def endI (pre : List Int) (p : Option Int) : Prop := (pre = [] ∧ p = none) ∨ ∃ q b, pre = q ++ [b] ∧ p = some b
theorem endI_snoc (pre : List Int) (a : Int) : endI (pre ++ [a]) (some a) := .inr ⟨pre, a, rfl, rfl⟩
theorem chkI_bad {lo hi : Int} {p : Option Int} {a : Int} {t : List Int} (h : ¬ ((lo ≤ a ∧ a ≤ hi) ∧ joinI p a)) : chkI lo hi p (a :: t) = false := by
  rw [chkI]
  by_cases h1 : lo ≤ a ∧ a ≤ hi
  · rw [decide_eq_false (fun g => h ⟨h1, g⟩)]; simp
  · rw [decide_eq_false h1]; simp
theorem chkI_step {lo hi : Int} {p : Option Int} {a : Int} (t : List Int) (h1 : lo ≤ a ∧ a ≤ hi) (h2 : joinI p a) : chkI lo hi p (a :: t) = chkI lo hi (some a) t := by
  rw [chkI, decide_eq_true h1, decide_eq_true h2]; simp

theorem implRising_l0 (lo hi most : Int) (xs : List Int) (hn : xs.length ≤ 1048576) : ∀ (rest pre : List Int) (i : Int) (p : Option Int), xs = pre ++ rest → i = pre.length → endI pre p → Ev (fun k => impl_isRising.l0 k xs lo hi most xs (xs.length : Int) i) (chkI lo hi p rest && decide ((xs.length : Int) ≤ most)) := by
  intro rest
  induction rest with
  | nil =>
    intro pre i p h hi' hp
    have hl := len_nil h
    refine evSucc ?_
    simp only [impl_isRising.l0]
    refine evNeg (by omega) ?_
    exact evSome (by rw [chkI, Bool.true_and])
  | cons a t ih =>
    intro pre i p h hi' hp
    have hl := len_cons h
    refine evSucc ?_
    simp only [impl_isRising.l0, within_eq, Option.bind_some, decide_eq_true_eq, rd_at h hi']
    refine evPos (by omega) ?_
    refine evPos (by omega) ?_
    refine evPos (by omega) ?_
    refine evIte (fun c1 => ?_) (fun c1 => evSome (by rw [chkI_bad (fun g => c1 g.1)]; rfl))
    have go : joinI p a → Ev (fun k => impl_isRising.l0 k xs lo hi most xs (xs.length : Int) (wrap64 (i + 1))) (chkI lo hi p (a :: t) && decide ((xs.length : Int) ≤ most)) := by
      intro hj
      rw [chkI_step t c1 hj]
      exact ih (pre ++ [a]) _ (some a) (snoc h) (by rw [wrapId (by omega), len_snoc]; omega) (endI_snoc pre a)
    rcases hp with ⟨rfl, rfl⟩ | ⟨q, b, rfl, rfl⟩
    · refine evNeg (by simp at hi'; omega) ?_
      exact go (fun q e => by cases e)
    · have hq : ((q ++ [b]).length : Int) = q.length + 1 := len_snoc q b
      have h' : xs = q ++ b :: (a :: t) := by rw [h]; simp
      rw [rd_at h' (i := wrap64 (i - 1)) (by rw [wrapId (by omega)]; omega)]
      refine evPos (by omega) ?_
      refine evPos (by rw [wrapId (by omega)]; omega) ?_
      refine evPos (by rw [wrapId (by omega)]; omega) ?_
      refine evIte (fun c5 => evSome ?_) (fun c5 => go (fun q' e => by cases e; omega))
      rw [chkI_bad (fun g => by have := g.2 _ rfl; omega)]; rfl
theorem implRising_ev (lo hi most : Int) (xs : List Int) (hn : xs.length ≤ 1048576) : Ev (fun k => impl_isRising.f k xs lo hi most) (chkI lo hi none xs && decide ((xs.length : Int) ≤ most)) := by
  simp only [impl_isRising.f]
  exact implRising_l0 lo hi most xs hn xs [] 0 none rfl rfl (.inl ⟨rfl, rfl⟩)

theorem scale_bd (x n d mode : Int) : -1000000000 ≤ (scaleA x n d mode).1 ∧ (scaleA x n d mode).1 ≤ 1000000000 := by
  unfold scaleA
  split
  · split
    · rename_i g; exact g
    · simp
  · simp
theorem accrue_bd (p n d x y c m : Int) : -1000000000 ≤ (accrueA p n d x y c m).1 ∧ (accrueA p n d x y c m).1 ≤ 1000000000 := by
  unfold accrueA
  split
  · split
    · exact scale_bd _ _ _ _
    · simp
  · simp

/-- Interest on interest, from day to day. -/
noncomputable def compF (n d c mode : Int) : Int → Int → List Int → Int × Bool
  | p, _, [] => (p, true)
  | p, x, y :: t => if (accrueA p n d x y c mode).2 = true ∧ -1000000000 ≤ p + (accrueA p n d x y c mode).1 ∧ p + (accrueA p n d x y c mode).1 ≤ 1000000000 then compF n d c mode (p + (accrueA p n d x y c mode).1) y t else (0, false)
def compOk (p n d : Int) (days : List Int) (c mode : Int) : Prop := (0 ≤ p ∧ p ≤ 1000000000) ∧ intOk n d c mode ∧ (1 ≤ days.length ∧ days.length ≤ 41) ∧ chkI 0 36524 none days = true
instance (p n d : Int) (days : List Int) (c mode : Int) : Decidable (compOk p n d days c mode) := by unfold compOk; infer_instance
noncomputable def compA (p n d : Int) (days : List Int) (c mode : Int) : Int × Bool :=
  if compOk p n d days c mode then compF n d c mode p (days.getD 0 0) (days.drop 1) else (0, false)
theorem compF_at {n d c mode p x : Int} {days : List Int} {i : Nat} (h : i < days.length) {r : Int} {so : Bool} (hr : accrueA p n d x (days.getD i 0) c mode = (r, so)) : compF n d c mode p x (days.drop i) = if so = true ∧ -1000000000 ≤ p + r ∧ p + r ≤ 1000000000 then compF n d c mode (p + r) (days.getD i 0) (days.drop (i + 1)) else (0, false) := by
  have e : days[i] = days.getD i 0 := by rw [List.getD_eq_getElem?_getD, List.getElem?_eq_getElem h]; rfl
  rw [List.drop_eq_getElem_cons h, compF, e, hr]
theorem compF_end {n d c mode p x : Int} {days : List Int} : compF n d c mode p x (days.drop days.length) = (p, true) := by
  rw [List.drop_length, compF]

def addF (a b c d : Int) : Int × Int × Bool := if okF a b ∧ okF c d then fracA (a * d + c * b) (b * d) else (0, 0, false)
theorem okF_add {a b c d : Int} (h : okF a b) (h' : okF c d) : (a * d).natAbs ≤ 1000000000000000000 ∧ (c * b).natAbs ≤ 1000000000000000000 ∧ (b * d).natAbs ≤ 1000000000000000000 ∧ 0 < b * d := by
  obtain ⟨h1, h2, _⟩ := h
  obtain ⟨g1, g2, _⟩ := h'
  refine ⟨?_, ?_, ?_, Int.mul_pos (by omega) (by omega)⟩
  · have := mul_bd a d 1000000000 1000000000 (by omega) (by omega)
    simpa using this
  · have := mul_bd c b 1000000000 1000000000 (by omega) (by omega)
    simpa using this
  · have := mul_bd b d 1000000000 1000000000 (by omega) (by omega)
    simpa using this
def okS (a : S61) : Prop := (0 ≤ a.f0 ∧ a.f0 ≤ 36524) ∧ (okF a.f1.f0 a.f1.f1 ∧ 0 ≤ a.f1.f0)
instance (a : S61) : Decidable (okS a) := by unfold okS; infer_instance
def joinS (p : Option Int) (a : S61) : Prop := ∀ q, p = some q → q < a.f0
instance (p : Option Int) (a : S61) : Decidable (joinS p a) := by
  cases p with
  | none => exact isTrue (fun q h => by cases h)
  | some q =>
    by_cases h : q < a.f0
    · exact isTrue (fun q' e => by cases e; exact h)
    · exact isFalse (fun g => h (g q rfl))
def chkS : Option Int → List S61 → Bool
  | _, [] => true
  | p, a :: t => decide (okS a) && decide (joinS p a) && chkS (some a.f0) t
def endS (pre : List S61) (p : Option Int) : Prop := (pre = [] ∧ p = none) ∨ ∃ q b, pre = q ++ [b] ∧ p = some b.f0
theorem endS_snoc (pre : List S61) (a : S61) : endS (pre ++ [a]) (some a.f0) := .inr ⟨pre, a, rfl, rfl⟩
theorem chkS_bad {p : Option Int} {a : S61} {t : List S61} (h : ¬ (okS a ∧ joinS p a)) : chkS p (a :: t) = false := by
  rw [chkS]
  by_cases h1 : okS a
  · rw [decide_eq_false (fun g => h ⟨h1, g⟩)]; simp
  · rw [decide_eq_false h1]; simp
theorem chkS_step {p : Option Int} {a : S61} (t : List S61) (h1 : okS a) (h2 : joinS p a) : chkS p (a :: t) = chkS (some a.f0) t := by
  rw [chkS, decide_eq_true h1, decide_eq_true h2]; simp
theorem l1Most_mx (a b : Int) : spec_l1Most.f a b = some (mx a b) := by
  unfold spec_l1Most.f mx
  repeat (first | rfl | (congr 1; omega) | omega | split)
theorem mn_minS (a b : Int) : mn a b = minI a b := rfl
def hiS (to_ : Int) : List S61 → Int
  | [] => to_
  | b :: _ => minI to_ b.f0
noncomputable def stepF (p from_ to_ c m : Int) : Int → Int → List S61 → Int × Bool
  | n, d, [] => scaleA p n d m
  | n, d, a :: t =>
    if mx from_ a.f0 ≥ hiS to_ t then stepF p from_ to_ c m n d t
    else if (growthA a.f1.f0 a.f1.f1 (mx from_ a.f0) (hiS to_ t) c).2.2 = true then
      (if (addF n d (growthA a.f1.f0 a.f1.f1 (mx from_ a.f0) (hiS to_ t) c).1 (growthA a.f1.f0 a.f1.f1 (mx from_ a.f0) (hiS to_ t) c).2.1).2.2 = true then
        stepF p from_ to_ c m (addF n d (growthA a.f1.f0 a.f1.f1 (mx from_ a.f0) (hiS to_ t) c).1 (growthA a.f1.f0 a.f1.f1 (mx from_ a.f0) (hiS to_ t) c).2.1).1 (addF n d (growthA a.f1.f0 a.f1.f1 (mx from_ a.f0) (hiS to_ t) c).1 (growthA a.f1.f0 a.f1.f1 (mx from_ a.f0) (hiS to_ t) c).2.1).2.1 t
      else (0, false))
    else (0, false)
theorem stepF_mode (p from_ to_ c m : Int) (hm : ¬ (1 ≤ m ∧ m ≤ 4)) : ∀ (xs : List S61) (n d : Int), stepF p from_ to_ c m n d xs = (0, false) := by
  intro xs
  induction xs with
  | nil => intro n d; unfold stepF; exact scale_mode hm
  | cons a t ih =>
    intro n d
    unfold stepF
    split
    · exact ih _ _
    · split
      · split
        · exact ih _ _
        · rfl
      · rfl
def firstS : List S61 → Int
  | [] => 0
  | a :: _ => a.f0
def stepOk (p : Int) (xs : List S61) (from_ to_ c : Int) : Prop := (0 ≤ p ∧ p ≤ 1000000000) ∧ (1 ≤ (xs.length : Int) ∧ (xs.length : Int) ≤ 12) ∧ chkS none xs = true ∧ (0 ≤ from_ ∧ from_ ≤ 36524) ∧ (0 ≤ to_ ∧ to_ ≤ 36524) ∧ from_ ≤ to_ ∧ firstS xs ≤ from_ ∧ (1 ≤ c ∧ c ≤ 4)
instance (p : Int) (xs : List S61) (from_ to_ c : Int) : Decidable (stepOk p xs from_ to_ c) := by unfold stepOk; infer_instance
noncomputable def stepA (p : Int) (xs : List S61) (from_ to_ c m : Int) : Int × Bool := if stepOk p xs from_ to_ c then stepF p from_ to_ c m 0 1 xs else (0, false)
theorem rdS_first (xs : List S61) (h : 0 < (xs.length : Int)) : (rd_T61 xs 0).f0 = firstS xs := by
  cases xs with
  | nil => simp at h
  | cons a t => rfl
theorem rdS_at {xs : List S61} {i : Nat} (h : i < xs.length) : xs[i] = rd_T61 xs (i : Int) := by
  rw [rd_T61, Int.toNat_natCast, List.getD_eq_getElem?_getD, List.getElem?_eq_getElem h]
  rfl
theorem hiS_at (to_ : Int) (xs : List S61) (i : Nat) : hiS to_ (xs.drop i) = if i < xs.length then minI to_ (rd_T61 xs (i : Int)).f0 else to_ := by
  by_cases h : i < xs.length
  · rw [if_pos h, List.drop_eq_getElem_cons h, hiS, rdS_at h]
  · rw [if_neg h, List.drop_eq_nil_of_le (by omega), hiS]
theorem stepF_end {p from_ to_ c m n d : Int} {xs : List S61} : stepF p from_ to_ c m n d (xs.drop xs.length) = scaleA p n d m := by
  rw [List.drop_length, stepF]
theorem stepF_skip {p from_ to_ c m n d : Int} {xs : List S61} {i : Nat} (h : i < xs.length) {f0 f1 f2 lo hi : Int} (ha : rd_T61 xs (i : Int) = ⟨f0, ⟨f1, f2⟩⟩) (hlo : mx from_ f0 = lo) (hhi : hiS to_ (xs.drop (i + 1)) = hi) (hc : hi ≤ lo) : stepF p from_ to_ c m n d (xs.drop i) = stepF p from_ to_ c m n d (xs.drop (i + 1)) := by
  rw [List.drop_eq_getElem_cons h, stepF, rdS_at h, ha, hhi]
  simp only [hlo]
  rw [if_pos hc]
theorem stepF_go {p from_ to_ c m n d : Int} {xs : List S61} {i : Nat} (h : i < xs.length) {f0 f1 f2 lo hi : Int} (ha : rd_T61 xs (i : Int) = ⟨f0, ⟨f1, f2⟩⟩) (hlo : mx from_ f0 = lo) (hhi : hiS to_ (xs.drop (i + 1)) = hi) (hc : ¬ hi ≤ lo) {n1 d1 n2 d2 : Int} {o1 o2 : Bool} (h1 : growthA f1 f2 lo hi c = (n1, d1, o1)) (h2 : addF n d n1 d1 = (n2, d2, o2)) : stepF p from_ to_ c m n d (xs.drop i) = if o1 = true ∧ o2 = true then stepF p from_ to_ c m n2 d2 (xs.drop (i + 1)) else (0, false) := by
  rw [List.drop_eq_getElem_cons h, stepF, rdS_at h, ha, hhi]
  simp only [hlo]
  rw [if_neg hc]
  simp only [h1, h2]
  cases o1 <;> cases o2 <;> simp

def prvS (xs : List S61) : Nat → Option Int
  | 0 => none
  | j + 1 => some (rd_T61 xs (j : Int)).f0
theorem chkS_go {xs : List S61} {i : Nat} (h : i < xs.length) {a : S61} (ha : rd_T61 xs (i : Int) = a) (h1 : okS a) (h2 : ∀ q, prvS xs i = some q → q < a.f0) : chkS (prvS xs i) (xs.drop i) = chkS (prvS xs (i + 1)) (xs.drop (i + 1)) := by
  rw [List.drop_eq_getElem_cons h, rdS_at h, ha, chkS_step _ h1 h2]
  show _ = chkS (some (rd_T61 xs (i : Int)).f0) _
  rw [ha]
theorem chkS_no {xs : List S61} {i : Nat} (h : i < xs.length) {a : S61} (ha : rd_T61 xs (i : Int) = a) (h1 : ¬ (okS a ∧ ∀ q, prvS xs i = some q → q < a.f0)) : chkS (prvS xs i) (xs.drop i) = false := by
  rw [List.drop_eq_getElem_cons h, rdS_at h, ha]
  exact chkS_bad h1
theorem chkS_nil {xs : List S61} (p : Option Int) : chkS p (xs.drop xs.length) = true := by rw [List.drop_length, chkS]
def stOk (xs : List S61) : Bool := decide (1 ≤ (xs.length : Int) ∧ (xs.length : Int) ≤ 12) && chkS none xs
def arOk (xs : List S61) (a : Int) : Bool := decide ((1 ≤ (xs.length : Int) ∧ (xs.length : Int) ≤ 12) ∧ chkS none xs = true ∧ firstS xs ≤ a)
theorem stF_eq (xs : List S61) : some (stOk xs) = some (decide (stOk xs = true)) := by cases stOk xs <;> rfl
theorem arF_eq (xs : List S61) (a : Int) : some (arOk xs a) = some (decide (arOk xs a = true)) := by cases arOk xs a <;> rfl
theorem stOk_iff {xs : List S61} : stOk xs = true ↔ (1 ≤ (xs.length : Int) ∧ (xs.length : Int) ≤ 12) ∧ chkS none xs = true := by
  unfold stOk; rw [Bool.and_eq_true, decide_eq_true_eq]
theorem arOk_iff {xs : List S61} {a : Int} : arOk xs a = true ↔ (1 ≤ (xs.length : Int) ∧ (xs.length : Int) ≤ 12) ∧ chkS none xs = true ∧ firstS xs ≤ a := by
  unfold arOk; rw [decide_eq_true_eq]
theorem prvS_pos (xs : List S61) {i : Nat} (h : 0 < i) : prvS xs i = some (rd_T61 xs ((i - 1 : Nat) : Int)).f0 := by
  cases i with
  | zero => omega
  | succ j => rfl

theorem frac_self {a b : Int} (h : okF a b) : fracA a b = (a, b, true) := by
  have h1 := h.1
  have h3 := h.2.2
  have hb : ¬ b < 0 := by omega
  have e : ((Int.gcd a b : Nat) : Int) = 1 := by rw [h3]; rfl
  unfold fracA
  rw [if_neg hb, if_neg hb, e, Int.ediv_one, Int.ediv_one, if_pos h]
theorem frac_zero {b : Int} (hb : 1 ≤ b) : fracA 0 b = (0, 1, true) := by
  have hn : ¬ b < 0 := by omega
  have e : ((Int.gcd 0 b : Nat) : Int) = b := by rw [Int.gcd_zero_left]; omega
  unfold fracA
  rw [if_neg hn, if_neg hn, e, Int.zero_ediv, Int.ediv_self (by omega), if_pos (by decide)]
theorem count_same {x c : Int} : countA x x c = (0, 1, true) := by
  unfold countA
  have e1 : thirtyA x x = 0 := by unfold thirtyA; omega
  rw [Int.sub_self, e1, show numA x (Int.toNat 0) = 0 from rfl, frac_zero (by omega), frac_zero (by omega), frac_zero (by omega)]
  repeat' split
  all_goals rfl
theorem growth_valid {n d x y c n1 d1 : Int} (h : growthA n d x y c = (n1, d1, true)) : validC x y c ∧ okF n d := by
  unfold growthA at h
  by_cases c1 : (dayCountA x y c).2.2 = true
  · rw [if_pos c1] at h
    refine ⟨?_, ?_⟩
    · unfold dayCountA at c1
      by_cases hv : validC x y c
      · exact hv
      · rw [if_neg hv] at c1; simp at c1
    · unfold multA at h
      by_cases c2 : okF n d ∧ okF (dayCountA x y c).1 (dayCountA x y c).2.1
      · exact c2.1
      · rw [if_neg c2] at h; simp at h
  · rw [if_neg c1] at h; simp at h
theorem growth_same {n d x c n1 d1 : Int} (h : growthA n d x x c = (n1, d1, true)) : n1 = 0 ∧ d1 = 1 := by
  obtain ⟨hv, hf⟩ := growth_valid h
  have e : dayCountA x x c = (0, 1, true) := by unfold dayCountA; rw [if_pos hv]; exact count_same
  unfold growthA at h
  rw [e] at h
  simp only [if_true] at h
  have h2 : multA n d 0 1 = (0, 1, true) := by
    unfold multA
    rw [if_pos ⟨hf, by decide⟩, Int.mul_zero, Int.mul_one]
    exact frac_zero hf.1.1
  rw [h2] at h
  simp only [Prod.mk.injEq] at h
  exact ⟨h.1.symm, h.2.1.symm⟩
theorem upB_zero {den m : Int} (hd : 1 ≤ den) : upB 0 0 den m = false := by
  unfold upB
  repeat' split
  all_goals simp <;> omega
theorem scale_zero {p m : Int} (hp : -1000000000 ≤ p ∧ p ≤ 1000000000) (hm : 1 ≤ m ∧ m ≤ 4) : scaleA p 0 1 m = (0, true) := by
  unfold scaleA
  have e : roundA (p * 0) 1 m = 0 := by
    rw [Int.mul_zero]
    unfold roundA rndA
    rw [if_neg (by omega), Int.zero_ediv, Int.zero_emod, upB_zero (by omega)]
    simp
  rw [if_pos ⟨hp, by decide, hm⟩, e]
  simp
theorem upB_mono {q r r' den m : Int} (hr : r ≤ r') (h : upB q r den m = true) : upB q r' den m = true := by
  unfold upB at h ⊢
  by_cases c2 : m = 2
  · rw [if_pos c2] at h ⊢
    have := of_decide_eq_true h
    exact decide_eq_true (by omega)
  rw [if_neg c2] at h ⊢
  by_cases c3 : m = 3
  · rw [if_pos c3] at h ⊢
    have := of_decide_eq_true h
    exact decide_eq_true (by omega)
  rw [if_neg c3] at h ⊢
  by_cases c4 : m = 4
  · rw [if_pos c4] at h ⊢
    simp only [Bool.or_eq_true, Bool.and_eq_true, decide_eq_true_eq] at h ⊢
    omega
  rw [if_neg c4] at h; exact absurd h (by simp)
theorem rnd_mono {a b den m : Int} (h0 : 0 ≤ a) (hab : a ≤ b) (hd : 1 ≤ den) : 0 ≤ rndA a den m ∧ rndA a den m ≤ rndA b den m := by
  have hq : a / den ≤ b / den := Int.ediv_le_ediv (by omega) hab
  have hq0 : 0 ≤ a / den := Int.ediv_nonneg h0 (by omega)
  have ha := Int.mul_ediv_add_emod a den
  have hb := Int.mul_ediv_add_emod b den
  unfold rndA
  by_cases he : a / den = b / den
  · have hr : a % den ≤ b % den := by rw [he] at ha; omega
    rw [he]
    by_cases hu : upB (b / den) (a % den) den m = true
    · rw [if_pos hu, if_pos (upB_mono hr hu)]; omega
    · rw [if_neg hu]; split <;> omega
  · split <;> split <;> omega
theorem scale_mono {x y n d m v : Int} (h : scaleA x n d m = (v, true)) (hy : 0 ≤ y ∧ y ≤ x) (hn : 0 ≤ n) : 0 ≤ v ∧ ∃ u, scaleA y n d m = (u, true) ∧ u ≤ v := by
  unfold scaleA at h
  by_cases c1 : scaleOk x n d m
  · rw [if_pos c1] at h
    by_cases c2 : -1000000000 ≤ roundA (x * n) d m ∧ roundA (x * n) d m ≤ 1000000000
    · rw [if_pos c2] at h
      have hv : roundA (x * n) d m = v := by simpa using h
      have p1 : 0 ≤ y * n := Int.mul_nonneg hy.1 hn
      have p2 : y * n ≤ x * n := Int.mul_le_mul_of_nonneg_right hy.2 hn
      have e1 : roundA (x * n) d m = rndA (x * n) d m := by unfold roundA; rw [if_neg (by omega)]
      have e2 : roundA (y * n) d m = rndA (y * n) d m := by unfold roundA; rw [if_neg (by omega)]
      have hm := rnd_mono (m := m) p1 p2 c1.2.1.1.1
      have c3 : scaleOk y n d m := ⟨by have := c1.1; omega, c1.2⟩
      refine ⟨by omega, roundA (y * n) d m, ?_, by omega⟩
      unfold scaleA
      rw [if_pos c3, if_pos (by omega)]
    · rw [if_neg c2] at h; simp at h
  · rw [if_neg c1] at h; simp at h
theorem accrue_open {p n d x y c m v : Int} (h : accrueA p n d x y c m = (v, true)) : (0 ≤ p ∧ p ≤ 1000000000) ∧ intOk n d c m ∧ ∃ n1 d1, growthA n d x y c = (n1, d1, true) ∧ scaleA p n1 d1 m = (v, true) := by
  unfold accrueA at h
  by_cases c1 : (0 ≤ p ∧ p ≤ 1000000000) ∧ intOk n d c m
  · rw [if_pos c1] at h
    by_cases c2 : (growthA n d x y c).2.2 = true
    · rw [if_pos c2] at h
      exact ⟨c1.1, c1.2, _, _, Prod.ext rfl (Prod.ext rfl c2), h⟩
    · rw [if_neg c2] at h; simp at h
  · rw [if_neg c1] at h; simp at h
theorem add_zero_frac {n1 d1 : Int} (h : okF n1 d1) : addF 0 1 n1 d1 = (n1, d1, true) := by
  unfold addF
  rw [if_pos ⟨by decide, h⟩, Int.zero_mul, Int.zero_add, Int.mul_one, Int.one_mul]
  exact frac_self h
/-- What holds of interest that is told. -/
theorem interest_facts {p n d x y c m v : Int} (h : accrueA p n d x y c m = (v, true)) : (0 ≤ p ∧ p ≤ 1000000000) ∧ (0 ≤ v ∧ v ≤ 1000000000) ∧ stepA p [⟨x, ⟨n, d⟩⟩] x y c m = (v, true) ∧ (∃ u, accrueA (p / 2) n d x y c m = (u, true) ∧ u ≤ v) ∧ (x = y → v = 0) ∧ (x ≠ y → p + v ≤ 1000000000 → compA p n d [x, y] c m = (p + v, true)) := by
  have hbd := accrue_bd p n d x y c m
  rw [h] at hbd
  obtain ⟨hp, hi, n1, d1, hg, hs⟩ := accrue_open h
  obtain ⟨hv, hf⟩ := growth_valid hg
  have hgo := growth_ok n d x y c hi.1.2 (by rw [hg])
  rw [hg] at hgo
  simp only at hgo
  have hm := scale_mono hs (y := p / 2) (by omega) hgo.2
  refine ⟨hp, ⟨hm.1, hbd.2⟩, ?_, ?_, ?_, ?_⟩
  · unfold stepA
    have e : chkS none [(⟨x, ⟨n, d⟩⟩ : S61)] = true := by
      rw [chkS_step _ (show okS ⟨x, ⟨n, d⟩⟩ from ⟨hv.1, hi.1⟩) (fun q e => by cases e)]; rfl
    rw [if_pos ⟨hp, by simp, e, hv.1, hv.2.1, hv.2.2.1, Int.le_refl x, hv.2.2.2⟩]
    unfold stepF
    have em : mx x x = x := by unfold mx; split <;> rfl
    simp only [hiS, em]
    by_cases hxy : x ≥ y
    · rw [if_pos hxy]
      obtain rfl : x = y := by have := hv.2.2.1; omega
      obtain ⟨rfl, rfl⟩ := growth_same hg
      unfold stepF
      exact hs
    · rw [if_neg hxy, hg]
      simp only [if_true, add_zero_frac hgo.1]
      unfold stepF
      exact hs
  · obtain ⟨u, hu, hle⟩ := hm.2
    refine ⟨u, ?_, hle⟩
    unfold accrueA
    rw [if_pos ⟨by omega, hi⟩, hg]
    simp only [if_true]
    exact hu
  · rintro rfl
    obtain ⟨rfl, rfl⟩ := growth_same hg
    rw [scale_zero (by omega) hi.2.2] at hs
    have : (0 : Int) = v := congrArg Prod.fst hs
    exact this.symm
  · intro hxy hle
    have hlt : x < y := by have := hv.2.2.1; omega
    unfold compA
    have e : chkI 0 36524 none [x, y] = true := by
      rw [chkI_step _ hv.1 (fun q e => by cases e), chkI_step _ hv.2.1 (fun q e => by cases e; exact hlt)]; rfl
    rw [if_pos ⟨hp, hi, by simp, e⟩]
    show compF n d c m p x [y] = _
    unfold compF
    rw [h]
    simp only []
    rw [if_pos ⟨trivial, by have := hm.1; omega, hle⟩]
    unfold compF
    rfl

def cmpS (x y : Int) : Int := if x < y then -1 else if x > y then 1 else 0
def cmpA (a b c d : Int) : Int × Bool := if okF a b ∧ okF c d then (cmpS (wrap64 (a * d)) (wrap64 (c * b)), true) else (0, false)
theorem specCmp_ev (a b c d : Int) : Ev (fun k => spec_CompareFractions.f k a b c d) (cmpA a b c d) := by
  simp only [spec_CompareFractions.f]
  have no : ¬ (okF a b ∧ okF c d) → Ev (fun k => spec_CompareFractions.j0 k true a b c d) (cmpA a b c d) := fun g => by
    refine evSucc ?_
    simp only [spec_CompareFractions.j0]
    exact evPos True.intro (evSome (by unfold cmpA; rw [if_neg g]))
  refine evBind (specIsF_ev a b) ?_
  simp only [decide_eq_true_eq]
  refine evIte (fun c1 => ?_) (fun c1 => no (fun g => c1 g.1))
  refine evBind (specIsF_ev c d) ?_
  by_cases c2 : okF c d
  · rw [decide_eq_true c2, Bool.not_true]
    refine evSucc ?_
    simp only [spec_CompareFractions.j0]
    refine evNeg Bool.false_ne_true ?_
    have hA : cmpA a b c d = (cmpS (wrap64 (a * d)) (wrap64 (c * b)), true) := by unfold cmpA; rw [if_pos ⟨c1, c2⟩]
    rw [hA]
    unfold cmpS
    refine evIte (fun q => ?_) (fun q => ?_)
    · rw [if_pos q]; exact Ev.now _
    · rw [if_neg q]
      refine evIte (fun q2 => ?_) (fun q2 => ?_)
      · rw [if_pos q2]; exact Ev.now _
      · rw [if_neg q2]; exact Ev.now _
  · rw [decide_eq_false c2, Bool.not_false]
    exact no (fun g => c2 g.2)

noncomputable def discA (a b x y c : Int) : Int × Int × Bool :=
  if okF a b ∧ 0 ≤ a then (if (growthA a b x y c).2.2 = true then fracA (growthA a b x y c).2.1 ((growthA a b x y c).2.1 + (growthA a b x y c).1) else (0, 0, false)) else (0, 0, false)

def okAm (xs : List Int) : Prop := xs.length ≤ 20 ∧ ∀ x ∈ xs, -1000000000 ≤ x ∧ x ≤ 1000000000
instance (xs : List Int) : Decidable (okAm xs) := by unfold okAm; infer_instance
theorem specAms_l0 (xs : List Int) (hn : xs.length ≤ 1048576) : ∀ (rest pre : List Int) (i : Int), xs = pre ++ rest → i = pre.length → (∀ x ∈ pre, -1000000000 ≤ x ∧ x ≤ 1000000000) → Ev (fun k => spec_l2Amounts.l0 k xs i) (decide (okAm xs)) := by
  intro rest
  induction rest with
  | nil =>
    intro pre i h hi hok
    have hl := len_nil h
    have hx : xs = pre := by simpa using h
    refine evSucc ?_
    simp only [spec_l2Amounts.l0]
    refine evNeg (by omega) ?_
    refine evSucc ?_
    simp only [spec_l2Amounts.j1]
    refine evNeg (by simp) (evSome ?_)
    refine decide_eq_decide.mpr ⟨fun g => ⟨by omega, by rw [hx]; exact hok⟩, fun g => by have := g.1; omega⟩
  | cons a t ih =>
    intro pre i h hi hok
    have hl := len_cons h
    have ha : rd xs i = a := rd_at h hi
    refine evSucc ?_
    simp only [spec_l2Amounts.l0]
    refine evPos (by omega) ?_
    refine evSucc ?_
    simp only [spec_l2Amounts.j1, ha, l2Amount_eq, Option.bind_some, decide_eq_true_eq]
    refine evIte (fun c => ?_) (fun c => ?_)
    · refine evPos (by omega) ?_
      refine evPos (by omega) ?_
      refine evIte (fun c2 => ?_) (fun c2 => evSome (decide_eq_false (fun g => c2 (g.2 a (by rw [h]; simp)))).symm)
      exact ih (pre ++ [a]) _ (snoc h) (by rw [wrapId (by omega), len_snoc]; omega) (fun x hx => by
        rcases List.mem_append.mp hx with q | q
        · exact hok x q
        · rw [List.mem_singleton.mp q]; exact c2)
    · refine evSome (decide_eq_decide.mpr ⟨fun g => absurd g (by omega), fun g => by have := g.1; omega⟩)
theorem specAms_ev (xs : List Int) (hn : xs.length ≤ 1048576) : Ev (fun k => spec_l2Amounts.f k xs) (decide (okAm xs)) := by
  simp only [spec_l2Amounts.f]
  exact specAms_l0 xs hn xs [] 0 rfl rfl (by simp)
theorem okAm_any {xs : List Int} (h : xs.length ≤ 20) : decide (okAm xs) = !(xs.any (fun x => !decide (-1000000000 ≤ x ∧ x ≤ 1000000000))) := by
  cases hq : xs.any (fun x => !decide (-1000000000 ≤ x ∧ x ≤ 1000000000)) with
  | true =>
    obtain ⟨x, hx, hx2⟩ := List.any_eq_true.mp hq
    refine decide_eq_false (fun g => ?_)
    rw [decide_eq_true (g.2 x hx)] at hx2
    cases hx2
  | false =>
    refine decide_eq_true ⟨h, fun x hx => ?_⟩
    have h1 := List.any_eq_false.mp hq x hx
    have h2 : decide (-1000000000 ≤ x ∧ x ≤ 1000000000) = true := by simpa using h1
    exact of_decide_eq_true h2
theorem drop_at (xs : List Int) {i : Nat} (h : i < xs.length) : xs.drop i = xs.getD i 0 :: xs.drop (i + 1) := by
  rw [List.drop_eq_getElem_cons h, List.getD_eq_getElem?_getD, List.getElem?_eq_getElem h]
  rfl

/-- The sum of what is to come, discounted. -/
noncomputable def pvL (n d t0 c mode : Int) : List Int → List Int → Int → Int × Bool
  | x :: xs, y :: ys, s => if (discA n d t0 y c).2.2 = true ∧ (scaleA x (discA n d t0 y c).1 (discA n d t0 y c).2.1 mode).2 = true then pvL n d t0 c mode xs ys (s + (scaleA x (discA n d t0 y c).1 (discA n d t0 y c).2.1 mode).1) else (0, false)
  | [], _, s => if -1000000000 ≤ s ∧ s ≤ 1000000000 then (s, true) else (0, false)
  | _ :: _, [], s => if -1000000000 ≤ s ∧ s ≤ 1000000000 then (s, true) else (0, false)
noncomputable def presA (xs ys : List Int) (t0 n d c mode : Int) : Int × Bool :=
  if okAm xs ∧ ys.length = xs.length ∧ (0 ≤ t0 ∧ t0 ≤ 36524) ∧ intOk n d c mode then pvL n d t0 c mode xs ys 0 else (0, false)
theorem pvL_at {n d t0 c mode : Int} {xs ys : List Int} {i : Nat} (h : i < xs.length) (hl : ys.length = xs.length) (s : Int) {n1 d1 sv : Int} {ok so : Bool} (h1 : discA n d t0 (ys.getD i 0) c = (n1, d1, ok)) (h2 : scaleA (xs.getD i 0) n1 d1 mode = (sv, so)) : pvL n d t0 c mode (xs.drop i) (ys.drop i) s = if ok = true ∧ so = true then pvL n d t0 c mode (xs.drop (i + 1)) (ys.drop (i + 1)) (s + sv) else (0, false) := by
  rw [drop_at xs h, drop_at ys (by omega), pvL, h1]
  simp only [h2]
theorem pvL_no {n d t0 c mode : Int} {xs ys : List Int} {i : Nat} (h : i < xs.length) (hl : ys.length = xs.length) (s : Int) {n1 d1 : Int} (h1 : discA n d t0 (ys.getD i 0) c = (n1, d1, false)) : pvL n d t0 c mode (xs.drop i) (ys.drop i) s = (0, false) := by
  rw [pvL_at h hl s h1 (Prod.ext rfl rfl : scaleA (xs.getD i 0) n1 d1 mode = ((scaleA (xs.getD i 0) n1 d1 mode).1, (scaleA (xs.getD i 0) n1 d1 mode).2)), if_neg (fun g => Bool.noConfusion g.1)]
theorem pvL_end {n d t0 c mode : Int} {xs ys : List Int} (s : Int) : pvL n d t0 c mode (xs.drop xs.length) ys s = if -1000000000 ≤ s ∧ s ≤ 1000000000 then (s, true) else (0, false) := by
  rw [List.drop_length]
  cases ys <;> rfl
def okDay (t0 y : Int) : Bool := decide ((0 ≤ y ∧ y ≤ 36524) ∧ t0 ≤ y)
theorem disc_bad {n d t0 y c : Int} (h : okDay t0 y = false) : (discA n d t0 y c).2.2 = false := by
  have h' : ¬ ((0 ≤ y ∧ y ≤ 36524) ∧ t0 ≤ y) := of_decide_eq_false h
  have hv : ¬ validC t0 y c := fun v => h' ⟨v.2.1, v.2.2.1⟩
  unfold discA growthA dayCountA
  rw [if_neg hv]
  split <;> simp
theorem pvL_bad {n d t0 c mode : Int} : ∀ (xs ys : List Int) (s : Int), ys.length = xs.length → (ys.any fun y => !okDay t0 y) = true → pvL n d t0 c mode xs ys s = (0, false)
  | [], ys, s, hl, h => by
    obtain rfl : ys = [] := List.length_eq_zero_iff.mp hl
    simp at h
  | x :: xs, [], s, hl, h => by simp at hl
  | x :: xs, y :: ys, s, hl, h => by
    rw [pvL]
    split
    · rename_i g
      rw [List.any_cons, Bool.or_eq_true] at h
      rcases h with h | h
      · have h2 : okDay t0 y = false := by simpa using h
        rw [disc_bad h2] at g
        exact absurd g.1 (by simp)
      · exact pvL_bad xs ys _ (by simpa using hl) h
    · rfl

/-- What holds of a discount factor that is told. -/
theorem disc_facts {n d x y c fn fd : Int} (h : discA n d x y c = (fn, fd, true)) : 0 < fn ∧ okF fn fd ∧ cmpA fn fd 1 1 = (cmpS fn fd, true) ∧ cmpS fn fd ≤ 0 := by
  unfold discA at h
  by_cases c1 : okF n d ∧ 0 ≤ n
  · rw [if_pos c1] at h
    by_cases c2 : (growthA n d x y c).2.2 = true
    · rw [if_pos c2] at h
      obtain ⟨hok, h0⟩ := growth_ok n d x y c c1.2 c2
      obtain ⟨gn, hgn⟩ : ∃ q, q = (growthA n d x y c).1 := ⟨_, rfl⟩
      obtain ⟨gd, hgd⟩ : ∃ q, q = (growthA n d x y c).2.1 := ⟨_, rfl⟩
      rw [← hgn, ← hgd] at h hok
      rw [← hgn] at h0
      have hd1 := hok.1.1
      have hg : (0 : Int) < (Int.gcd gd (gd + gn) : Int) := by have := Int.gcd_pos_of_ne_zero_left (gd + gn) (show gd ≠ 0 by omega); omega
      obtain ⟨q, hq⟩ : (Int.gcd gd (gd + gn) : Int) ∣ gd := Int.gcd_dvd_left gd (gd + gn)
      have hn : ¬ gd + gn < 0 := by omega
      unfold fracA at h
      rw [if_neg hn, if_neg hn] at h
      by_cases c3 : okF (gd / (Int.gcd gd (gd + gn) : Int)) ((gd + gn) / (Int.gcd gd (gd + gn) : Int))
      · rw [if_pos c3] at h
        simp only [Prod.mk.injEq, and_true] at h
        obtain ⟨h1, h2⟩ := h
        rw [h1, h2] at c3
        have e1 : gd / (Int.gcd gd (gd + gn) : Int) = q := (quot_of hg hq).1
        have hq0 : 0 < q := by
          rcases Int.lt_or_le 0 q with g | g
          · exact g
          · have := Int.mul_nonpos_of_nonneg_of_nonpos (Int.le_of_lt hg) g
            omega
        have hle : fn ≤ fd := by rw [← h1, ← h2]; exact Int.ediv_le_ediv hg (by omega)
        have hf0 : 0 < fn := by rw [← h1, e1]; exact hq0
        refine ⟨hf0, c3, ?_, ?_⟩
        · unfold cmpA
          rw [if_pos ⟨c3, by decide⟩, Int.mul_one, Int.one_mul, wrapId (by have := c3.2.1; omega), wrapId (by have := c3.1; omega)]
        · unfold cmpS
          split
          · omega
          · split <;> omega
      · rw [if_neg c3] at h; simp at h
    · rw [if_neg c2] at h; simp at h
  · rw [if_neg c1] at h; simp at h
theorem scale_one {x m : Int} (hx : -1000000000 ≤ x ∧ x ≤ 1000000000) (hm : 1 ≤ m ∧ m ≤ 4) : scaleA x 1 1 m = (x, true) := by
  have hu : ∀ q : Int, upB q 0 1 m = false := fun q => by
    unfold upB
    repeat' split
    all_goals simp <;> omega
  have hr : ∀ a : Int, rndA a 1 m = a := fun a => by
    unfold rndA
    rw [Int.ediv_one, Int.emod_one, hu]
    simp
  have e : roundA (x * 1) 1 m = x := by
    rw [Int.mul_one]
    unfold roundA
    rw [hr, hr]
    split <;> omega
  unfold scaleA
  rw [if_pos ⟨hx, by decide, hm⟩, e, if_pos hx]
theorem disc_one {t y c fn fd : Int} (h : discA 0 1 t y c = (fn, fd, true)) : fn = 1 ∧ fd = 1 := by
  unfold discA at h
  rw [if_pos (by decide)] at h
  by_cases c2 : (growthA 0 1 t y c).2.2 = true
  · rw [if_pos c2] at h
    have hg : growthA 0 1 t y c = (0, 1, true) := by
      unfold growthA at c2 ⊢
      by_cases c3 : (dayCountA t y c).2.2 = true
      · rw [if_pos c3] at c2 ⊢
        have hk := (dayCount_ok t y c c3).1
        unfold multA
        rw [if_pos ⟨by decide, hk⟩, Int.zero_mul, Int.one_mul]
        exact frac_zero hk.1.1
      · rw [if_neg c3] at c2; simp at c2
    rw [hg] at h
    simp only [Int.add_zero] at h
    rw [frac_self (by decide)] at h
    simp only [Prod.mk.injEq, and_true] at h
    exact ⟨h.1.symm, h.2.symm⟩
  · rw [if_neg c2] at h; simp at h
def sumWL : Int → List Int → Int
  | s, [] => s
  | s, a :: t => sumWL (wrap64 (s + a)) t
theorem rSumL_l0 (xs : List Int) (hn : xs.length ≤ 1048576) : ∀ (rest pre : List Int) (s i : Int), xs = pre ++ rest → i = pre.length → Ev (fun k => laws_rSum.l0 k xs s i) (sumWL s rest) := by
  intro rest
  induction rest with
  | nil =>
    intro pre s i h hi
    have hl := len_nil h
    refine evSucc ?_
    simp only [laws_rSum.l0]
    refine evNeg (by omega) ?_
    exact evSome rfl
  | cons a t ih =>
    intro pre s i h hi
    have hl := len_cons h
    refine evSucc ?_
    simp only [laws_rSum.l0, rd_at h hi]
    refine evPos (by omega) ?_
    refine evPos (by omega) ?_
    exact ih (pre ++ [a]) _ _ (snoc h) (by rw [wrapId (by omega), len_snoc]; omega)
theorem rSumL_ev (xs : List Int) (hn : xs.length ≤ 1048576) : Ev (fun k => laws_rSum.f k xs) (sumWL 0 xs) := by
  simp only [laws_rSum.f]
  exact rSumL_l0 xs hn xs [] 0 0 rfl rfl
theorem pvL_sum {t c m v : Int} (hm : 1 ≤ m ∧ m ≤ 4) : ∀ (xs ys : List Int) (s : Int), ys.length = xs.length → (∀ x ∈ xs, -1000000000 ≤ x ∧ x ≤ 1000000000) → (-1000000000000 ≤ s - 1000000000 * (xs.length : Int) ∧ s + 1000000000 * (xs.length : Int) ≤ 1000000000000) → pvL 0 1 t c m xs ys s = (v, true) → sumWL s xs = v
  | [], ys, s, hl, hb, hs, h => by
    have e : pvL 0 1 t c m [] ys s = if -1000000000 ≤ s ∧ s ≤ 1000000000 then (s, true) else (0, false) := by cases ys <;> rfl
    rw [e] at h
    split at h
    · simpa [sumWL] using h
    · simp at h
  | x :: xs, [], s, hl, hb, hs, h => by simp at hl
  | x :: xs, y :: ys, s, hl, hb, hs, h => by
    rw [pvL] at h
    split at h
    · rename_i g
      obtain ⟨e1, e2⟩ := disc_one (show discA 0 1 t y c = ((discA 0 1 t y c).1, (discA 0 1 t y c).2.1, true) from Prod.ext rfl (Prod.ext rfl g.1))
      have hx := hb x (List.mem_cons_self ..)
      rw [e1, e2, scale_one hx hm] at h
      rw [List.length_cons] at hs
      rw [sumWL, wrapId (by omega)]
      exact pvL_sum hm xs ys (s + x) (by simpa using hl) (fun z hz => hb z (List.mem_cons_of_mem _ hz)) (by omega) h
    · simp at h
theorem pres_facts {xs ys : List Int} {t c m v : Int} (h : presA xs ys t 0 1 c m = (v, true)) : sumWL 0 xs = v := by
  unfold presA at h
  split at h
  · rename_i g
    have h20 : xs.length ≤ 20 := g.1.1
    exact pvL_sum g.2.2.2.2.2 xs ys 0 g.2.1 (fun x hx => g.1.2 x hx) (by omega) h
  · simp at h
end Go.Proofs.Ytacfepaemphdgaa.Pure
