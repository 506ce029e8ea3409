/- The plain law of FnExactEqualInstallments: the printed functions that it uses answer as plain Lean functions do; how a total is shared. No other condition. -/
import Derived.Test.YtlmdghcpcohamaaPL14Ex0
import Derived.Test.YtlmdghcpcohamaaPL14Ex1
import Derived.Test.YtlmdghcpcohamaaPL14Ex2
import Derived.Test.YtlmdghcpcohamaaPL14Ex3
import Derived.Test.YtlmdghcpcohamaaPL14Ex4
import Derived.Test.YtlmdghcpcohamaaEvKit
import Derived.Test.YtlmdghcpcohamaaKReads
import Derived.Sort.LotA
namespace Go.Proofs.Ytlmdghcpcohamaa.Pure
open Go.RowKit Go.Proofs.YtlmdghcpcohamaaW.PrintWords Go.Proofs.YtlmdghcpcohamaaW.PrintLast Go.Proofs.YtlmdghcpcohamaaW.PrintMore Go.Proofs.Ytlmdghcpcohamaa.PL14E Go.Proofs.Ytlmdghcpcohamaa.EvKit
set_option linter.unusedVariables false
set_option linter.unusedSimpArgs false

theorem eqIntS_l0 (xs : List Int) (hn : xs.length ≤ 9223372036854775806) : ∀ (rest pre : List Int) (i : Int), xs = pre ++ rest → i = pre.length → Ev (fun k => laws_eqIntS.l0 k xs xs i) true := by
  intro rest
  induction rest with
  | nil =>
    intro pre i h hi
    have hl := len_nil h
    refine evSucc ?_
    simp only [laws_eqIntS.l0]
    refine evNeg (by omega) ?_
    exact evSome rfl
  | cons a t ih =>
    intro pre i h hi
    have hl := len_cons h
    refine evSucc ?_
    simp only [laws_eqIntS.l0]
    refine evPos (by omega) ?_
    refine evPos (by omega) ?_
    refine evPos (by omega) ?_
    refine evPos (by trivial) ?_
    exact ih (pre ++ [a]) _ (snoc h) (by rw [wrapId (by omega), len_snoc]; omega)
theorem eqIntS_ev (xs : List Int) (hn : xs.length ≤ 9223372036854775806) : Ev (fun k => laws_eqIntS.f k xs xs) true := by
  simp only [laws_eqIntS.f]
  exact evPos (by trivial) (eqIntS_l0 xs hn xs [] 0 rfl rfl)


theorem vInts_l0 (xs : List Int) (hn : xs.length ≤ 9223372036854775806) : ∀ (rest pre : List Int) (i : Int), xs = pre ++ rest → i = pre.length → Ev (fun k => laws_vInts.l0 k xs xs i) true := by
  intro rest
  induction rest with
  | nil =>
    intro pre i h hi
    have hl := len_nil h
    refine evSucc ?_
    simp only [laws_vInts.l0]
    refine evNeg (by omega) ?_
    exact evSome rfl
  | cons a t ih =>
    intro pre i h hi
    have hl := len_cons h
    refine evSucc ?_
    simp only [laws_vInts.l0]
    refine evPos (by omega) ?_
    refine evPos (by omega) ?_
    refine evPos (by omega) ?_
    refine evPos (by trivial) ?_
    exact ih (pre ++ [a]) _ (snoc h) (by rw [wrapId (by omega), len_snoc]; omega)
theorem vInts_ev (xs : List Int) (hn : xs.length ≤ 9223372036854775806) : Ev (fun k => laws_vInts.f k xs xs) true := by
  simp only [laws_vInts.f]
  exact evPos (by trivial) (vInts_l0 xs hn xs [] 0 rfl rfl)


def upFrom : Nat → Int → List Int
  | 0, _ => []
  | n + 1, m => m :: upFrom n (m + 1)
theorem upFrom_length : ∀ (n : Nat) (m : Int), (upFrom n m).length = n
  | 0, _ => rfl
  | n + 1, m => by simp [upFrom, upFrom_length n]
theorem markIntS_l0 : ∀ (rest pre : List Int) (xs : List Int) (m i : Int), xs = pre ++ rest → i = pre.length → 0 ≤ m → m + rest.length ≤ 9223372036854775807 → pre.length + rest.length ≤ 9223372036854775806 →
    Ev (fun k => laws_markIntS.l0 k xs m i) (m + rest.length, pre ++ upFrom rest.length m) := by
  intro rest
  induction rest with
  | nil =>
    intro pre xs m i h hi h0 h1 h2
    have hl := len_nil h
    refine evSucc ?_
    simp only [laws_markIntS.l0]
    refine evNeg (by omega) ?_
    exact evSome (by simp [h, upFrom])
  | cons a t ih =>
    intro pre xs m i h hi h0 h1 h2
    have hl := len_cons h
    simp only [List.length_cons] at h1 h2
    refine evSucc ?_
    simp only [laws_markIntS.l0]
    refine evPos (by omega) ?_
    refine evPos (by omega) ?_
    refine evEq (ih (pre ++ [m]) _ (wrap64 (m + 1)) _ ?_ ?_ ?_ ?_ ?_) ?_
    · rw [set_at h hi]; simp
    · rw [wrapId (by omega), len_snoc]; omega
    · rw [wrapId (by omega)]; omega
    · rw [wrapId (by omega)]; omega
    · simp; omega
    · rw [wrapId (by omega)]; simp [upFrom]; omega
theorem markIntS_ev (xs : List Int) (m : Int) (h0 : 0 ≤ m) (h1 : m + xs.length ≤ 9223372036854775807) (h2 : xs.length ≤ 9223372036854775806) : Ev (fun k => laws_markIntS.f k xs m) (m + xs.length, upFrom xs.length m) := by
  simp only [laws_markIntS.f]
  exact evEq (markIntS_l0 xs [] xs m 0 rfl rfl h0 h1 (by simpa using h2)) (by simp)


theorem heldIntS_l0 : ∀ (n : Nat) (pre : List Int) (xs : List Int) (m i : Int), xs = pre ++ upFrom n m → i = pre.length → 0 ≤ m → m + n ≤ 9223372036854775807 → pre.length + n ≤ 9223372036854775806 →
    Ev (fun k => laws_heldIntS.l0 k xs m i) (m + n) := by
  intro n
  induction n with
  | zero =>
    intro pre xs m i h hi h0 h1 h2
    have hl := len_nil h
    refine evSucc ?_
    simp only [laws_heldIntS.l0]
    refine evNeg (by omega) ?_
    exact evSome (by simp)
  | succ n ih =>
    intro pre xs m i h hi h0 h1 h2
    have h' : xs = pre ++ m :: upFrom n (m + 1) := h
    have hl := len_cons h'
    rw [upFrom_length] at hl
    refine evSucc ?_
    simp only [laws_heldIntS.l0, rd_at h' hi]
    refine evPos (by omega) ?_
    refine evPos (by omega) ?_
    refine evPos (by trivial) ?_
    refine evEq (ih (pre ++ [m]) _ (wrap64 (m + 1)) _ ?_ ?_ ?_ ?_ ?_) ?_
    · rw [wrapId (by omega)]; exact snoc h'
    · rw [wrapId (by omega), len_snoc]; omega
    · rw [wrapId (by omega)]; omega
    · rw [wrapId (by omega)]; omega
    · simp; omega
    · rw [wrapId (by omega)]; omega
theorem heldIntS_ev (n : Nat) (m : Int) (h0 : 0 ≤ m) (h1 : m + n ≤ 9223372036854775807) (h2 : n ≤ 9223372036854775806) : Ev (fun k => laws_heldIntS.f k (upFrom n m) m) (m + n) := by
  simp only [laws_heldIntS.f]
  exact heldIntS_l0 n [] _ m 0 rfl rfl h0 h1 (by simpa using h2)

theorem within_eq (a b c : Int) : impl_within.f a b c = some (decide (b ≤ a ∧ a ≤ c)) := by
  unfold impl_within.f
  by_cases h : a ≥ b
  · rw [if_pos h]; exact congrArg some (decide_eq_decide.mpr ⟨fun g => ⟨h, g⟩, fun g => g.2⟩)
  · rw [if_neg h]; exact congrArg some (decide_eq_false (fun g => h g.1)).symm
theorem l1In_eq (a b c : Int) : spec_l1In.f a b c = some (decide (b ≤ a ∧ a ≤ c)) := by
  unfold spec_l1In.f
  by_cases h : a ≥ b
  · rw [if_pos h]; exact congrArg some (decide_eq_decide.mpr ⟨fun g => ⟨h, g⟩, fun g => g.2⟩)
  · rw [if_neg h]; exact congrArg some (decide_eq_false (fun g => h g.1)).symm

def sumI : List Int → Int
  | [] => 0
  | a :: t => a + sumI t
def sumWI : Int → List Int → Int
  | s, [] => s
  | s, a :: t => sumWI (wrap64 (s + a)) t
theorem implSumOf_l0 (xs : List Int) (hn : xs.length ≤ 9223372036854775806) : ∀ (rest pre : List Int) (s i : Int), xs = pre ++ rest → i = pre.length → Ev (fun k => impl_sumOf.l0 k s xs (xs.length : Int) i) (sumWI s rest) := by
  intro rest
  induction rest with
  | nil =>
    intro pre s i h hi
    have hl := len_nil h
    refine evSucc ?_
    simp only [impl_sumOf.l0]
    refine evNeg (by omega) ?_
    exact evSome rfl
  | cons a t ih =>
    intro pre s i h hi
    have hl := len_cons h
    refine evSucc ?_
    simp only [impl_sumOf.l0, rd_at h hi]
    refine evPos (by omega) ?_
    refine evPos (by omega) ?_
    refine evPos (by omega) ?_
    exact ih (pre ++ [a]) _ _ (snoc h) (by rw [wrapId (by omega), len_snoc]; omega)
theorem implSumOf_ev (xs : List Int) (hn : xs.length ≤ 9223372036854775806) : Ev (fun k => impl_sumOf.f k xs) (sumWI 0 xs) := by
  simp only [impl_sumOf.f]
  exact implSumOf_l0 xs hn xs [] 0 0 rfl rfl
/-- Without a wrap where all parts are at least 0 and the whole is small. -/
theorem sumI_nonneg (xs : List Int) (h : ∀ x ∈ xs, 0 ≤ x) : 0 ≤ sumI xs := by
  induction xs with
  | nil => simp [sumI]
  | cons a t ih =>
    have h1 := h a List.mem_cons_self
    have h2 := ih (fun x hx => h x (List.mem_cons_of_mem _ hx))
    simp only [sumI]; omega
theorem sumWI_eq : ∀ (xs : List Int) (s : Int), (∀ x ∈ xs, 0 ≤ x) → 0 ≤ s → s + sumI xs ≤ 9223372036854775807 → sumWI s xs = s + sumI xs
  | [], s, _, _, _ => by simp [sumWI, sumI]
  | a :: t, s, h, h0, h1 => by
    have ha := h a List.mem_cons_self
    have ht : ∀ x ∈ t, 0 ≤ x := fun x hx => h x (List.mem_cons_of_mem _ hx)
    have hs := sumI_nonneg t ht
    simp only [sumI] at h1
    simp only [sumWI, sumI]
    rw [wrapId (by omega), sumWI_eq t (s + a) ht (by omega) (by omega)]
    omega

/-- Reads of a row by a plain place. -/
def rdN (xs : List Int) (i : Nat) : Int := xs.getD i 0
theorem rdN_set (xs : List Int) (i j : Nat) (v : Int) (hi : i < xs.length) : rdN (xs.set i v) j = if j = i then v else rdN xs j := by
  unfold rdN
  simp only [List.getD_eq_getElem?_getD, List.getElem?_set]
  by_cases h : i = j
  · subst h; simp [hi]
  · simp [h, Ne.symm h]
/-- Whole parts and remainders of a share. -/
def quoL (t al : Int) (ws : List Int) : List Int := ws.map (fun w => (t * w).tdiv al)
def remL (t al : Int) (ws : List Int) : List Int := ws.map (fun w => (t * w).tmod al)
/-- The place of the greatest number, the first of equals: from place i on, b the best so far. -/
def bestL (rs : List Int) : List Int → Nat → Nat → Nat
  | [], _, b => b
  | r :: t, i, b => bestL rs t (i + 1) (if rdN rs b < r then i else b)
def best (rs : List Int) : Nat := bestL rs (rs.drop 1) 1 0
/-- b comes before every other place. -/
def Lead (rs : List Int) (n b : Nat) : Prop := ∀ j, j < n → j ≠ b → rdN rs j < rdN rs b ∨ (rdN rs j = rdN rs b ∧ b < j)
theorem bestL_ok (rs : List Int) : ∀ (rest pre : List Int) (i b : Nat), rs = pre ++ rest → i = pre.length → b < i → Lead rs i b → bestL rs rest i b < rs.length ∧ Lead rs rs.length (bestL rs rest i b)
  | [], pre, i, b, h, hi, hb, hl => by
    have e : rs.length = i := by rw [h, hi]; simp
    rw [bestL, e]
    exact ⟨hb, hl⟩
  | r :: t, pre, i, b, h, hi, hb, hl => by
    have hr : rdN rs i = r := by subst h hi; simp [rdN]
    rw [bestL]
    refine bestL_ok rs t (pre ++ [r]) (i + 1) _ (by rw [h]; simp) (by rw [hi]; simp) (by split <;> omega) ?_
    intro j hj hne
    by_cases c : rdN rs b < r
    · rw [if_pos c] at hne ⊢
      rw [hr]
      have hji : j < i := by omega
      by_cases e : j = b
      · subst e; exact Or.inl c
      · rcases hl j hji e with q | q
        · exact Or.inl (by omega)
        · exact Or.inl (by omega)
    · rw [if_neg c] at hne ⊢
      by_cases e : j = i
      · subst e; rw [hr]; omega
      · exact hl j (by omega) hne
theorem best_ok (rs : List Int) (h : 0 < rs.length) : best rs < rs.length ∧ Lead rs rs.length (best rs) := by
  cases rs with
  | nil => simp at h
  | cons a t => exact bestL_ok (a :: t) t [a] 1 0 rfl rfl (by omega) (fun j hj hne => by omega)
theorem best_eq (rs : List Int) (b : Nat) (hb : b < rs.length) (hl : Lead rs rs.length b) : best rs = b := by
  obtain ⟨h1, h2⟩ := best_ok rs (by omega)
  by_cases e : best rs = b
  · exact e
  · have q1 := hl _ h1 e
    have q2 := h2 b hb (Ne.symm e)
    omega
/-- One unit more at a place. -/
def inc (out : List Int) (i : Nat) : List Int := out.set i (wrap64 (rdN out i + 1))
theorem inc_length (out : List Int) (i : Nat) : (inc out i).length = out.length := by simp [inc]
/-- The reference's way: the greatest remainder gets a unit and is struck. -/
def giveS : Nat → List Int → List Int → List Int
  | 0, out, _ => out
  | k + 1, out, rs => giveS k (inc out (best rs)) (rs.set (best rs) (-1))
/-- The program's way: along an order. -/
def giveI : List Nat → List Int → List Int
  | [], out => out
  | i :: t, out => giveI t (inc out i)
theorem giveI_snoc (is : List Nat) (i : Nat) : ∀ out, giveI (is ++ [i]) out = inc (giveI is out) i := by
  induction is with
  | nil => intro out; rfl
  | cons a t ih => intro out; simp only [List.cons_append, giveI]; exact ih _
theorem giveI_length (is : List Nat) : ∀ out, (giveI is out).length = out.length := by
  induction is with
  | nil => intro out; rfl
  | cons a t ih => intro out; simp only [giveI]; rw [ih, inc_length]
theorem giveS_length : ∀ (k : Nat) (out rs : List Int), (giveS k out rs).length = out.length
  | 0, _, _ => rfl
  | k + 1, out, rs => by rw [giveS, giveS_length k, inc_length]
/-- Place i comes before place j. -/
def Bef (rs : List Int) (i j : Nat) : Prop := rdN rs j < rdN rs i ∨ (rdN rs j = rdN rs i ∧ i < j)
theorem give_eq : ∀ (ord : List Nat) (k : Nat) (out rs : List Int), k ≤ ord.length → ord.Nodup → (∀ i ∈ ord, i < rs.length ∧ 0 ≤ rdN rs i) → (∀ j, j < rs.length → j ∉ ord → rdN rs j = -1) → ord.Pairwise (Bef rs) → giveS k out rs = giveI (ord.take k) out
  | _, 0, _, _, _, _, _, _, _ => by simp [giveS, giveI]
  | [], k + 1, _, _, hk, _, _, _, _ => by simp at hk
  | b :: t, k + 1, out, rs, hk, hd, hin, hout, hp => by
    obtain ⟨hb1, hb0⟩ := hin b List.mem_cons_self
    obtain ⟨hbt, hd2⟩ := List.nodup_cons.mp hd
    obtain ⟨hpb, hp2⟩ := List.pairwise_cons.mp hp
    have e : best rs = b := best_eq rs b hb1 (fun j hj hne => by
      by_cases m : j ∈ t
      · exact hpb j m
      · have := hout j hj (fun q => by rcases List.mem_cons.mp q with q | q; exact hne q; exact m q)
        exact Or.inl (by omega))
    have hne : ∀ i ∈ t, i ≠ b := fun i hi q => hbt (q ▸ hi)
    rw [giveS, e, List.take_succ_cons, giveI]
    refine give_eq t k _ _ (by simpa using hk) hd2 ?_ ?_ ?_
    · intro i hi
      have q := hin i (List.mem_cons_of_mem _ hi)
      rw [rdN_set _ _ _ _ hb1, if_neg (hne i hi), List.length_set]
      exact q
    · intro j hj hm
      rw [List.length_set] at hj
      rw [rdN_set _ _ _ _ hb1]
      by_cases q : j = b
      · rw [if_pos q]
      · rw [if_neg q]
        exact hout j hj (fun z => by rcases List.mem_cons.mp z with z | z; exact q z; exact hm z)
    · refine List.Pairwise.imp_of_mem ?_ hp2
      intro i j hi hj q
      unfold Bef at q ⊢
      rw [rdN_set _ _ _ _ hb1, rdN_set _ _ _ _ hb1, if_neg (hne i hi), if_neg (hne j hj)]
      exact q
section order
open Go.Sort
variable {m : Nat}
theorem ltB_swo (rs : List Int) : SWO (α := Fin (m + 1)) (fun x y => decide (rdN rs y.val < rdN rs x.val ∨ (rdN rs y.val = rdN rs x.val ∧ x.val < y.val))) where
  irrefl := fun x => decide_eq_false (by omega)
  trans := fun x y z h1 h2 => by
    have h1 := of_decide_eq_true h1
    have h2 := of_decide_eq_true h2
    exact decide_eq_true (by omega)
  ntrans := fun x y z h1 h2 => by
    have h1 := of_decide_eq_false h1
    have h2 := of_decide_eq_false h2
    exact decide_eq_false (by omega)
theorem swp_g (d : Array (Fin (m + 1))) {i j : Nat} (hi : i < d.size) (hj : j < d.size) (k : Nat) : (swp d i j)[k]! = if k = j then d[i]! else if k = i then d[j]! else d[k]! := swp_get d hi hj k
theorem inner_eq (lt1 lt2 : Fin (m + 1) → Fin (m + 1) → Bool) (hlt : ∀ x y : Fin (m + 1), y.val < x.val → lt1 x y = lt2 x y) : ∀ (j : Nat) (d : Array (Fin (m + 1))), j < d.size → (∀ p, p < j → d[p]!.val < d[j]!.val) → insInner lt1 0 j d = insInner lt2 0 j d ∧ (insInner lt1 0 j d).size = d.size ∧ (∀ p, j < p → (insInner lt1 0 j d)[p]! = d[p]!) ∧ (∀ p, p ≤ j → ∃ q, q ≤ j ∧ (insInner lt1 0 j d)[p]! = d[q]!)
  | 0, d, _, _ => by
    exact ⟨rfl, rfl, fun _ _ => rfl, fun p hp => ⟨p, hp, rfl⟩⟩
  | j + 1, d, hj, hd => by
    have hl := hlt d[j + 1]! d[j]! (hd j (by omega))
    simp only [insInner]
    rw [← hl]
    by_cases c : (decide (j + 1 > 0) && lt1 d[j + 1]! d[j]!) = true
    · rw [if_pos c, if_pos c]
      have g := swp_g d hj (show j < d.size by omega)
      have ih := inner_eq lt1 lt2 hlt j (swp d (j + 1) j) (by rw [swp_size]; omega) (fun p hp => by
        rw [g, g, if_neg (by omega), if_neg (by omega), if_pos rfl]
        exact hd p (by omega))
      refine ⟨ih.1, by rw [ih.2.1, swp_size], fun p hp => ?_, fun p hp => ?_⟩
      · rw [ih.2.2.1 p (by omega), g, if_neg (by omega), if_neg (by omega)]
      · by_cases e : p ≤ j
        · obtain ⟨q, hq, hq2⟩ := ih.2.2.2 p e
          rw [hq2, g]
          by_cases e1 : q = j
          · rw [if_pos e1]; exact ⟨j + 1, by omega, rfl⟩
          · rw [if_neg e1, if_neg (by omega)]; exact ⟨q, by omega, rfl⟩
        · rw [ih.2.2.1 p (by omega), g, if_neg (by omega), if_pos (by omega)]
          exact ⟨j, by omega, rfl⟩
    · rw [if_neg c, if_neg c]
      exact ⟨rfl, rfl, fun _ _ => rfl, fun p hp => ⟨p, hp, rfl⟩⟩
theorem insOuter_go' (lt : Fin (m + 1) → Fin (m + 1) → Bool) (a b i : Nat) (d : Array (Fin (m + 1))) (h : i < b) : insOuter lt a b i d = insOuter lt a b (i + 1) (insInner lt a i d) := by rw [insOuter, if_pos h]
theorem insOuter_stop' (lt : Fin (m + 1) → Fin (m + 1) → Bool) (a b i : Nat) (d : Array (Fin (m + 1))) (h : ¬ i < b) : insOuter lt a b i d = d := by rw [insOuter, if_neg h]
theorem outer_eq (lt1 lt2 : Fin (m + 1) → Fin (m + 1) → Bool) (hlt : ∀ x y : Fin (m + 1), y.val < x.val → lt1 x y = lt2 x y) : ∀ (k i : Nat) (d : Array (Fin (m + 1))), i + k = m + 1 → d.size = m + 1 → (∀ p, i ≤ p → p < m + 1 → d[p]!.val = p) → (∀ p, p < i → d[p]!.val < i) → insOuter lt1 0 (m + 1) i d = insOuter lt2 0 (m + 1) i d
  | 0, i, d, hk, _, _, _ => by rw [insOuter_stop' lt1 0 (m + 1) i d (by omega), insOuter_stop' lt2 0 (m + 1) i d (by omega)]
  | k + 1, i, d, hk, hs, h1, h2 => by
    rw [insOuter_go' lt1 0 (m + 1) i d (by omega), insOuter_go' lt2 0 (m + 1) i d (by omega)]
    have hi := inner_eq lt1 lt2 hlt i d (by omega) (fun p hp => by rw [h1 i (by omega) (by omega)]; exact h2 p hp)
    rw [← hi.1]
    refine outer_eq lt1 lt2 hlt k (i + 1) _ (by omega) (by rw [hi.2.1]; exact hs) (fun p hp hp2 => ?_) (fun p hp => ?_)
    · rw [hi.2.2.1 p (by omega)]; exact h1 p (by omega) hp2
    · obtain ⟨q, hq, hq2⟩ := hi.2.2.2 p (by omega)
      rw [hq2]
      by_cases e : q = i
      · rw [e, h1 i (by omega) (by omega)]; omega
      · have := h2 q (by omega); omega
theorem inner_size (lt : Fin (m + 1) → Fin (m + 1) → Bool) (a : Nat) : ∀ (j : Nat) (d : Array (Fin (m + 1))), (insInner lt a j d).size = d.size
  | 0, _ => rfl
  | j + 1, d => by
    simp only [insInner]
    split
    · rw [inner_size lt a j, swp_size]
    · rfl
theorem outer_size (lt : Fin (m + 1) → Fin (m + 1) → Bool) (a b : Nat) : ∀ (k i : Nat) (d : Array (Fin (m + 1))), b - i = k → (insOuter lt a b i d).size = d.size
  | 0, i, d, h => by rw [insOuter_stop' lt a b i d (by omega)]
  | k + 1, i, d, h => by rw [insOuter_go' lt a b i d (by omega), outer_size lt a b k (i + 1) _ (by omega), inner_size]
theorem sort_size (lt : Fin (m + 1) → Fin (m + 1) → Bool) (d : Array (Fin (m + 1))) (a b : Nat) : (insertionSort lt d a b).size = d.size := by
  unfold insertionSort; exact outer_size lt a b _ _ d rfl
theorem sort_none (lt : Fin (m + 1) → Fin (m + 1) → Bool) (d : Array (Fin (m + 1))) (a : Nat) : insertionSort lt d a a = d := by
  unfold insertionSort; exact insOuter_stop' lt a a (a + 1) d (by omega)
/-- The row of places, as it is before it is sorted. -/
def iotaA (m : Nat) : Array (Fin (m + 1)) := Array.ofFn (fun i : Fin (m + 1) => i)
theorem iotaA_size : (iotaA m).size = m + 1 := by simp [iotaA]
theorem iotaA_at (p : Nat) (hp : p < m + 1) : (iotaA m)[p]!.val = p := by
  rw [getElem!_pos _ p (by rw [iotaA_size]; exact hp)]
  simp [iotaA]
theorem iotaA_nodup : ((iotaA m).toList.map (fun x : Fin (m + 1) => x.val)).Nodup := by
  rw [iotaA, Array.toList_ofFn, List.map_ofFn]
  rw [List.nodup_iff_pairwise_ne, List.pairwise_iff_getElem]
  intro i j hi hj hij
  rw [List.getElem_ofFn, List.getElem_ofFn]
  simp only [Function.comp]
  omega
/-- The order that the program's sort makes. -/
def ordOf (lt : Fin (m + 1) → Fin (m + 1) → Bool) : List Nat := (insertionSort lt (iotaA m) 0 (m + 1)).toList.map (fun x => x.val)
theorem extract_all {β : Type} (D : Array β) (n : Nat) (h : D.size = n) : D.extract 0 n = D := by subst h; exact Array.extract_size
theorem ord_ok (rs : List Int) (lt : Fin (m + 1) → Fin (m + 1) → Bool) (hlt : ∀ x y, lt x y = decide (rdN rs y.val < rdN rs x.val)) :
    (ordOf lt).length = m + 1 ∧ (ordOf lt).Nodup ∧ (∀ i ∈ ordOf lt, i < m + 1) ∧ (∀ j, j < m + 1 → j ∈ ordOf lt) ∧ (ordOf lt).Pairwise (Bef rs) := by
  obtain ⟨lt2, hl2⟩ : ∃ f : Fin (m + 1) → Fin (m + 1) → Bool, f = fun (x y : Fin (m + 1)) => decide (rdN rs y.val < rdN rs x.val ∨ (rdN rs y.val = rdN rs x.val ∧ x.val < y.val)) := ⟨_, rfl⟩
  have hS : SWO lt2 := by rw [hl2]; exact ltB_swo rs
  have e0 : insertionSort lt (iotaA m) 0 (m + 1) = insertionSort lt2 (iotaA m) 0 (m + 1) := by
    unfold insertionSort
    refine outer_eq lt lt2 (fun x y h => ?_) m 1 (iotaA m) (by omega) iotaA_size (fun p _ hp => iotaA_at p hp) (fun p hp => by rw [iotaA_at p (by omega)]; exact hp)
    rw [hlt, hl2]
    exact decide_eq_decide.mpr (by omega)
  obtain ⟨hP, hSo⟩ := insertionSort_holds hS (iotaA m) 0 (m + 1) (Nat.zero_le _) (by rw [iotaA_size]; exact Nat.le_refl _)
  obtain ⟨hs, _, hperm⟩ := hP
  unfold ordOf
  rw [e0]
  generalize insertionSort lt2 (iotaA m) 0 (m + 1) = D at hs hperm hSo
  rw [iotaA_size] at hs
  have x1 : D.extract 0 (m + 1) = D := extract_all D (m + 1) hs
  have x2 : (iotaA m).extract 0 (m + 1) = iotaA m := extract_all _ (m + 1) iotaA_size
  rw [x1, x2] at hperm
  have hpm := hperm.map (fun x : Fin (m + 1) => x.val)
  have hnd : (D.toList.map (fun x : Fin (m + 1) => x.val)).Nodup := hpm.nodup_iff.mpr iotaA_nodup
  refine ⟨by simp [hs], hnd, fun i hi => ?_, fun j hj => ?_, ?_⟩
  · obtain ⟨x, _, rfl⟩ := List.mem_map.mp hi
    exact x.isLt
  · refine hpm.mem_iff.mpr (List.mem_map.mpr ⟨⟨j, hj⟩, ?_, rfl⟩)
    rw [iotaA, Array.toList_ofFn, List.mem_ofFn]
    exact ⟨⟨j, hj⟩, rfl⟩
  · rw [List.pairwise_iff_getElem]
    intro i j hi hj hij
    have hi' : i < D.size := by simpa using hi
    have hj' : j < D.size := by simpa using hj
    have h1 := hSo i j (Nat.zero_le _) hij (by omega)
    have ne := (List.pairwise_iff_getElem.mp (List.nodup_iff_pairwise_ne.mp hnd)) i j hi hj hij
    rw [getElem!_pos D i hi', getElem!_pos D j hj'] at h1
    simp only [List.getElem_map, Array.getElem_toList] at ne ⊢
    rw [hl2] at h1
    have h1 := of_decide_eq_false h1
    unfold Bef
    omega
end order
/-- What a total comes to, shared by weights. -/
def shareA (t : Int) (ws : List Int) : List Int := giveS (t - sumI (quoL t (sumI ws) ws)).toNat (quoL t (sumI ws) ws) (remL t (sumI ws) ws)
theorem quoL_length (t al : Int) (ws : List Int) : (quoL t al ws).length = ws.length := by simp [quoL]
theorem remL_length (t al : Int) (ws : List Int) : (remL t al ws).length = ws.length := by simp [remL]
theorem shareA_length (t : Int) (ws : List Int) : (shareA t ws).length = ws.length := by rw [shareA, giveS_length, quoL_length]
/-- Nothing is lost: the parts and the remainders. -/
theorem quo_rem (t al : Int) : ∀ ws : List Int, al * sumI (quoL t al ws) + sumI (remL t al ws) = t * sumI ws
  | [] => by simp [quoL, remL, sumI]
  | w :: ws => by
    have ih := quo_rem t al ws
    have h := Int.mul_tdiv_add_tmod (t * w) al
    simp only [quoL, remL, List.map_cons, sumI] at ih ⊢
    rw [Int.mul_add, Int.mul_add]
    omega
theorem rem_bd {t al : Int} (hal : 0 < al) (ht : 0 ≤ t) {ws : List Int} (hw : ∀ w ∈ ws, 0 ≤ w) : (∀ r ∈ remL t al ws, 0 ≤ r ∧ r < al) := by
  intro r hr
  obtain ⟨w, hm, rfl⟩ := List.mem_map.mp hr
  have h0 : 0 ≤ t * w := Int.mul_nonneg ht (hw w hm)
  exact ⟨Int.tmod_nonneg _ h0, by have := Int.tmod_lt_of_pos (t * w) hal; exact this⟩
theorem sum_lt {al : Int} (hal : 0 < al) : ∀ (rs : List Int), (∀ r ∈ rs, 0 ≤ r ∧ r < al) → 0 ≤ sumI rs ∧ sumI rs ≤ al * rs.length
  | [], _ => by simp [sumI]
  | r :: t, h => by
    have ih := sum_lt hal t (fun x hx => h x (List.mem_cons_of_mem _ hx))
    have h1 := h r List.mem_cons_self
    simp only [sumI, List.length_cons]
    have e : al * ((t.length + 1 : Nat) : Int) = al * t.length + al := by rw [Int.natCast_add, Int.mul_add]; simp
    rw [e]; omega
/-- What is left behind the whole parts is not negative and at most one unit a part. -/
theorem left_bd {t : Int} (ht : 0 ≤ t) {ws : List Int} (hw : ∀ w ∈ ws, 0 ≤ w) (hs : 0 < sumI ws) : 0 ≤ t - sumI (quoL t (sumI ws) ws) ∧ t - sumI (quoL t (sumI ws) ws) ≤ ws.length := by
  have h1 := quo_rem t (sumI ws) ws
  have h2 := sum_lt hs (remL t (sumI ws) ws) (rem_bd hs ht hw)
  rw [remL_length] at h2
  generalize sumI ws = al at h1 h2 hs ⊢
  generalize sumI (quoL t al ws) = q at h1 ⊢
  generalize sumI (remL t al ws) = r at h1 h2
  have e : al * (t - q) = r := by rw [Int.mul_sub, Int.mul_comm al t]; omega
  constructor
  · by_cases c : 0 ≤ t - q
    · exact c
    · have : al * (t - q) < 0 := Int.mul_neg_of_pos_of_neg hs (by omega)
      omega
  · have : al * (t - q) ≤ al * ws.length := by omega
    exact Int.le_of_mul_le_mul_left this hs
theorem quo_bd {t al : Int} (hal : 0 < al) (ht : 0 ≤ t) {ws : List Int} (hw : ∀ w ∈ ws, 0 ≤ w) : ∀ q ∈ quoL t al ws, 0 ≤ q := by
  intro q hq
  obtain ⟨w, hm, rfl⟩ := List.mem_map.mp hq
  exact Int.tdiv_nonneg (Int.mul_nonneg ht (hw w hm)) (by omega)
theorem sumI_set : ∀ (xs : List Int) (i : Nat) (v : Int), i < xs.length → sumI (xs.set i v) = sumI xs - rdN xs i + v
  | [], i, v, h => by simp at h
  | a :: t, 0, v, _ => by simp [rdN, sumI]; omega
  | a :: t, i + 1, v, h => by
    have ih := sumI_set t i v (by simpa using h)
    have e : rdN (a :: t) (i + 1) = rdN t i := by simp [rdN]
    rw [List.set_cons_succ, sumI, sumI, ih, e]; omega
theorem sumI_mem : ∀ (xs : List Int), (∀ x ∈ xs, 0 ≤ x) → ∀ x ∈ xs, x ≤ sumI xs
  | [], _, x, hx => by simp at hx
  | a :: t, h, x, hx => by
    have h1 := h a List.mem_cons_self
    have h2 := sumI_nonneg t (fun y hy => h y (List.mem_cons_of_mem _ hy))
    rw [sumI]
    rcases List.mem_cons.mp hx with e | e
    · subst e; omega
    · have := sumI_mem t (fun y hy => h y (List.mem_cons_of_mem _ hy)) x e; omega
theorem rdN_mem {xs : List Int} {i : Nat} (h : i < xs.length) : rdN xs i ∈ xs := by
  rw [rdN, List.getD_eq_getElem?_getD, List.getElem?_eq_getElem h]
  exact List.getElem_mem h
theorem giveS_sum : ∀ (k : Nat) (out rs : List Int), out.length = rs.length → 0 < rs.length → (∀ x ∈ out, 0 ≤ x) → sumI out + k ≤ 9223372036854775807 → sumI (giveS k out rs) = sumI out + k ∧ ∀ x ∈ giveS k out rs, 0 ≤ x
  | 0, out, rs, _, _, h, _ => by simp [giveS]; exact h
  | k + 1, out, rs, hl, hp, h, hb => by
    have h1 := (best_ok rs hp).1
    have hm := rdN_mem (xs := out) (i := best rs) (by omega)
    have hx := sumI_mem out h _ hm
    have h0 := h _ hm
    have hw : wrap64 (rdN out (best rs) + 1) = rdN out (best rs) + 1 := wrapId (by omega)
    have hs : sumI (inc out (best rs)) = sumI out + 1 := by rw [inc, sumI_set _ _ _ (by omega), hw]; omega
    have hn : ∀ x ∈ inc out (best rs), 0 ≤ x := fun x hx => by
      rcases List.mem_or_eq_of_mem_set hx with q | q
      · exact h x q
      · rw [q, hw]; omega
    have ih := giveS_sum k (inc out (best rs)) (rs.set (best rs) (-1)) (by rw [inc_length, List.length_set]; exact hl) (by rw [List.length_set]; exact hp) hn (by omega)
    rw [giveS]
    exact ⟨by rw [ih.1, hs]; omega, ih.2⟩
/-- A share's parts are not negative and add up to the total. -/
theorem shareA_sum {t : Int} (ht : 0 ≤ t ∧ t ≤ 1000000000) {ws : List Int} (hw : ∀ w ∈ ws, 0 ≤ w) (hs : 0 < sumI ws) : sumI (shareA t ws) = t ∧ ∀ x ∈ shareA t ws, 0 ≤ x := by
  have h1 := left_bd ht.1 hw hs
  have hp : 0 < ws.length := by
    cases ws with
    | nil => simp [sumI] at hs
    | cons a b => simp
  have h2 := giveS_sum (t - sumI (quoL t (sumI ws) ws)).toNat (quoL t (sumI ws) ws) (remL t (sumI ws) ws) (by rw [quoL_length, remL_length]) (by rw [remL_length]; exact hp) (quo_bd hs ht.1 hw) (by omega)
  exact ⟨by rw [shareA, h2.1]; omega, h2.2⟩
/-- The program's way comes to the same. -/
theorem shareA_ord {m : Nat} {t : Int} (ht : 0 ≤ t) {ws : List Int} (hl : ws.length = m + 1) (hw : ∀ w ∈ ws, 0 ≤ w) (hs : 0 < sumI ws) (lt : Fin (m + 1) → Fin (m + 1) → Bool) (hlt : ∀ x y, lt x y = decide (rdN (remL t (sumI ws) ws) y.val < rdN (remL t (sumI ws) ws) x.val)) :
    giveI ((ordOf lt).take (t - sumI (quoL t (sumI ws) ws)).toNat) (quoL t (sumI ws) ws) = shareA t ws := by
  obtain ⟨o1, o2, o3, o4, o5⟩ := ord_ok (remL t (sumI ws) ws) lt hlt
  have h1 := left_bd ht hw hs
  refine (give_eq (ordOf lt) _ _ _ (by omega) o2 (fun i hi => ?_) (fun j hj hm => ?_) o5).symm
  · have q := o3 i hi
    rw [remL_length, hl]
    refine ⟨q, ?_⟩
    exact (rem_bd hs ht hw _ (rdN_mem (by rw [remL_length]; omega))).1
  · rw [remL_length, hl] at hj
    exact absurd (o4 j hj) hm

theorem specL2Sum_l0 (xs : List Int) (hn : xs.length ≤ 1048576) : ∀ (rest pre : List Int) (s i : Int), xs = pre ++ rest → i = pre.length → Ev (fun k => spec_l2Sum.l0 k xs s i) (sumWI s rest) := by
  intro rest
  induction rest with
  | nil =>
    intro pre s i h hi
    have hl := len_nil h
    refine evSucc ?_
    simp only [spec_l2Sum.l0]
    refine evNeg (by omega) ?_
    exact evSome rfl
  | cons a t ih =>
    intro pre s i h hi
    have hl := len_cons h
    refine evSucc ?_
    simp only [spec_l2Sum.l0, rd_at h hi]
    refine evPos (by omega) ?_
    refine evPos (by omega) ?_
    exact ih (pre ++ [a]) _ _ (snoc h) (by rw [wrapId (by omega), len_snoc]; omega)
theorem specL2Sum_ev (xs : List Int) (hn : xs.length ≤ 1048576) : Ev (fun k => spec_l2Sum.f k xs) (sumWI 0 xs) := by
  simp only [spec_l2Sum.f]
  exact specL2Sum_l0 xs hn xs [] 0 0 rfl rfl
theorem rd_nat (xs : List Int) (b : Nat) : rd xs (b : Int) = rdN xs b := by rw [rd, rdN, Int.toNat_natCast]
theorem sumI_le : ∀ (xs : List Int) (B : Int), (∀ x ∈ xs, x ≤ B) → sumI xs ≤ B * xs.length
  | [], B, _ => by simp [sumI]
  | a :: t, B, h => by
    have ih := sumI_le t B (fun x hx => h x (List.mem_cons_of_mem _ hx))
    have h1 := h a List.mem_cons_self
    have e : B * ((t.length + 1 : Nat) : Int) = B * t.length + B := by rw [Int.natCast_add, Int.mul_add]; simp
    simp only [sumI, List.length_cons]
    rw [e]; omega
theorem quoL_snoc (t al : Int) (p : List Int) (w : Int) : quoL t al (p ++ [w]) = quoL t al p ++ [(t * w).tdiv al] := by simp [quoL]
theorem remL_snoc (t al : Int) (p : List Int) (w : Int) : remL t al (p ++ [w]) = remL t al p ++ [(t * w).tmod al] := by simp [remL]
theorem sumI_snoc : ∀ (p : List Int) (w : Int), sumI (p ++ [w]) = sumI p + w
  | [], w => by simp [sumI]
  | a :: t, w => by rw [List.cons_append, sumI, sumI, sumI_snoc t w]; omega
theorem prod_bd {t w : Int} (ht : 0 ≤ t ∧ t ≤ 1000000000) (hw : 0 ≤ w ∧ w ≤ 1000000000) : 0 ≤ t * w ∧ t * w ≤ 1000000000000000000 := by
  refine ⟨Int.mul_nonneg ht.1 hw.1, ?_⟩
  have h := Int.mul_le_mul ht.2 hw.2 hw.1 (by omega : (0 : Int) ≤ 1000000000)
  omega
theorem quo_one {t w al : Int} (ht : 0 ≤ t ∧ t ≤ 1000000000) (hw : 0 ≤ w ∧ w ≤ 1000000000) (hal : 0 < al) : wrap64 (t * w) = t * w ∧ wrap64 ((t * w).tdiv al) = (t * w).tdiv al := by
  have h := prod_bd ht hw
  refine ⟨wrapId (by omega), wrapId ?_⟩
  have h1 := Int.tdiv_nonneg h.1 (Int.le_of_lt hal)
  have h2 := Int.tdiv_le_self al h.1
  omega
theorem specShare_l2 (out rs : List Int) (n : Int) (R : List Int) (hl : out.length = rs.length) (hrl : rs.length ≤ 1048576) : ∀ (rest pre : List Int) (i b : Nat), rs = pre ++ rest → i = pre.length → b < i →
    Ev (fun k => spec_l2Share.l1 k (inc out (bestL rs rest i b)) (rs.set (bestL rs rest i b) (-1)) (wrap64 (n - 1))) R → Ev (fun k => spec_l2Share.l2 k out rs n (b : Int) (i : Int)) R := by
  intro rest
  induction rest with
  | nil =>
    intro pre i b h hi hb next
    have hl2 : rs.length = i := by rw [h, hi]; simp
    refine evSucc ?_
    simp only [spec_l2Share.l2, rd_nat]
    refine evNeg (by omega) ?_
    refine evPos (by omega) ?_
    refine evPos (by omega) ?_
    refine evPos (by omega) ?_
    rw [bestL, inc] at next
    rw [Int.toNat_natCast]
    exact next
  | cons a t ih =>
    intro pre i b h hi hb next
    have hl2 : rs.length = i + (t.length + 1) := by rw [h, hi]; simp
    have ha : rdN rs i = a := by subst h hi; simp [rdN]
    refine evSucc ?_
    simp only [spec_l2Share.l2, rd_nat]
    refine evPos (by omega) ?_
    refine evPos (by omega) ?_
    refine evPos (by omega) ?_
    refine evPos (by omega) ?_
    have e : wrap64 ((i : Int) + 1) = ((i + 1 : Nat) : Int) := by rw [wrapId (by omega)]; omega
    rw [e, ha]
    rw [bestL] at next
    by_cases c : rdN rs b < a
    · rw [if_pos c] at next
      refine evPos (by omega) ?_
      exact ih (pre ++ [a]) (i + 1) i (snoc h) (by rw [hi]; simp) (by omega) next
    · rw [if_neg c] at next
      refine evNeg (by omega) ?_
      exact ih (pre ++ [a]) (i + 1) b (snoc h) (by rw [hi]; simp) (by omega) next
theorem specShare_l1 : ∀ (n : Nat) (out rs : List Int), out.length = rs.length → 0 < rs.length → rs.length ≤ 1048576 → n ≤ 1048576 → Ev (fun k => spec_l2Share.l1 k out rs (n : Int)) (giveS n out rs)
  | 0, out, rs, _, _, _, _ => by
    refine evSucc ?_
    simp only [spec_l2Share.l1]
    exact evNeg (by omega) (evSome rfl)
  | n + 1, out, rs, hl, hp, hr, hn => by
    refine evSucc ?_
    simp only [spec_l2Share.l1]
    refine evPos (by omega) ?_
    have ih := specShare_l1 n (inc out (best rs)) (rs.set (best rs) (-1)) (by rw [inc_length, List.length_set]; exact hl) (by rw [List.length_set]; exact hp) (by rw [List.length_set]; exact hr) (by omega)
    have e : wrap64 (((n + 1 : Nat) : Int) - 1) = (n : Int) := by rw [wrapId (by omega)]; omega
    cases rs with
    | nil => simp at hp
    | cons a t =>
      refine specShare_l2 out (a :: t) ((n + 1 : Nat) : Int) _ hl hr t [a] 1 0 rfl rfl (by omega) ?_
      rw [e]
      exact ih
theorem specShare_l0 {t al : Int} (ht : 0 ≤ t ∧ t ≤ 1000000000) (ws : List Int) (hw : ∀ w ∈ ws, 0 ≤ w ∧ w ≤ 1000000000) (hal : 0 < al) (hn : ws.length ≤ 1048576) (R : List Int) (next : Ev (fun k => spec_l2Share.l1 k (quoL t al ws) (remL t al ws) (wrap64 (t - sumI (quoL t al ws)))) R) :
    ∀ (rest pre : List Int) (i : Int), ws = pre ++ rest → i = pre.length → Ev (fun k => spec_l2Share.l0 k t ws al (quoL t al pre) (remL t al pre) (wrap64 (t - sumI (quoL t al pre))) i) R := by
  intro rest
  induction rest with
  | nil =>
    intro pre i h hi
    have hl := len_nil h
    have hx : ws = pre := by simpa using h
    refine evSucc ?_
    simp only [spec_l2Share.l0]
    refine evNeg (by omega) ?_
    rw [← hx]
    exact next
  | cons a tl ih =>
    intro pre i h hi
    have hl := len_cons h
    have hw1 := hw a (by rw [h]; simp)
    obtain ⟨e1, e2⟩ := quo_one ht hw1 hal
    have hq := quoL_length t al pre
    have hr := remL_length t al pre
    have hrd : rd (quoL t al pre ++ [(t * a).tdiv al]) i = (t * a).tdiv al := rd_at (pre := quoL t al pre) (t := []) rfl (by rw [hq]; exact hi)
    refine evSucc ?_
    simp only [spec_l2Share.l0, rd_at h hi, e1, e2, Option.bind_some, hrd]
    refine evPos (by omega) ?_
    refine evPos (by omega) ?_
    refine evNeg (by omega) ?_
    refine evPos (by omega) ?_
    refine evPos (by omega) ?_
    refine evPos (by rw [List.length_append, List.length_singleton]; omega) ?_
    have ih2 := ih (pre ++ [a]) (i + 1) (snoc h) (by rw [len_snoc]; omega)
    rw [quoL_snoc, remL_snoc, sumI_snoc] at ih2
    rw [wrap_sub_l, wrapId (x := i + 1) (by omega), show t - sumI (quoL t al pre) - (t * a).tdiv al = t - (sumI (quoL t al pre) + (t * a).tdiv al) from by omega]
    exact ih2
theorem specShare_ev {t : Int} (ht : 0 ≤ t ∧ t ≤ 1000000000) (ws : List Int) (hw : ∀ w ∈ ws, 0 ≤ w ∧ w ≤ 1000000000) (hs : 0 < sumI ws) (hn : ws.length ≤ 1048576) : Ev (fun k => spec_l2Share.f k t ws) (shareA t ws) := by
  have hw0 : ∀ w ∈ ws, 0 ≤ w := fun w q => (hw w q).1
  have hb := left_bd ht.1 hw0 hs
  have hle := sumI_le ws 1000000000 (fun w q => (hw w q).2)
  have hsw : sumWI 0 ws = sumI ws := by rw [sumWI_eq ws 0 hw0 (by omega) (by omega)]; omega
  have hp : 0 < ws.length := by
    cases ws with
    | nil => simp [sumI] at hs
    | cons a b => simp
  simp only [spec_l2Share.f]
  refine evBind (specL2Sum_ev ws hn) ?_
  rw [hsw]
  have h1 := specShare_l1 (t - sumI (quoL t (sumI ws) ws)).toNat (quoL t (sumI ws) ws) (remL t (sumI ws) ws) (by rw [quoL_length, remL_length]) (by rw [remL_length]; exact hp) (by rw [remL_length]; exact hn) (by omega)
  have h0 := specShare_l0 ht ws hw hs hn (shareA t ws) (by
    rw [wrapId (x := t - sumI (quoL t (sumI ws) ws)) (by omega)]
    rw [Int.toNat_of_nonneg hb.1] at h1
    exact h1) ws [] 0 rfl rfl
  have e : wrap64 (t - sumI (quoL t (sumI ws) [])) = t := by
    rw [show sumI (quoL t (sumI ws) []) = 0 from rfl]
    exact (congrArg wrap64 (by omega)).trans (wrapId (by omega))
  rw [e] at h0
  exact h0

theorem l2Amount_eq (a : Int) : spec_l2Amount.f a = some (decide (-1000000000 ≤ a ∧ a ≤ 1000000000)) := by
  unfold spec_l2Amount.f; rw [l1In_eq]; rfl

def eqA (t n : Int) : List Int × Bool := if (1 ≤ n ∧ n ≤ 20) ∧ (0 ≤ t ∧ t ≤ 1000000000) then (shareA t (List.replicate n.toNat 1), true) else ([], false)
theorem sumI_ones : ∀ n : Nat, sumI (List.replicate n 1) = n
  | 0 => rfl
  | n + 1 => by rw [List.replicate_succ, sumI, sumI_ones n]; omega
theorem eqA_yes {t n : Int} (h : 1 ≤ n ∧ n ≤ 20) (ht : 0 ≤ t ∧ t ≤ 1000000000) : eqA t n = (shareA t (List.replicate n.toNat 1), true) := if_pos ⟨h, ht⟩
theorem eqA_no {t n : Int} (h : ¬ ((1 ≤ n ∧ n ≤ 20) ∧ (0 ≤ t ∧ t ≤ 1000000000))) : eqA t n = ([], false) := if_neg h
theorem eqA_len (t n : Int) : (eqA t n).1.length ≤ 20 := by
  unfold eqA
  split
  · rename_i h
    rw [shareA_length, List.length_replicate]; omega
  · exact Nat.zero_le _
theorem mul_small : ∀ n : Fin 21, bits_Mul.f 1 (n.val : Int) = some (0, (n.val : Int)) := by decide +kernel
theorem mulOne {n : Int} (h : 1 ≤ n ∧ n ≤ 20) : bits_Mul.f 1 n = some (0, n) := by
  have h1 := mul_small ⟨n.toNat, by omega⟩
  rw [show ((⟨n.toNat, by omega⟩ : Fin 21).val : Int) = n from by show ((n.toNat : Nat) : Int) = n; omega] at h1
  exact h1
theorem specEq_l0 (t : Int) (n : Nat) (hn : 1 ≤ n ∧ n ≤ 20) : ∀ (d m : Nat), m + d = n → Ev (fun k => spec_EqualInstallments.l0 k t (n : Int) (List.replicate m 1) (m : Int)) (eqA t n) := by
  intro d
  induction d with
  | zero =>
    intro m hm
    refine evSucc ?_
    simp only [spec_EqualInstallments.l0]
    refine evNeg (by omega) ?_
    obtain rfl : m = n := by omega
    have hs : Ev (fun k => spec_ShareAmount.f k t (List.replicate m 1)) (eqA t m) := by
      simp only [spec_ShareAmount.f, l2Amount_eq, Option.bind_some]
      by_cases ht : 0 ≤ t ∧ t ≤ 1000000000
      · refine evPos (decide_eq_true (show -1000000000 ≤ t ∧ t ≤ 1000000000 by omega)) ?_
        refine evNeg (by omega) ?_
        simp only [l1In_eq, List.length_replicate, Option.bind_some]
        refine evSucc ?_
        simp only [spec_ShareAmount.j0]
        refine evNeg (by rw [decide_eq_true (show 1 ≤ (m : Int) ∧ (m : Int) ≤ 20 by omega)]; simp) ?_
        have L : ∀ (e j : Nat), j + e = m → Ev (fun k => spec_ShareAmount.l0 k t (List.replicate m 1) (j : Int)) (eqA t m) := by
          intro e
          induction e with
          | zero =>
            intro j hj
            refine evSucc ?_
            simp only [spec_ShareAmount.l0, List.length_replicate]
            refine evNeg (by omega) ?_
            refine evBind (specL2Sum_ev _ (by rw [List.length_replicate]; omega)) ?_
            have hsw : sumWI 0 (List.replicate m (1 : Int)) = m := by
              rw [sumWI_eq _ 0 (fun x hx => by rw [List.eq_of_mem_replicate hx]; decide) (by omega) (by rw [sumI_ones]; omega), sumI_ones]; omega
            rw [hsw]
            refine evNeg (by omega) ?_
            refine evBind (specShare_ev ht _ (fun x hx => by rw [List.eq_of_mem_replicate hx]; decide) (by rw [sumI_ones]; omega) (by rw [List.length_replicate]; omega)) ?_
            refine evSome ?_
            rw [eqA_yes (by omega) ht, Int.toNat_natCast]
          | succ e ih2 =>
            intro j hj
            refine evSucc ?_
            simp only [spec_ShareAmount.l0, List.length_replicate]
            refine evPos (by omega) ?_
            refine evPos (by omega) ?_
            have hr : rd (List.replicate m (1 : Int)) (j : Int) = 1 := by
              rw [rd, Int.toNat_natCast, List.getD_eq_getElem?_getD, List.getElem?_replicate, if_pos (by omega)]; rfl
            simp only [hr, l1In_eq, Option.bind_some]
            refine evPos (by decide) ?_
            have := ih2 (j + 1) (by omega)
            rw [wrapId (by omega)]
            exact this
        exact L m 0 (by omega)
      · by_cases hb : -1000000000 ≤ t ∧ t ≤ 1000000000
        · refine evPos (decide_eq_true (show -1000000000 ≤ t ∧ t ≤ 1000000000 by omega)) ?_
          refine evPos (by omega) ?_
          refine evSucc ?_
          simp only [spec_ShareAmount.j0]
          refine evPos (by trivial) (evSome ?_)
          rw [eqA_no (fun q => ht q.2)]
        · refine evNeg (by rw [decide_eq_false hb]; simp) ?_
          refine evSucc ?_
          simp only [spec_ShareAmount.j0]
          refine evPos (by trivial) (evSome ?_)
          rw [eqA_no (fun q => ht q.2)]
    refine evBind hs ?_
    exact evSome rfl
  | succ d ih =>
    intro m hm
    refine evSucc ?_
    simp only [spec_EqualInstallments.l0, List.length_replicate]
    refine evPos (by omega) ?_
    refine evPos (by omega) ?_
    have h1 := ih (m + 1) (by omega)
    rw [wrapId (by omega)]
    rw [List.replicate_succ'] at h1
    exact h1
theorem specEq_ev (t n : Int) : Ev (fun k => spec_EqualInstallments.f k t n) (eqA t n) := by
  simp only [spec_EqualInstallments.f, l1In_eq, Option.bind_some]
  by_cases h : 1 ≤ n ∧ n ≤ 20
  · refine evPos (by exact decide_eq_true h) ?_
    obtain ⟨m, rfl⟩ := Int.eq_ofNat_of_zero_le (show 0 ≤ n by omega)
    exact specEq_l0 t m (by omega) m 0 (by omega)
  · refine evNeg (by rw [decide_eq_false h]; simp) (evSome ?_)
    rw [eqA_no (fun q => h q.1)]
end Go.Proofs.Ytlmdghcpcohamaa.Pure
