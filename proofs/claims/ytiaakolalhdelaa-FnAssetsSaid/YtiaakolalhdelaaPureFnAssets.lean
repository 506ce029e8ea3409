/- The plain law of FnAssets: the printed functions that it uses answer as plain Lean functions do; what holds of selected and of stressed assets. No other condition. -/
import Derived.Test.YtiaakolalhdelaaPL17Ax0
import Derived.Test.YtiaakolalhdelaaPL17Ax1
import Derived.Test.YtiaakolalhdelaaPL17Ax2
import Derived.Test.YtiaakolalhdelaaPL17Ax3
import Derived.Test.YtiaakolalhdelaaPL17Ax4
import Derived.Test.YtiaakolalhdelaaPL17Ax6
import Derived.Test.YtiaakolalhdelaaEvKit
import Derived.Test.YtiaakolalhdelaaKReads
namespace Go.Proofs.Ytiaakolalhdelaa.Pure
open Go.RowKit Go.Proofs.YtiaakolalhdelaaW.PrintWords Go.Proofs.YtiaakolalhdelaaW.PrintLast Go.Proofs.YtiaakolalhdelaaW.PrintMore Go.Proofs.Ytiaakolalhdelaa.PL17A Go.Proofs.Ytiaakolalhdelaa.EvKit
set_option linter.unusedVariables false
set_option linter.unusedSimpArgs false

theorem rd_T51_at {xs pre t : List S51} {a : S51} (h : xs = pre ++ a :: t) {i : Int} (hi : i = pre.length) : rd_T51 xs i = a := getD_at h hi


theorem vInts_l0 (xs : List Int) (hn : xs.length ≤ 9223372036854775806) : ∀ (rest pre : List Int) (i : Int), xs = pre ++ rest → i = pre.length → Ev (fun k => laws_vInts.l0 k xs xs i) true := by
  intro rest
  induction rest with
  | nil =>
    intro pre i h hi
    have hl := len_nil h
    refine evSucc ?_
    simp only [laws_vInts.l0]
    refine evNeg (by omega) ?_
    exact evSome rfl
  | cons a t ih =>
    intro pre i h hi
    have hl := len_cons h
    refine evSucc ?_
    simp only [laws_vInts.l0]
    refine evPos (by omega) ?_
    refine evPos (by omega) ?_
    refine evPos (by omega) ?_
    refine evPos (by trivial) ?_
    exact ih (pre ++ [a]) _ (snoc h) (by rw [wrapId (by omega), len_snoc]; omega)
theorem vInts_ev (xs : List Int) (hn : xs.length ≤ 9223372036854775806) : Ev (fun k => laws_vInts.f k xs xs) true := by
  simp only [laws_vInts.f]
  exact evPos (by trivial) (vInts_l0 xs hn xs [] 0 rfl rfl)

theorem within_eq (a b c : Int) : impl_within.f a b c = some (decide (b ≤ a ∧ a ≤ c)) := by
  unfold impl_within.f
  by_cases h : a ≥ b
  · rw [if_pos h]; exact congrArg some (decide_eq_decide.mpr ⟨fun g => ⟨h, g⟩, fun g => g.2⟩)
  · rw [if_neg h]; exact congrArg some (decide_eq_false (fun g => h g.1)).symm
theorem l1In_eq (a b c : Int) : spec_l1In.f a b c = some (decide (b ≤ a ∧ a ≤ c)) := by
  unfold spec_l1In.f
  by_cases h : a ≥ b
  · rw [if_pos h]; exact congrArg some (decide_eq_decide.mpr ⟨fun g => ⟨h, g⟩, fun g => g.2⟩)
  · rw [if_neg h]; exact congrArg some (decide_eq_false (fun g => h g.1)).symm

theorem isAmount_eq (a : Int) : impl_isAmount.f a = some (decide (-1000000000 ≤ a ∧ a ≤ 1000000000)) := by
  unfold impl_isAmount.f; rw [within_eq]; rfl

def okA (a : S51) : Prop := (0 ≤ a.f0 ∧ a.f0 ≤ 9) ∧ (0 ≤ a.f1 ∧ a.f1 ≤ 1000000000) ∧ (0 ≤ a.f2 ∧ a.f2 ≤ 1000)
instance (a : S51) : Decidable (okA a) := by unfold okA; infer_instance
def sumA : List S51 → Int
  | [] => 0
  | a :: t => a.f1 + sumA t
theorem sumA_snoc (p : List S51) (a : S51) : sumA (p ++ [a]) = sumA p + a.f1 := by
  induction p with
  | nil => simp [sumA]
  | cons b t ih => simp only [List.cons_append, sumA, ih]; omega
theorem sumA_bd (p : List S51) (h : ∀ a ∈ p, okA a) : 0 ≤ sumA p ∧ sumA p ≤ 1000000000 * p.length := by
  induction p with
  | nil => simp [sumA]
  | cons b t ih =>
    have h1 := ih (fun a ha => h a (List.mem_cons_of_mem _ ha))
    have h2 := (h b List.mem_cons_self).2.1
    simp only [sumA, List.length_cons]
    omega
def goodA (xs : List S51) : Bool := decide ((∀ a ∈ xs, okA a) ∧ xs.length ≤ 20 ∧ sumA xs ≤ 1000000000)
theorem okA_snoc {pre : List S51} {a : S51} (hok : ∀ b ∈ pre, okA b) (ha : okA a) : ∀ b ∈ pre ++ [a], okA b := by
  intro b hb
  rcases List.mem_append.mp hb with g | g
  · exact hok b g
  · rw [List.mem_singleton.mp g]; exact ha
theorem implValid_l0 (xs : List S51) (hn : xs.length ≤ 1048576) : ∀ (rest pre : List S51) (i : Int), xs = pre ++ rest → i = pre.length → (∀ a ∈ pre, okA a) → Ev (fun k => impl_IsValidAssets.l0 k xs (sumA pre) xs (xs.length : Int) i) (goodA xs) := by
  intro rest
  induction rest with
  | nil =>
    intro pre i h hi hok
    have hl := len_nil h
    have hx : xs = pre := by simpa using h
    have hb := sumA_bd pre hok
    refine evSucc ?_
    simp only [impl_IsValidAssets.l0, isAmount_eq, Option.bind_some]
    refine evNeg (by omega) ?_
    by_cases c : xs.length ≤ 20
    · refine evPos (by omega) ?_
      refine evSome ?_
      unfold goodA
      rw [decide_eq_decide, hx]
      exact ⟨fun g => ⟨hok, by rw [← hx]; exact c, g.2⟩, fun g => ⟨by omega, g.2.2⟩⟩
    · refine evNeg (by omega) ?_
      exact evSome (decide_eq_false (fun g => c g.2.1)).symm
  | cons a t ih =>
    intro pre i h hi hok
    have hl := len_cons h
    have hb := sumA_bd pre hok
    have ha : a ∈ xs := by rw [h]; simp
    refine evSucc ?_
    simp only [impl_IsValidAssets.l0, within_eq, Option.bind_some, decide_eq_true_eq, rd_T51_at h hi]
    refine evPos (by omega) ?_
    refine evPos (by omega) ?_
    refine evPos (by omega) ?_
    have bad : ¬ okA a → false = goodA xs := fun n => (decide_eq_false (fun g => n (g.1 a ha))).symm
    refine evIte (fun c1 => ?_) (fun c1 => evSome (bad (fun g => c1 g.1)))
    refine evIte (fun c2 => ?_) (fun c2 => evSome (bad (fun g => c2 g.2.1)))
    refine evIte (fun c3 => ?_) (fun c3 => evSome (bad (fun g => c3 g.2.2)))
    have e : wrap64 (sumA pre + a.f1) = sumA (pre ++ [a]) := by rw [sumA_snoc, wrapId (by omega)]
    rw [e]
    exact ih (pre ++ [a]) _ (snoc h) (by rw [wrapId (by omega), len_snoc]; omega) (okA_snoc hok ⟨c1, c2, c3⟩)
theorem implValid_ev (xs : List S51) (hn : xs.length ≤ 1048576) : Ev (fun k => impl_IsValidAssets.f k xs) (goodA xs) := by
  simp only [impl_IsValidAssets.f]
  exact implValid_l0 xs hn xs [] 0 rfl rfl (by simp)
theorem specGood_l0 (xs : List S51) (hn : xs.length ≤ 1048576) : ∀ (rest pre : List S51) (i : Int), xs = pre ++ rest → i = pre.length → (∀ a ∈ pre, okA a) → Ev (fun k => spec_l17Good.l0 k xs (sumA pre) i) (goodA xs) := by
  intro rest
  induction rest with
  | nil =>
    intro pre i h hi hok
    have hl := len_nil h
    have hx : xs = pre := by simpa using h
    refine evSucc ?_
    simp only [spec_l17Good.l0]
    refine evNeg (by omega) ?_
    refine evSucc ?_
    simp only [spec_l17Good.j1]
    refine evNeg (by simp) ?_
    by_cases c : xs.length ≤ 20
    · refine evPos (by omega) ?_
      refine evSome ?_
      unfold goodA
      rw [decide_eq_decide, hx]
      exact ⟨fun g => ⟨hok, by rw [← hx]; exact c, g⟩, fun g => g.2.2⟩
    · refine evNeg (by omega) ?_
      exact evSome (decide_eq_false (fun g => c g.2.1)).symm
  | cons a t ih =>
    intro pre i h hi hok
    have hl := len_cons h
    have hb := sumA_bd pre hok
    have ha : a ∈ xs := by rw [h]; simp
    refine evSucc ?_
    simp only [spec_l17Good.l0]
    refine evPos (by omega) ?_
    refine evSucc ?_
    simp only [spec_l17Good.j1, l1In_eq, Option.bind_some, decide_eq_true_eq, rd_T51_at h hi]
    refine evIte (fun c0 => ?_) (fun c0 => ?_)
    · refine evPos (by omega) ?_
      refine evPos (by omega) ?_
      have bad : ¬ okA a → false = goodA xs := fun n => (decide_eq_false (fun g => n (g.1 a ha))).symm
      refine evIte (fun c1 => ?_) (fun c1 => evSome (bad (fun g => c1 g.1)))
      refine evIte (fun c2 => ?_) (fun c2 => evSome (bad (fun g => c2 g.2.1)))
      refine evIte (fun c3 => ?_) (fun c3 => evSome (bad (fun g => c3 g.2.2)))
      have e : wrap64 (sumA pre + a.f1) = sumA (pre ++ [a]) := by rw [sumA_snoc, wrapId (by omega)]
      rw [e]
      exact ih (pre ++ [a]) _ (snoc h) (by rw [wrapId (by omega), len_snoc]; omega) (okA_snoc hok ⟨c1, c2, c3⟩)
    · refine evNeg (by omega) ?_
      exact evSome (decide_eq_false (fun g => by omega)).symm
theorem specGood_ev (xs : List S51) (hn : xs.length ≤ 1048576) : Ev (fun k => spec_l17Good.f k xs) (goodA xs) := by
  simp only [spec_l17Good.f]
  exact specGood_l0 xs hn xs [] 0 rfl rfl (by simp)

def valW (a : S51) : Int := wrap64 (Int.tdiv (wrap64 (a.f1 * (wrap64 (1000 - a.f2)))) 1000)
theorem implValue_eq (a : S51) : impl_valueOf.f a.f0 a.f1 a.f2 = some (valW a) := rfl
theorem specValue_eq (a : S51) : spec_l17Value.f a.f0 a.f1 a.f2 = some (valW a) := rfl

def sumV : Int → List S51 → Int
  | s, [] => s
  | s, a :: t => sumV (wrap64 (s + valW a)) t
def collA (xs : List S51) : Int × Bool := if goodA xs = true then (sumV 0 xs, true) else (0, false)
theorem implCollateral_l0 (xs : List S51) (hn : xs.length ≤ 1048576) : ∀ (rest pre : List S51) (s i : Int), xs = pre ++ rest → i = pre.length → Ev (fun k => impl_CollateralValue.l0 k s xs (xs.length : Int) i) (sumV s rest, true) := by
  intro rest
  induction rest with
  | nil =>
    intro pre s i h hi
    have hl := len_nil h
    refine evSucc ?_
    simp only [impl_CollateralValue.l0]
    refine evNeg (by omega) ?_
    exact evSome rfl
  | cons a t ih =>
    intro pre s i h hi
    have hl := len_cons h
    refine evSucc ?_
    simp only [impl_CollateralValue.l0, rd_T51_at h hi, implValue_eq, Option.bind_some]
    refine evPos (by omega) ?_
    refine evPos (by omega) ?_
    refine evPos (by omega) ?_
    exact ih (pre ++ [a]) _ _ (snoc h) (by rw [wrapId (by omega), len_snoc]; omega)
theorem implCollateral_ev (xs : List S51) (hn : xs.length ≤ 1048576) : Ev (fun k => impl_CollateralValue.f k xs) (collA xs) := by
  simp only [impl_CollateralValue.f]
  refine evBind (implValid_ev xs hn) ?_
  refine evIte (fun c => ?_) (fun c => ?_)
  · refine evEq (implCollateral_l0 xs hn xs [] 0 0 rfl rfl) ?_
    unfold collA; rw [if_pos c]
  · exact evSome (by unfold collA; rw [if_neg c])

theorem i64_and1 (x : Int) (h0 : 0 ≤ x) (h1 : x < 4611686018427387904) : Go.bits .and .i64 x 1 = x % 2 :=
  bits_mask .i64 62 (by decide) (fun n a b => by rw [IntKind.wrap_i64]; omega) 1 (by decide) x h0 h1
theorem shr_nat (v i : Nat) (hi : i ≤ 62) : shr .i64 (v : Int) (i : Int) = ((v / 2 ^ i : Nat) : Int) := by
  unfold shr
  rw [show min (i : Int).toNat (IntKind.i64).bits = i from Nat.min_eq_left (by simp [IntKind.bits]; omega)]
  simp
theorem u64_small (x : Int) (h0 : 0 ≤ x) (h1 : x ≤ 9223372036854775807) : IntKind.u64.wrap x = x := by
  simp only [IntKind.wrap, IntKind.bits, IntKind.signed]; simp; omega
theorem bit_at (v i : Nat) (hi : i ≤ 62) (hv : v < 1048576) : Go.bits .and .i64 (shr .i64 (v : Int) (i : Int)) 1 = ((v / 2 ^ i % 2 : Nat) : Int) := by
  rw [shr_nat v i hi]
  have h := Nat.div_le_self v (2 ^ i)
  generalize v / 2 ^ i = q at h ⊢
  rw [i64_and1 _ (by omega) (by omega)]
  omega
theorem div_pow_succ (v i : Nat) : v / 2 ^ (i + 1) = v / 2 ^ i / 2 := by rw [Nat.pow_succ, Nat.div_div_eq_div_mul]
/-- The places of v's bits that are 1, counted from i; n places at most. -/
def blF : Nat → Nat → Int → List Int
  | 0, _, _ => []
  | n + 1, v, i => (if v % 2 = 1 then [i] else []) ++ blF n (v / 2) (i + 1)
theorem blF_zero : ∀ (n : Nat) (i : Int), blF n 0 i = []
  | 0, _ => rfl
  | n + 1, i => by simp [blF, blF_zero n]
theorem blF_length : ∀ (n v : Nat) (i : Int), (blF n v i).length ≤ n
  | 0, _, _ => by simp [blF]
  | n + 1, v, i => by
    have := blF_length n (v / 2) (i + 1)
    unfold blF
    split <;> simp <;> omega

/-- The value of the assets of a set, summed as the code sums. -/
def sumSel : Int → List S51 → Nat → Int
  | s, [], _ => s
  | s, a :: t, v => sumSel (if v % 2 = 1 then wrap64 (s + valW a) else s) t (v / 2)
def pc (n v : Nat) : Nat := (blF n v 0).length
theorem blF_len_any : ∀ (n v : Nat) (i j : Int), (blF n v i).length = (blF n v j).length
  | 0, _, _, _ => rfl
  | n + 1, v, i, j => by
    have := blF_len_any n (v / 2) (i + 1) (j + 1)
    unfold blF; split <;> simp [this]
/-- The choice between the best set so far and another one. b < 0: none so far. -/
def better (n : Nat) (need : Int) (b l : Int) (s : Nat) (sum : Int) : Bool :=
  decide (need ≤ sum) && (decide (b < 0) || decide (sum < l) || (decide (sum = l) && decide (pc n s < pc n b.toNat)))
def pick (xs : List S51) (need : Int) : Nat → Nat → Int → Int → Int
  | 0, _, b, _ => b
  | r + 1, s, b, l => if better xs.length need b l s (sumSel 0 xs s) = true then pick xs need r (s + 1) s (sumSel 0 xs s) else pick xs need r (s + 1) b l
def selA (xs : List S51) (need : Int) : List Int × Bool :=
  if goodA xs = true ∧ xs.length ≤ 10 ∧ (0 ≤ need ∧ need ≤ 1000000000) then
    (if pick xs need (2 ^ xs.length) 0 (-1) 0 < 0 then ([], false) else (blF xs.length (pick xs need (2 ^ xs.length) 0 (-1) 0).toNat 0, true))
  else ([], false)
theorem shl_one (n : Nat) (hn : n ≤ 20) : shl .i64 1 (n : Int) = ((2 ^ n : Nat) : Int) := by
  unfold shl
  rw [show min (n : Int).toNat (IntKind.i64).bits = n from Nat.min_eq_left (by simp [IntKind.bits]; omega)]
  have h20 : (2 : Nat) ^ n ≤ 2 ^ 20 := Nat.pow_le_pow_right (by decide) hn
  have h20' : (2 : Nat) ^ 20 = 1048576 := by decide
  have hp : ((2 ^ n : Nat) : Int) = (2 : Int) ^ n := by simp
  rw [IntKind.wrap_i64, Int.one_mul, ← hp]
  generalize (2 : Nat) ^ n = q at *
  omega
/-- The spec's inner loop: what follows it, in full, is the hypothesis. -/
def endSel (n : Nat) (b : Int) : List Int × Bool := if b < 0 then ([], false) else (blF n b.toNat 0, true)
theorem onesCount_all : ∀ v : Fin 1024, bits_OnesCount64.f (v.val : Int) = some (pc 10 v.val : Int) := by decide +kernel
theorem pc_any : ∀ (n m v : Nat) (i : Int), v < 2 ^ n → n ≤ m → (blF n v i) = (blF m v i)
  | 0, m, v, i, h, _ => by
    have : v = 0 := by simpa using h
    subst this; rw [blF_zero, blF_zero]
  | n + 1, 0, v, i, h, hm => by omega
  | n + 1, m + 1, v, i, h, hm => by
    have hp : (2 : Nat) ^ (n + 1) = 2 ^ n * 2 := Nat.pow_succ 2 n
    rw [blF, blF, pc_any n m (v / 2) (i + 1) (by omega) (by omega)]
theorem onesCount_ev (n v : Nat) (hn : n ≤ 10) (hv : v < 2 ^ n) : bits_OnesCount.f (IntKind.u64.wrap (v : Int)) = some (pc n v : Int) := by
  have h10 : (2 : Nat) ^ n ≤ 2 ^ 10 := Nat.pow_le_pow_right (by decide) hn
  have h10' : (2 : Nat) ^ 10 = 1024 := by decide
  rw [u64_small _ (by omega) (by omega)]
  unfold bits_OnesCount.f
  rw [onesCount_all ⟨v, by omega⟩]
  unfold pc
  rw [pc_any n 10 v 0 hv hn]
  rfl
theorem selA_length (xs : List S51) (need : Int) : (selA xs need).1.length ≤ 10 := by
  unfold selA
  split
  · rename_i h
    split
    · simp
    · exact Nat.le_trans (blF_length _ _ _) h.2.1
  · simp

/-- The values at the places of a list, summed as the code sums. -/
def sumI (xs : List S51) : Int → List Int → Int
  | s, [] => s
  | s, k :: t => sumI xs (wrap64 (s + valW (rd_T51 xs k))) t
theorem sumI_eq (xs : List S51) : ∀ (rest pre : List S51) (s : Int) (v : Nat), xs = pre ++ rest → sumI xs s (blF rest.length v pre.length) = sumSel s rest v
  | [], pre, s, v, h => rfl
  | a :: t, pre, s, v, h => by
    rw [List.length_cons, blF, sumSel]
    by_cases c : v % 2 = 1
    · rw [if_pos c, if_pos c, List.singleton_append, sumI, rd_T51_at h rfl]
      have e := sumI_eq xs t (pre ++ [a]) (wrap64 (s + valW a)) (v / 2) (snoc h)
      rw [len_snoc] at e
      exact e
    · rw [if_neg c, if_neg c, List.nil_append]
      have e := sumI_eq xs t (pre ++ [a]) s (v / 2) (snoc h)
      rw [len_snoc] at e
      exact e
theorem blF_range : ∀ (n v : Nat) (i : Int), ∀ k ∈ blF n v i, i ≤ k ∧ k < i + n
  | 0, v, i, k, h => by simp [blF] at h
  | n + 1, v, i, k, h => by
    rw [blF, List.mem_append] at h
    rcases h with h | h
    · split at h
      · rw [List.mem_singleton.mp h]; omega
      · simp at h
    · have := blF_range n (v / 2) (i + 1) k h
      push_cast; omega
theorem sel_end {xs : List S51} {need : Int} (h : goodA xs = true ∧ xs.length ≤ 10 ∧ (0 ≤ need ∧ need ≤ 1000000000)) : selA xs need = endSel xs.length (pick xs need (2 ^ xs.length) 0 (-1) 0) := by
  unfold selA; rw [if_pos h]; rfl
theorem pick_keep {xs : List S51} {need b l : Int} {s r : Nat} (h : better xs.length need b l s (sumSel 0 xs s) = false) : pick xs need (r + 1) s b l = pick xs need r (s + 1) b l := by rw [pick, if_neg (by rw [h]; exact Bool.false_ne_true)]
theorem pick_take {xs : List S51} {need b l : Int} {s r : Nat} (h : better xs.length need b l s (sumSel 0 xs s) = true) : pick xs need (r + 1) s b l = pick xs need r (s + 1) s (sumSel 0 xs s) := by rw [pick, if_pos h]
theorem better_no {n : Nat} {need b l sum : Int} {s : Nat} (h : ¬ (need ≤ sum ∧ (b < 0 ∨ sum < l ∨ (sum = l ∧ pc n s < pc n b.toNat)))) : better n need b l s sum = false := by
  cases q : better n need b l s sum with
  | false => rfl
  | true =>
    unfold better at q
    simp only [Bool.and_eq_true, Bool.or_eq_true, decide_eq_true_eq] at q
    exact absurd ⟨q.1, by rcases q.2 with (q2 | q2) | q2 <;> simp [q2]⟩ h
theorem better_yes {n : Nat} {need b l sum : Int} {s : Nat} (h : need ≤ sum ∧ (b < 0 ∨ sum < l ∨ (sum = l ∧ pc n s < pc n b.toNat))) : better n need b l s sum = true := by
  unfold better
  simp only [Bool.and_eq_true, Bool.or_eq_true, decide_eq_true_eq]
  exact ⟨h.1, by rcases h.2 with q | q | q <;> simp [q]⟩

def shOk (x : Int) : Bool := decide (0 ≤ x ∧ x ≤ 1000)
def strW (sh : List Int) (a : S51) : S51 := ⟨a.f0, wrap64 (Int.tdiv (wrap64 (a.f1 * (wrap64 (1000 - (rd sh a.f0))))) 1000), a.f2⟩
def strA (xs : List S51) (sh : List Int) : Int × Bool := if goodA xs = true ∧ sh.length = 10 ∧ sh.all shOk = true then (sumV 0 (xs.map (strW sh)), true) else (0, false)

theorem specStress_l1 (xs : List S51) (sh : List Int) (hn : xs.length ≤ 1048576) (hs : sh.length = 10) (hok : ∀ a ∈ xs, okA a) : ∀ (rest pre : List S51) (s i : Int), xs = pre ++ rest → i = pre.length → Ev (fun k => spec_StressValue.l1 k xs sh s i) (sumV s (rest.map (strW sh)), true) := by
  intro rest
  induction rest with
  | nil =>
    intro pre s i h hi
    have hl := len_nil h
    refine evSucc ?_
    simp only [spec_StressValue.l1]
    refine evNeg (by omega) ?_
    exact evSome rfl
  | cons a t ih =>
    intro pre s i h hi
    have hl := len_cons h
    have ha := hok a (by rw [h]; simp)
    refine evSucc ?_
    simp only [spec_StressValue.l1, rd_T51_at h hi]
    refine evPos (by omega) ?_
    refine evPos (by omega) ?_
    refine evPos (by have := ha.1; omega) ?_
    refine evPos (by have := ha.1; omega) ?_
    refine evBindS (specValue_eq (strW sh a)) ?_
    exact ih (pre ++ [a]) _ _ (snoc h) (by rw [wrapId (by omega), len_snoc]; omega)
theorem specStress_l0 (xs : List S51) (sh : List Int) (hn : xs.length ≤ 1048576) (hs : sh.length = 10) (hg : goodA xs = true) : ∀ (rest pre : List Int) (i : Int), sh = pre ++ rest → i = pre.length → pre.all shOk = true → Ev (fun k => spec_StressValue.l0 k xs sh i) (strA xs sh) := by
  intro rest
  induction rest with
  | nil =>
    intro pre i h hi hp
    have hl := len_nil h
    refine evSucc ?_
    simp only [spec_StressValue.l0]
    refine evNeg (by omega) ?_
    refine evEq (specStress_l1 xs sh hn hs (of_decide_eq_true hg).1 xs [] 0 0 rfl rfl) ?_
    have e : sh = pre := by simpa using h
    unfold strA; rw [if_pos ⟨hg, hs, by rw [e]; exact hp⟩]
  | cons a t ih =>
    intro pre i h hi hp
    have hl := len_cons h
    refine evSucc ?_
    simp only [spec_StressValue.l0, rd_at h hi, l1In_eq, Option.bind_some, decide_eq_true_eq]
    refine evPos (by omega) ?_
    refine evPos (by omega) ?_
    refine evPos (by omega) ?_
    refine evIte (fun c => ?_) (fun c => ?_)
    · exact ih (pre ++ [a]) _ (snoc h) (by rw [wrapId (by omega), len_snoc]; omega) (by rw [List.all_append, hp]; simp [shOk, c])
    · refine evSome ?_
      unfold strA
      rw [if_neg (fun g => c ?_)]
      have := List.all_eq_true.mp g.2.2 a (by rw [h]; simp)
      exact of_decide_eq_true this
theorem specStress_ev (xs : List S51) (sh : List Int) (hn : xs.length ≤ 1048576) : Ev (fun k => spec_StressValue.f k xs sh) (strA xs sh) := by
  simp only [spec_StressValue.f]
  have no : ¬ (goodA xs = true ∧ sh.length = 10 ∧ sh.all shOk = true) → Ev (fun k => spec_StressValue.j0 k xs sh true) (strA xs sh) := fun g => by
    refine evSucc ?_
    simp only [spec_StressValue.j0]
    exact evPos (by trivial) (evSome (by unfold strA; rw [if_neg g]))
  refine evBind (specGood_ev xs hn) ?_
  refine evIte (fun c => ?_) (fun c => no (fun g => c g.1))
  by_cases hs : sh.length = 10
  · have e : ((sh.length : Int) != 10) = false := by rw [bne_eq_false_iff_eq]; omega
    rw [e]
    refine evSucc ?_
    simp only [spec_StressValue.j0]
    refine evNeg Bool.false_ne_true ?_
    exact specStress_l0 xs sh hn hs c sh [] 0 rfl rfl rfl
  · have e : ((sh.length : Int) != 10) = true := by rw [bne_iff_ne]; omega
    rw [e]
    exact no (fun g => hs g.2.1)

theorem part_eq {x h : Int} (hx : 0 ≤ x ∧ x ≤ 1000000000) (hh : 0 ≤ h ∧ h ≤ 1000) : wrap64 (Int.tdiv (wrap64 (x * (wrap64 (1000 - h)))) 1000) = x * (1000 - h) / 1000 ∧ 0 ≤ x * (1000 - h) / 1000 ∧ x * (1000 - h) / 1000 ≤ x := by
  have e1 : wrap64 (1000 - h) = 1000 - h := wrapId (by omega)
  have p0 : 0 ≤ x * (1000 - h) := Int.mul_nonneg hx.1 (by omega)
  have p1 : x * (1000 - h) ≤ x * 1000 := Int.mul_le_mul_of_nonneg_left (by omega) hx.1
  rw [e1]
  generalize x * (1000 - h) = q at p0 p1 ⊢
  rw [wrapId (x := q) (by omega), Int.tdiv_eq_ediv_of_nonneg p0, wrapId (by omega)]
  omega
theorem valW_eq {a : S51} (h : okA a) : valW a = a.f1 * (1000 - a.f2) / 1000 ∧ 0 ≤ valW a ∧ valW a ≤ a.f1 := by
  obtain ⟨e, h1, h2⟩ := part_eq h.2.1 h.2.2
  unfold valW
  rw [e]
  exact ⟨rfl, h1, h2⟩
def totV : List S51 → Int
  | [] => 0
  | a :: t => valW a + totV t
theorem totV_bd : ∀ (xs : List S51), (∀ a ∈ xs, okA a) → 0 ≤ totV xs ∧ totV xs ≤ sumA xs
  | [], _ => by simp [totV, sumA]
  | a :: t, h => by
    have h1 := totV_bd t (fun b hb => h b (List.mem_cons_of_mem _ hb))
    have h2 := valW_eq (h a List.mem_cons_self)
    simp only [totV, sumA]; omega
theorem sumV_eq : ∀ (xs : List S51) (s : Int), (∀ a ∈ xs, okA a) → 0 ≤ s → s + sumA xs ≤ 4000000000000000000 → sumV s xs = s + totV xs
  | [], s, _, _, _ => by simp [sumV, totV]
  | a :: t, s, h, h0, h1 => by
    have ht : ∀ b ∈ t, okA b := fun b hb => h b (List.mem_cons_of_mem _ hb)
    have h2 := valW_eq (h a List.mem_cons_self)
    have h3 := totV_bd t ht
    simp only [sumA] at h1
    rw [sumV, wrapId (by omega), sumV_eq t (s + valW a) ht (by omega) (by omega), totV]; omega
/-- The assets of a set. -/
def selL : List S51 → Nat → List S51
  | [], _ => []
  | a :: t, v => (if v % 2 = 1 then [a] else []) ++ selL t (v / 2)
theorem selL_mem : ∀ (xs : List S51) (v : Nat), ∀ a ∈ selL xs v, a ∈ xs
  | [], v, a, h => by simp [selL] at h
  | b :: t, v, a, h => by
    rw [selL, List.mem_append] at h
    rcases h with h | h
    · split at h
      · rw [List.mem_singleton.mp h]; exact List.mem_cons_self
      · simp at h
    · exact List.mem_cons_of_mem _ (selL_mem t _ a h)
theorem selL_sum : ∀ (xs : List S51) (v : Nat), (∀ a ∈ xs, okA a) → 0 ≤ sumA (selL xs v) ∧ sumA (selL xs v) ≤ sumA xs ∧ (selL xs v).length ≤ xs.length
  | [], v, h => by simp [selL, sumA]
  | b :: t, v, h => by
    have h1 := selL_sum t (v / 2) (fun c hc => h c (List.mem_cons_of_mem _ hc))
    have h2 := (h b List.mem_cons_self).2.1
    rw [selL]
    split
    · simp only [List.singleton_append, sumA, List.length_cons]; omega
    · simp only [List.nil_append, sumA, List.length_cons]; omega
theorem selL_good {xs : List S51} (v : Nat) (h : goodA xs = true) : goodA (selL xs v) = true := by
  have g := of_decide_eq_true h
  have h1 := selL_sum xs v g.1
  exact decide_eq_true ⟨fun a ha => g.1 a (selL_mem xs v a ha), by omega, by omega⟩
theorem sumSel_eq : ∀ (xs : List S51) (v : Nat) (s : Int), (∀ a ∈ xs, okA a) → 0 ≤ s → s + sumA xs ≤ 4000000000000000000 → sumSel s xs v = s + totV (selL xs v)
  | [], v, s, _, _, _ => by simp [sumSel, selL, totV]
  | a :: t, v, s, h, h0, h1 => by
    have ht : ∀ b ∈ t, okA b := fun b hb => h b (List.mem_cons_of_mem _ hb)
    have h2 := valW_eq (h a List.mem_cons_self)
    have h3 := sumA_bd t ht
    simp only [sumA] at h1
    rw [sumSel, selL]
    by_cases c : v % 2 = 1
    · rw [if_pos c, if_pos c, wrapId (by omega), sumSel_eq t (v / 2) (s + valW a) ht (by omega) (by omega), List.singleton_append, totV]; omega
    · rw [if_neg c, if_neg c, sumSel_eq t (v / 2) s ht h0 (by omega), List.nil_append]
theorem blF_sel (xs : List S51) : ∀ (rest pre : List S51) (v : Nat), xs = pre ++ rest → (blF rest.length v pre.length).map (fun k => rd_T51 xs k) = selL rest v
  | [], pre, v, h => by simp [blF, selL]
  | a :: t, pre, v, h => by
    have e := blF_sel xs t (pre ++ [a]) (v / 2) (snoc h)
    rw [len_snoc] at e
    rw [List.length_cons, blF, selL, List.map_append, e]
    split
    · rw [List.map_singleton, rd_T51_at h rfl]
    · rfl
theorem blF_bit : ∀ (n v : Nat) (i : Int), ∀ k ∈ blF n v i, ∃ j : Nat, k = i + j ∧ j < n ∧ v / 2 ^ j % 2 = 1
  | 0, v, i, k, h => by simp [blF] at h
  | n + 1, v, i, k, h => by
    rw [blF, List.mem_append] at h
    rcases h with h | h
    · split at h
      · rename_i c
        exact ⟨0, by rw [List.mem_singleton.mp h]; simp, by omega, by simpa using c⟩
      · simp at h
    · obtain ⟨j, h1, h2, h3⟩ := blF_bit n (v / 2) (i + 1) k h
      exact ⟨j + 1, by rw [h1]; push_cast; omega, by omega, by rw [Nat.pow_succ, Nat.mul_comm, ← Nat.div_div_eq_div_mul]; exact h3⟩
theorem pc_sel (xs : List S51) (v : Nat) : pc xs.length v = (selL xs v).length := by
  rw [← blF_sel xs xs [] v rfl, List.length_map]; rfl
theorem sel_rm : ∀ (xs : List S51) (v j : Nat) (hj : j < xs.length), v / 2 ^ j % 2 = 1 → 2 ^ j ≤ v ∧ totV (selL xs (v - 2 ^ j)) = totV (selL xs v) - valW xs[j] ∧ (selL xs (v - 2 ^ j)).length + 1 = (selL xs v).length
  | [], v, j, hj, h => by simp at hj
  | a :: t, v, 0, hj, h => by
    rw [Nat.pow_zero, Nat.div_one] at h
    have h1 : (v - 1) % 2 = 0 := by omega
    have h2 : (v - 1) / 2 = v / 2 := by omega
    rw [Nat.pow_zero, selL, selL, if_neg (by omega), if_pos h, h2]
    simp only [List.nil_append, List.singleton_append, totV, List.length_cons, List.getElem_cons_zero]
    exact ⟨by omega, by omega, trivial⟩
  | a :: t, v, j + 1, hj, h => by
    have hp : (2 : Nat) ^ (j + 1) = 2 ^ j * 2 := Nat.pow_succ 2 j
    have h' : v / 2 / 2 ^ j % 2 = 1 := by rw [Nat.div_div_eq_div_mul, Nat.mul_comm, ← hp]; exact h
    obtain ⟨i1, i2, i3⟩ := sel_rm t (v / 2) j (by simpa using hj) h'
    have h1 : (v - 2 ^ (j + 1)) % 2 = v % 2 := by omega
    have h2 : (v - 2 ^ (j + 1)) / 2 = v / 2 - 2 ^ j := by omega
    refine ⟨by omega, ?_, ?_⟩
    · rw [selL, selL, h1, h2, List.getElem_cons_succ]
      split
      · simp only [List.singleton_append, totV, i2]; omega
      · simp only [List.nil_append, i2]
    · rw [selL, selL, h1, h2]
      split
      · simp only [List.singleton_append, List.length_cons]; omega
      · simp only [List.nil_append]; exact i3
/-- The choice is the least. -/
theorem pick_best (xs : List S51) (need : Int) : ∀ (r s : Nat) (b l : Int), (b < 0 ∨ (need ≤ l ∧ l = sumSel 0 xs b.toNat)) → (∀ t, t < s → need ≤ sumSel 0 xs t → 0 ≤ b ∧ (l < sumSel 0 xs t ∨ (l = sumSel 0 xs t ∧ pc xs.length b.toNat ≤ pc xs.length t))) →
    (pick xs need r s b l < 0 ∨ need ≤ sumSel 0 xs (pick xs need r s b l).toNat) ∧ (∀ t, t < s + r → need ≤ sumSel 0 xs t → 0 ≤ pick xs need r s b l ∧ (sumSel 0 xs (pick xs need r s b l).toNat < sumSel 0 xs t ∨ (sumSel 0 xs (pick xs need r s b l).toNat = sumSel 0 xs t ∧ pc xs.length (pick xs need r s b l).toNat ≤ pc xs.length t))) := by
  intro r
  induction r with
  | zero =>
    intro s b l h1 h2
    rw [pick]
    refine ⟨?_, ?_⟩
    · rcases h1 with h | ⟨h, e⟩
      · exact .inl h
      · exact .inr (by rw [← e]; exact h)
    · intro t ht hn
      obtain ⟨h3, h4⟩ := h2 t (by omega) hn
      rcases h1 with h | ⟨h, e⟩
      · omega
      · rw [← e]; exact ⟨h3, h4⟩
  | succ r ih =>
    intro s b l h1 h2
    rw [pick]
    by_cases c : better xs.length need b l s (sumSel 0 xs s) = true
    · rw [if_pos c]
      unfold better at c
      simp only [Bool.and_eq_true, Bool.or_eq_true, decide_eq_true_eq] at c
      obtain ⟨c1, c2⟩ := c
      have e := ih (s + 1) (s : Int) (sumSel 0 xs s) (.inr ⟨c1, by rw [Int.toNat_natCast]⟩) (fun t ht hn => by
        refine ⟨by omega, ?_⟩
        rw [Int.toNat_natCast]
        by_cases q : t = s
        · subst q; exact .inr ⟨rfl, Nat.le_refl _⟩
        · obtain ⟨h3, h4⟩ := h2 t (by omega) hn
          rcases c2 with (c2 | c2) | c2
          · omega
          · rcases h4 with h4 | h4 <;> exact .inl (by omega)
          · rcases h4 with h4 | h4
            · exact .inl (by omega)
            · exact .inr ⟨by omega, by omega⟩)
      rw [show s + (r + 1) = s + 1 + r from by omega]
      exact e
    · rw [if_neg c]
      have e := ih (s + 1) b l h1 (fun t ht hn => by
        by_cases q : t = s
        · subst q
          unfold better at c
          simp only [Bool.and_eq_true, Bool.or_eq_true, decide_eq_true_eq, not_and, not_or] at c
          obtain ⟨⟨c1, c2⟩, c3⟩ := c hn
          refine ⟨by omega, ?_⟩
          by_cases q2 : sumSel 0 xs t = l
          · exact .inr ⟨q2.symm, by have := c3 q2; omega⟩
          · exact .inl (by omega)
        · exact h2 t (by omega) hn)
      rw [show s + (r + 1) = s + 1 + r from by omega]
      exact e
theorem pick_lt (xs : List S51) (need : Int) (N : Nat) : ∀ (r s : Nat) (b l : Int), s + r = N → b < (N : Int) → pick xs need r s b l < (N : Int) := by
  intro r
  induction r with
  | zero => intro s b l _ hb; rw [pick]; exact hb
  | succ r ih =>
    intro s b l hs hb
    rw [pick]
    split
    · exact ih (s + 1) _ _ (by omega) (by omega)
    · exact ih (s + 1) _ _ (by omega) hb
theorem coll_good {xs : List S51} (h : goodA xs = true) : collA xs = (totV xs, true) := by
  have g := of_decide_eq_true h
  have hb := sumA_bd xs g.1
  unfold collA
  rw [if_pos h, sumV_eq xs 0 g.1 (by omega) (by omega), Int.zero_add]
/-- Selected assets cover the need, and none is to spare. -/
theorem sel_facts {xs : List S51} {need : Int} {at_ : List Int} (h : selA xs need = (at_, true)) : at_.length ≤ 10 ∧ xs.length ≤ 10 ∧ (∀ k ∈ at_, 0 ≤ k ∧ k < (xs.length : Int)) ∧ ∃ T : Int, collA (at_.map (fun k => rd_T51 xs k)) = (T, true) ∧ (need ≤ T ∧ 0 ≤ T ∧ T ≤ 1000000000) ∧ ∀ a ∈ at_.map (fun k => rd_T51 xs k), ∃ o : Int, collA [a] = (o, true) ∧ 0 ≤ o ∧ o ≤ 1000000000 ∧ T - o < need := by
  have hl := selA_length xs need
  rw [h] at hl
  unfold selA at h
  by_cases c : goodA xs = true ∧ xs.length ≤ 10 ∧ (0 ≤ need ∧ need ≤ 1000000000)
  · rw [if_pos c] at h
    by_cases c2 : pick xs need (2 ^ xs.length) 0 (-1) 0 < 0
    · rw [if_pos c2] at h; simp at h
    · rw [if_neg c2] at h
      have hN : (-1 : Int) < ((2 ^ xs.length : Nat) : Int) := by have := Nat.pow_pos (n := xs.length) (show 0 < 2 by decide); omega
      have hlt := pick_lt xs need (2 ^ xs.length) (2 ^ xs.length) 0 (-1) 0 (by omega) hN
      obtain ⟨p1, p2⟩ := pick_best xs need (2 ^ xs.length) 0 (-1) 0 (.inl (by decide)) (fun t ht => by omega)
      obtain ⟨b, hb⟩ : ∃ b : Nat, pick xs need (2 ^ xs.length) 0 (-1) 0 = (b : Int) := ⟨(pick xs need (2 ^ xs.length) 0 (-1) 0).toNat, by omega⟩
      rw [hb] at h p1 p2 hlt
      rw [Int.toNat_natCast] at h p1 p2
      have g := of_decide_eq_true c.1
      have hsb := sumA_bd xs g.1
      have hS : ∀ t, sumSel 0 xs t = totV (selL xs t) := fun t => by rw [sumSel_eq xs t 0 g.1 (by omega) (by omega), Int.zero_add]
      simp only [hS, pc_sel] at p1 p2
      have ha : at_ = blF xs.length b 0 := (congrArg Prod.fst h).symm
      have hmap : at_.map (fun k => rd_T51 xs k) = selL xs b := by rw [ha]; exact blF_sel xs xs [] b rfl
      have hgb := selL_good b c.1
      have gb := of_decide_eq_true hgb
      have hbt := totV_bd _ gb.1
      refine ⟨hl, c.2.1, ?_, totV (selL xs b), by rw [hmap]; exact coll_good hgb, ⟨by omega, by omega, by omega⟩, ?_⟩
      · intro k hk
        rw [ha] at hk
        obtain ⟨j, h1, h2, _⟩ := blF_bit xs.length b 0 k hk
        omega
      · intro a hm
        obtain ⟨k, hk, rfl⟩ := List.mem_map.mp hm
        rw [ha] at hk
        obtain ⟨j, h1, h2, h3⟩ := blF_bit xs.length b 0 k hk
        obtain ⟨q1, q2, q3⟩ := sel_rm xs b j h2 h3
        have er : rd_T51 xs k = xs[j] := by
          rw [rd_T51, show k.toNat = j from by omega, List.getD_eq_getElem?_getD, List.getElem?_eq_getElem h2]; rfl
        have hoa : okA xs[j] := g.1 _ (List.getElem_mem h2)
        have hv := valW_eq hoa
        have h1b := hoa.2.1
        have hg1 : goodA [xs[j]] = true := decide_eq_true ⟨fun c hc => by rw [List.mem_singleton.mp hc]; exact hoa, by simp, by simp only [sumA]; omega⟩
        rw [er]
        refine ⟨valW xs[j], by rw [coll_good hg1]; simp [totV], hv.2.1, by omega, ?_⟩
        by_cases q : need ≤ totV (selL xs b) - valW xs[j]
        · exfalso
          have h5 := p2 (b - 2 ^ j) (by rw [Nat.zero_add]; exact Nat.lt_of_le_of_lt (Nat.sub_le _ _) (Int.ofNat_lt.mp hlt)) (by rw [q2]; exact q)
          rw [q2] at h5
          omega
        · omega
  · rw [if_neg c] at h; simp at h
theorem str_one {a : S51} {sh : List Int} (h : okA a) (hl : sh.length = 10) (hs : sh.all shOk = true) : okA (strW sh a) ∧ (strW sh a).f1 ≤ a.f1 ∧ valW (strW sh a) ≤ valW a := by
  have hk := h.1
  have hr : 0 ≤ rd sh a.f0 ∧ rd sh a.f0 ≤ 1000 := by
    have hi : a.f0.toNat < sh.length := by omega
    have e : rd sh a.f0 = sh[a.f0.toNat] := by rw [rd, List.getD_eq_getElem?_getD, List.getElem?_eq_getElem hi]; rfl
    rw [e]
    exact of_decide_eq_true (List.all_eq_true.mp hs _ (List.getElem_mem hi))
  obtain ⟨e, h1, h2⟩ := part_eq h.2.1 hr
  have hf : (strW sh a).f1 = a.f1 * (1000 - rd sh a.f0) / 1000 := e
  have hf1 : (strW sh a).f1 ≤ a.f1 := by rw [hf]; exact h2
  have ho : okA (strW sh a) := ⟨h.1, ⟨by rw [hf]; exact h1, by have := h.2.1; omega⟩, h.2.2⟩
  refine ⟨ho, hf1, ?_⟩
  rw [(valW_eq ho).1, (valW_eq h).1]
  show (strW sh a).f1 * (1000 - a.f2) / 1000 ≤ a.f1 * (1000 - a.f2) / 1000
  exact Int.ediv_le_ediv (by decide) (Int.mul_le_mul_of_nonneg_right hf1 (by have := h.2.2; omega))
theorem str_all {sh : List Int} (hl : sh.length = 10) (hs : sh.all shOk = true) : ∀ (xs : List S51), (∀ a ∈ xs, okA a) → (∀ a ∈ xs.map (strW sh), okA a) ∧ sumA (xs.map (strW sh)) ≤ sumA xs ∧ totV (xs.map (strW sh)) ≤ totV xs
  | [], _ => by simp [sumA, totV]
  | a :: t, h => by
    obtain ⟨h1, h2, h3⟩ := str_all hl hs t (fun b hb => h b (List.mem_cons_of_mem _ hb))
    obtain ⟨g1, g2, g3⟩ := str_one (h a List.mem_cons_self) hl hs
    refine ⟨fun b hb => ?_, ?_, ?_⟩
    · rw [List.map_cons, List.mem_cons] at hb
      rcases hb with rfl | hb
      · exact g1
      · exact h1 b hb
    · simp only [List.map_cons, sumA]; omega
    · simp only [List.map_cons, totV]; omega
/-- Stress reduces the collateral value. -/
theorem str_facts {xs : List S51} {sh : List Int} {v : Int} (h : strA xs sh = (v, true)) : ∃ u, collA xs = (u, true) ∧ v ≤ u := by
  unfold strA at h
  by_cases c : goodA xs = true ∧ sh.length = 10 ∧ sh.all shOk = true
  · rw [if_pos c] at h
    have g := of_decide_eq_true c.1
    obtain ⟨h1, h2, h3⟩ := str_all c.2.1 c.2.2 xs g.1
    have hb := sumA_bd xs g.1
    have e := sumV_eq (xs.map (strW sh)) 0 h1 (by omega) (by omega)
    rw [e] at h
    have hv : 0 + totV (xs.map (strW sh)) = v := congrArg Prod.fst h
    exact ⟨totV xs, coll_good c.1, by omega⟩
  · rw [if_neg c] at h; simp at h
end Go.Proofs.Ytiaakolalhdelaa.Pure
