/- The program's RunWaterfall, and the reference's, answer as one plain function does. No other condition. -/
import Derived.Test.YtbnhpkkkijjkkaaPureFnExactRunWaterfall
import Derived.Shelf.SlicesE.IndexFunc
import Derived.Shelf.Slices.Clone
import Derived.Shelf.Slices.Turned
import Derived.Sort.LotA
import Derived.Shelf.SlSortCmp.Insertion1
import Derived.Shelf.SlLaysH
import Derived.Shelf.Lays2
import Derived.Shelf.Lays
import Derived.Shelf.SlLaysF
import Derived.Test.YtbnhpkkkijjkkaaOFnExactRunWaterfalla
import Derived.Test.YtbnhpkkkijjkkaaOFnExactRunWaterfallb
import Derived.Test.YtbnhpkkkijjkkaaOFnExactRunWaterfallc
import Derived.Test.YtbnhpkkkijjkkaaOFnExactRunWaterfalld
import Derived.Test.YtbnhpkkkijjkkaaOFnExactRunWaterfalle
import Derived.Test.YtbnhpkkkijjkkaaOFnExactRunWaterfallf
import Derived.Test.YtbnhpkkkijjkkaaOFnExactRunWaterfallg
import Derived.Test.YtbnhpkkkijjkkaaOFnExactRunWaterfallh
import Derived.Test.YtbnhpkkkijjkkaaOFnExactRunWaterfalli
namespace Go.Proofs.Ytbnhpkkkijjkkaa.O
open Go.RowKit Go.Proofs.YtbnhpkkkijjkkaaW.PrintWords Go.Proofs.YtbnhpkkkijjkkaaW.PrintLast Go.Proofs.YtbnhpkkkijjkkaaW.PrintMore Go.Proofs.Ytbnhpkkkijjkkaa.PL18D Go.Proofs.Ytbnhpkkkijjkkaa.EvKit Go.Proofs.Ytbnhpkkkijjkkaa.Pure
set_option linter.unusedVariables false
set_option linter.unusedSimpArgs false
attribute [local go_sem] max2_int min2_int max_two min_two max_three min_three max_four min_four
def totS : List (List Int) → Int
  | [] => 0
  | p :: t => p.length + totS t
def upSS : List (List Int) → Int → List (List Int)
  | [], _ => []
  | p :: t, m => upFrom p.length m :: upSS t (m + p.length)
theorem upSS_length : ∀ (ps : List (List Int)) (m : Int), (upSS ps m).length = ps.length
  | [], _ => rfl
  | _ :: t, m => by simp [upSS, upSS_length t]
theorem totS_nn : ∀ ps : List (List Int), 0 ≤ totS ps
  | [] => by simp [totS]
  | p :: t => by have := totS_nn t; simp only [totS]; omega
theorem totS_app : ∀ (ps qs : List (List Int)), totS (ps ++ qs) = totS ps + totS qs
  | [], qs => by simp [totS]
  | p :: t, qs => by simp only [List.cons_append, totS, totS_app t qs]; omega
theorem totS_le : ∀ (ps : List (List Int)) (B : Int), 0 ≤ B → (∀ p ∈ ps, (p.length : Int) ≤ B) → totS ps ≤ B * ps.length
  | [], B, _, _ => by simp [totS]
  | p :: t, B, hB, h => by
    have h1 := totS_le t B hB (fun q hq => h q (.tail _ hq))
    have h2 := h p (.head _)
    simp only [totS, List.length_cons]
    rw [show ((t.length + 1 : Nat) : Int) = t.length + 1 from by omega, Int.mul_add, Int.mul_one]
    omega
theorem upSS_app : ∀ (ps qs : List (List Int)) (m : Int), upSS (ps ++ qs) m = upSS ps m ++ upSS qs (m + totS ps)
  | [], qs, m => by simp [upSS, totS]
  | p :: t, qs, m => by simp only [List.cons_append, upSS, upSS_app t qs, totS]; rw [Int.add_assoc]
theorem upSS_mem {p : List Int} : ∀ (ps : List (List Int)) (m : Int), p ∈ upSS ps m → ∃ q ∈ ps, p.length = q.length
  | [], _, h => by simp [upSS] at h
  | a :: t, m, h => by
    simp only [upSS] at h
    rcases List.mem_cons.mp h with e | h
    · exact ⟨a, .head _, by rw [e, upFrom_length]⟩
    · obtain ⟨q, hq, e⟩ := upSS_mem t _ h
      exact ⟨q, .tail _ hq, e⟩
theorem eqIntSS_l0 (xs : List (List Int)) (hn : xs.length ≤ 1048576) (hp : ∀ p ∈ xs, p.length ≤ 1048576) : ∀ (rest pre : List (List Int)) (i : Int), xs = pre ++ rest → i = pre.length → Ev (fun k => laws_eqIntSS.l0 k xs xs i) true := by
  intro rest
  induction rest with
  | nil =>
    intro pre i h hi
    have hl := len_nil h
    refine evSucc ?_
    simp only [laws_eqIntSS.l0]
    refine evNeg (by omega) ?_
    exact evSome rfl
  | cons a t ih =>
    intro pre i h hi
    have hl := len_cons h
    have ha := hp a (by rw [h]; simp)
    refine evSucc ?_
    have hra : rd_L3 xs i = a := getD_at h hi
    simp only [laws_eqIntSS.l0, hra]
    refine evPos (by omega) ?_
    refine evPos (by omega) ?_
    refine evPos (by omega) ?_
    refine evBind (eqIntS_ev a (by omega)) ?_
    refine evPos (by trivial) ?_
    exact ih (pre ++ [a]) _ (snoc h) (by rw [wrapId (by omega), len_snoc]; omega)
theorem eqIntSS_ev (xs : List (List Int)) (hn : xs.length ≤ 1048576) (hp : ∀ p ∈ xs, p.length ≤ 1048576) : Ev (fun k => laws_eqIntSS.f k xs xs) true := by
  simp only [laws_eqIntSS.f]
  exact evPos (by trivial) (eqIntSS_l0 xs hn hp xs [] 0 rfl rfl)
theorem heldIntSS_l0 : ∀ (ps pre : List (List Int)) (xs : List (List Int)) (m i : Int), xs = pre ++ upSS ps m → i = pre.length → 0 ≤ m → m + totS ps ≤ 1000000000000 → (pre.length : Int) + ps.length ≤ 1048576 → (∀ p ∈ ps, p.length ≤ 1048576) →
    Ev (fun k => laws_heldIntSS.l0 k xs m i) (m + totS ps) := by
  intro ps
  induction ps with
  | nil =>
    intro pre xs m i h hi h0 h1 h2 h3
    have hl := len_nil h
    refine evSucc ?_
    simp only [laws_heldIntSS.l0]
    refine evNeg (by omega) ?_
    exact evSome (by simp [totS])
  | cons p ps ih =>
    intro pre xs m i h hi h0 h1 h2 h3
    have h' : xs = pre ++ upFrom p.length m :: upSS ps (m + p.length) := h
    have hl := len_cons h'
    rw [upSS_length] at hl
    have hp := h3 p (.head _)
    have ht := totS_nn ps
    simp only [totS, List.length_cons] at h1 h2 ⊢
    refine evSucc ?_
    have hra : rd_L3 xs i = upFrom p.length m := getD_at h' hi
    simp only [laws_heldIntSS.l0, hra]
    refine evPos (by omega) ?_
    refine evPos (by omega) ?_
    refine evBind (heldIntS_ev p.length m h0 (by omega) (by omega)) ?_
    refine evNeg (by omega) ?_
    refine evEq (ih (pre ++ [upFrom p.length m]) xs (m + p.length) (wrap64 (i + 1)) (snoc h') ?_ (by omega) (by omega) ?_ (fun q hq => h3 q (.tail _ hq))) (by omega)
    · rw [wrapId (by omega), len_snoc]; omega
    · rw [len_snoc]; omega
theorem heldIntSS_ev (ps : List (List Int)) (m : Int) (h0 : 0 ≤ m) (h1 : m + totS ps ≤ 1000000000000) (hn : ps.length ≤ 1048576) (hp : ∀ p ∈ ps, p.length ≤ 1048576) : Ev (fun k => laws_heldIntSS.f k (upSS ps m) m) (m + totS ps) := by
  simp only [laws_heldIntSS.f]
  exact heldIntSS_l0 ps [] _ m 0 rfl rfl h0 h1 (by simp only [List.length_nil]; omega) hp
/-- The blocks of a row's rows. -/
def InH (hs : List (Option Addr × Nat × Nat)) (k : Nat) : Prop := ∃ (i : Nat) (a : Option Addr × Nat × Nat), hs[i]? = some a ∧ (encH a).ownBlock = some k
theorem RowsA.offKept {w w1 : World} {base : Nat} {S : Nat → Prop} {v : Value} {hs : List (Option Addr × Nat × Nat)} {ps : List (List Int)} (h : RowsA w base v hs ps) (hk : Kept w w1 S) (ho : ∀ k, v.ownBlock = some k → ¬ S k) (hi : ∀ k, InH hs k → ¬ S k) : RowsA w1 base v hs ps :=
  ⟨Kd.R_mono (Kd.R_kept (R_flat (ok' := fun k => v.ownBlock = some k) (fun _ _ _ _ _ _ q => q) h.row (fun _ hk => hk)) hk ho) (fun _ _ => trivial), h.len,
   fun i a p q1 q2 => Kd.R_mono (Kd.R_kept (R_flat (ok' := fun k => (encH a).ownBlock = some k) flat_int (h.all i a p q1 q2) (fun _ hk => hk)) hk (fun k hk => hi k ⟨i, a, q1, hk⟩)) (fun _ _ => trivial), h.ap⟩
/-- One of the rows was written. -/
theorem RowsA.mark {w w1 : World} {base i : Nat} {v : Value} {hs : List (Option Addr × Nat × Nat)} {ps : List (List Int)} {a : Option Addr × Nat × Nat} {q : List Int} (h : RowsA w base v hs ps) (ha : hs[i]? = some a) (hk : Kept w w1 (fun k => (encH a).ownBlock = some k)) (hr : (Kd.int .i64).R 3 w1 base (fun _ => True) (encH a) q) : RowsA w1 base v hs (ps.set i q) := by
  have hil := (List.getElem?_eq_some_iff.mp ha).1
  refine ⟨Kd.R_mono (Kd.R_kept (R_flat (ok' := fun k => v.ownBlock = some k) (fun _ _ _ _ _ _ q => q) h.row (fun _ hk => hk)) hk (fun k h1 h2 => ?_)) (fun _ _ => trivial), by rw [List.length_set]; exact h.len, fun j b p q1 q2 => ?_, h.ap⟩
  · have hl' : i < ps.length := by rw [← h.len]; exact hil
    exact R_types (h.all i a _ ha (List.getElem?_eq_getElem hl')) h.row (by decide) k h1 h2.symm
  · by_cases c : i = j
    · subst c
      rw [ha] at q1
      injection q1 with q1
      subst q1
      rw [List.getElem?_set_self (by rw [← h.len]; exact hil)] at q2
      injection q2 with q2
      subst q2
      exact hr
    · rw [List.getElem?_set_ne c] at q2
      refine Kd.R_mono (Kd.R_kept (R_flat (ok' := fun k => (encH b).ownBlock = some k) flat_int (h.all j b p q1 q2) (fun _ hk => hk)) hk (fun k h1 h2 => ?_)) (fun _ _ => trivial)
      rcases Nat.lt_or_gt_of_ne c with c | c
      · exact h.ap i j a b c ha q1 k h2 h1
      · exact h.ap j i b a c q1 ha k h1 h2
theorem RowsA.at_ {w : World} {base b n c i : Nat} {hs : List (Option Addr × Nat × Nat)} {ps : List (List Int)} {a : Option Addr × Nat × Nat} (h : RowsA w base (.slice (some ⟨b, 0, none⟩) n c) hs ps) (ha : hs[i]? = some a) : w.cell? ⟨b, i, none⟩ = some (encH a) := by
  have hil := (List.getElem?_eq_some_iff.mp ha).1
  have hn := (Kd.R_reads' h.row).1
  obtain ⟨c_, hcl, hcM, hcc, hcf⟩ := Kd.R_elem h.row a (i : Int) (by omega) (by omega)
  have e : hs.getD (i : Int).toNat a = a := by rw [Int.toNat_natCast, List.getD_eq_getElem?_getD, ha]; rfl
  rw [e] at hcM
  have e2 : c_ = [encH a] := hcM
  have := hcc 0 (encH a) (by rw [e2]; rfl)
  rw [Int.toNat_natCast] at this
  simpa [KV, Kd.scalar] using this
set_option maxHeartbeats 8000000 in
set_option maxRecDepth 100000 in
theorem markSS_c (v : Value) (hs : List (Option Addr × Nat × Nat)) (ps : List (List Int)) (m : Int) (w0 w : World) (hB : Below w0.heap.size w0 w) (h : RowsA w w0.heap.size v hs ps) (h0 : 0 ≤ m) (h1 : m + totS ps ≤ 1000000000000) (hn : ps.length ≤ 1048576) (hp : ∀ p ∈ ps, p.length ≤ 1048576) :
    Calls Try.prog 51 #[v, .int .i64 m] w fun e w' => e = .returned (.int .i64 (m + totS ps)) ∧ RowsA w' w0.heap.size v hs (upSS ps m) ∧ Below w0.heap.size w0 w' ∧ Kept w w' (InH hs) := by
  have HR := am_ h
  have HB := am_ hB
  have HK := am_ (Kept.refl w (InH hs))
  have HP := am_ hp
  obtain ⟨A0, c0, e0⟩ := Kd.R_slice h.row
  rw [h.len] at e0
  subst e0
  clear h hB hp
  go_enter Try.func51, Try.ntmps51
  go_wp2_with fail
  go_loopw [1, 5] (fun v1 v5 wr => ∃ (pre rest : List (List Int)), v1 = .int .i64 (m + totS pre) ∧ v5 = .int .i64 pre.length ∧ Aside0 (ps = pre ++ rest) ∧ Aside0 (RowsA wr w0.heap.size (.slice A0 ps.length c0) hs (upSS pre m ++ rest)) ∧ Aside0 (Below w0.heap.size w0 wr) ∧ Aside0 (Kept w wr (InH hs))) (fun _ v5 _ => ps.length - (intOf v5).toNat)
  case atStart => exact ⟨[], ps, by simp [totS], rfl, ⟨rfl⟩, ⟨HR.out⟩, HB, HK⟩
  case round =>
    clear HR HB HK
    obtain ⟨pre, rest, rfl, rfl, HX, HR, HB, HK⟩ := hrel
    cases rest with
    | nil =>
      have hln := len_nil HX.out
      have d1 : decide (pre.length < ps.length) = false := decide_eq_false (by omega)
      have e_ : ps = pre := by simpa using HX.out
      have HF := am_ (show RowsA wr w0.heap.size (.slice A0 ps.length c0) hs (upSS ps m) from by
        have h := HR.out
        rw [List.append_nil, ← e_] at h
        exact h)
      have HT := am_ (show m + totS ps = m + totS pre from by rw [e_])
      clear e_ HX HR
      go_wp2
      go_ret
      exact ⟨by rw [HT.out]; rfl, (by (with_reducible repeat first | apply RowsA.alloc | apply RowsA.drewN | apply RowsA.drew); exact HF.out), (by repeat first | (with_reducible first | exact HB.out | apply ba_ | apply bn_ | apply bd_) | exact HB.out), HK.out⟩
    | cons p t =>
      have hln := len_cons HX.out
      have d1 : decide (pre.length < ps.length) = true := decide_eq_true (by omega)
      have hpl := HP.out p (by rw [HX.out]; simp)
      have htt : totS ps = totS pre + (p.length + totS t) := by rw [HX.out, totS_app]; rfl
      have htn := totS_nn pre
      have htn2 := totS_nn t
      have hhl := HR.out.len
      rw [List.length_append, upSS_length, List.length_cons] at hhl
      have hil : pre.length < hs.length := by omega
      obtain ⟨a, ha⟩ : ∃ a, a = hs[pre.length] := ⟨_, rfl⟩
      have hai : hs[pre.length]? = some a := by rw [ha]; exact List.getElem?_eq_getElem hil
      have hpi : (upSS pre m ++ p :: t)[pre.length]? = some p := by rw [List.getElem?_append_right (by rw [upSS_length]; exact Nat.le_refl _), upSS_length, Nat.sub_self]; rfl
      have hra := HR.out.all pre.length a p hai hpi
      have HRA := am_ (R_flat (ok' := fun k => (encH a).ownBlock = some k) flat_int hra (fun _ hk => hk))
      obtain ⟨b0, e0⟩ := R_head HR.out.row (by omega)
      subst e0
      have y0 := HR.out.at_ hai
      have HAI := am_ hai
      obtain ⟨kx, hx⟩ := roundsOf (markIntS_ev p (m + totS pre) (by omega) (by omega) (by omega))
      have HM := am_ hx
      have q0 : (0 : Int) ≤ (pre.length : Int) := by omega
      have q1 : (pre.length : Int) < (ps.length : Int) := by omega
      have tn : (pre.length : Int).toNat = pre.length := Int.toNat_natCast _
      have HSX := am_ (snoc HX.out)
      clear hx hai ha hra hpi hil hhl
      go_wp2_with fail
      refine (laws_markIntS.calls kx _ _ p (m + totS pre) _ _ w0 _ (by repeat first | (with_reducible first | exact HB.out | apply ba_ | apply bn_ | apply bd_) | exact HB.out) (by (with_reducible repeat first | apply ra_ | apply rn_ | apply rd_); exact HRA.out) HM.out).mono ?_
      rintro e w1 ⟨rfl, ho, hb, hk⟩
      clear y0
      have N1 := am_ (RowsA.mark (by (with_reducible repeat first | apply RowsA.alloc | apply RowsA.drewN | apply RowsA.drew); exact HR.out) HAI.out hk (Kd.R_mono ho (fun _ _ => trivial)))
      have N2 := am_ (show Kept w w1 (InH hs) from Kept.then_ HK.out hk (fun k h2 => .inl ⟨_, _, HAI.out, h2⟩))
      have N3 := am_ (show (upSS pre m ++ p :: t).set pre.length (upFrom p.length (m + totS pre)) = upSS (pre ++ [p]) m ++ t from by
        rw [upSS_app, List.set_append_right _ _ (by rw [upSS_length]; exact Nat.le_refl _), upSS_length, Nat.sub_self, List.set_cons_zero, List.append_assoc]; rfl)
      have N4 := am_ hb
      have N5 := am_ (show m + totS pre + p.length = m + totS (pre ++ [p]) from by rw [totS_app]; simp only [totS]; omega)
      rw [N5.out]
      clear HR HK HB ho hb hk htt
      go_wp2
      go_roundw
      case rel => exact ⟨pre ++ [p], t, rfl, by rw [len_snoc], HSX, ⟨by rw [← N3.out]; exact (by (with_reducible repeat first | apply RowsA.alloc | apply RowsA.drewN | apply RowsA.drew); exact N1.out)⟩, ⟨(by repeat first | (with_reducible first | exact N4.out | apply ba_ | apply bn_ | apply bd_) | exact N4.out)⟩, ⟨N2.out⟩⟩
      case measure => simp [intOf]; omega
theorem markSS_cc (v : Value) (hs : List (Option Addr × Nat × Nat)) (ps : List (List Int)) (m M : Int) (U : List (List Int)) (w0 w : World) (hM : M = m + totS ps) (hU : U = upSS ps m) (hB : Below w0.heap.size w0 w) (h : RowsA w w0.heap.size v hs ps) (h0 : 0 ≤ m) (h1 : m + totS ps ≤ 1000000000000) (hn : ps.length ≤ 1048576) (hp : ∀ p ∈ ps, p.length ≤ 1048576) :
    Calls Try.prog 51 #[v, .int .i64 m] w fun e w' => e = .returned (.int .i64 M) ∧ RowsA w' w0.heap.size v hs U ∧ Below w0.heap.size w0 w' ∧ Kept w w' (InH hs) := by
  subst hM hU
  exact markSS_c v hs ps m w0 w hB h h0 h1 hn hp
theorem RowsA.lower {w : World} {base b : Nat} {v : Value} {hs : List (Option Addr × Nat × Nat)} {ps : List (List Int)} (h : RowsA w base v hs ps) (hb : b ≤ base) : RowsA w b v hs ps :=
  ⟨Kd.R_lower h.row hb, h.len, fun i a p q1 q2 => Kd.R_lower (h.all i a p q1 q2) hb, h.ap⟩
theorem RowsA.ivo {w : World} {base a : Nat} {v : Value} {hs : List (Option Addr × Nat × Nat)} {ps : List (List Int)} (h : RowsA w base v hs ps) (ha : a ≤ base) : ∀ k, v.ownBlock = some k → Iv a w.heap.size k := fun k hk => by
  have h1 := R_ownlt h.row hk
  exact ⟨Nat.le_trans ha h1.1, h1.2⟩
theorem RowsA.ivi {w : World} {base a : Nat} {v : Value} {hs : List (Option Addr × Nat × Nat)} {ps : List (List Int)} (h : RowsA w base v hs ps) (ha : a ≤ base) : ∀ k, InH hs k → Iv a w.heap.size k := fun k ⟨i, x, q1, q2⟩ => by
  have h1 := h.lt q1 q2
  exact ⟨Nat.le_trans ha h1.1, h1.2⟩
theorem RowsA.asR {w : World} {base : Nat} {v : Value} {hs : List (Option Addr × Nat × Nat)} {ps : List (List Int)} (h : RowsA w base v hs ps) : Kd.R (Kd.slice 3 (Kd.int .i64)) 51 w base (fun _ => True) v ps :=
  h.rows (fun i a hi k hk => by
    have hl := (List.getElem?_eq_some_iff.mp hi).1
    have hl' : i < ps.length := by rw [← h.len]; exact hl
    exact R_types h.row (h.all i a _ hi (List.getElem?_eq_getElem hl')) (by decide) k hk)
theorem runA_len1 (xs : List S49) (cs : List Int) : (runA xs cs).1.length ≤ 20 := by
  by_cases g : goodT xs = true ∧ okCash cs
  · rw [runA_yes g.1 g.2]
    have h := runW_facts cs xs 0 g.1 (Int.le_refl _) (fun c hc => (g.2.1 c hc).1) (by have := g.2.2.2; omega)
    show (runW xs 0 cs).1.length ≤ 20
    rw [h.1]; exact g.2.2.1
  · rw [runA_no g]; decide
theorem runA_mem (xs : List S49) (cs : List Int) (hn : xs.length ≤ 1048576) : ∀ p ∈ (runA xs cs).1, p.length ≤ 1048576 := by
  by_cases g : goodT xs = true ∧ okCash cs
  · rw [runA_yes g.1 g.2]
    have h := runW_facts cs xs 0 g.1 (Int.le_refl _) (fun c hc => (g.2.1 c hc).1) (by have := g.2.2.2; omega)
    intro p hp
    rw [(h.2.1 p hp).1]; exact hn
  · rw [runA_no g]; simp
theorem runA_len2 (xs : List S49) (cs : List Int) (hn : xs.length ≤ 1048576) : (runA xs cs).2.1.length ≤ 1048576 := by
  by_cases g : goodT xs = true ∧ okCash cs
  · rw [runA_yes g.1 g.2]
    have h := runW_facts cs xs 0 g.1 (Int.le_refl _) (fun c hc => (g.2.1 c hc).1) (by have := g.2.2.2; omega)
    show ((runW xs 0 cs).2.1.map _).length ≤ _
    rw [List.length_map, h.2.2.1]; exact hn
  · rw [runA_no g]; decide
theorem runA_tot (xs : List S49) (cs : List Int) (hn : xs.length ≤ 1048576) : 0 ≤ totS (runA xs cs).1 ∧ totS (runA xs cs).1 ≤ 20971520 := by
  have h1 := totS_le (runA xs cs).1 1048576 (by decide) (fun p hp => by have := runA_mem xs cs hn p hp; omega)
  have h2 := runA_len1 xs cs
  exact ⟨totS_nn _, by omega⟩
theorem spec_c (A0 : Option Addr) (c0 : Nat) (xs : List S49) (A1 : Option Addr) (c1 : Nat) (cs : List Int) (w : World) (hr0 : Kd.C k49 w A0 xs.length xs) (hc0 : xs.length ≤ c0) (ha0 : 0 < xs.length → ∃ b, A0 = some ⟨b, 0, none⟩) (hn : xs.length ≤ 1048576) (hr1 : (Kd.int .i64).C w A1 cs.length cs) (hc1 : cs.length ≤ c1) (ha1 : 0 < cs.length → ∃ b, A1 = some ⟨b, 0, none⟩) (hm : cs.length ≤ 1048576) :
    Calls Try.prog 48 #[.slice A0 xs.length c0, .slice A1 cs.length c1] w fun e w' => ∃ v u, e = .returned (.tuple #[v, u, .bool (runA xs cs).2.2]) ∧ Kd.R (Kd.slice 3 (Kd.int .i64)) 51 w' w.heap.size (fun _ => True) v (runA xs cs).1 ∧ (Kd.int .i64).R 3 w' w.heap.size (fun _ => True) u (runA xs cs).2.1 ∧ Below w.heap.size w w' := runS_c A0 c0 xs A1 c1 cs w hr0 hc0 hn hr1 hc1 hm
theorem impl_c (A0 : Option Addr) (c0 : Nat) (xs : List S49) (A1 : Option Addr) (c1 : Nat) (cs : List Int) (w : World) (hr0 : Kd.C k49 w A0 xs.length xs) (hc0 : xs.length ≤ c0) (ha0 : 0 < xs.length → ∃ b, A0 = some ⟨b, 0, none⟩) (hn : xs.length ≤ 1048576) (hr1 : (Kd.int .i64).C w A1 cs.length cs) (hc1 : cs.length ≤ c1) (ha1 : 0 < cs.length → ∃ b, A1 = some ⟨b, 0, none⟩) (hm : cs.length ≤ 1048576) :
    Calls Try.prog 47 #[.slice A0 xs.length c0, .slice A1 cs.length c1] w fun e w' => ∃ v u hs, e = .returned (.tuple #[v, u, .bool (runA xs cs).2.2]) ∧ RowsA w' w.heap.size v hs (runA xs cs).1 ∧ (Kd.int .i64).R 3 w' w.heap.size (fun _ => True) u (runA xs cs).2.1 ∧ (∀ (i : Nat) a, hs[i]? = some a → ∀ k, (encH a).ownBlock = some k → some k ≠ u.ownBlock) ∧ Below w.heap.size w w' := runIA_c A0 c0 xs A1 c1 cs w hr0 hc0 hn hr1 hc1 ha1 hm
set_option maxHeartbeats 16000000 in
set_option maxRecDepth 100000 in
theorem law_c (A0 : Option Addr) (c0 : Nat) (l0 : List S75) (A1 : Option Addr) (c1 : Nat) (l1 : List Int) (w : World) (hr0 : Kd.C k75 w A0 l0.length l0) (hc0 : l0.length ≤ c0) (hr1 : Kd.C (Kd.int .i64) w A1 l1.length l1) (hc1 : l1.length ≤ c1) (he0 : ∀ y ∈ l0, (KReads.InI y.f0 ∧ KReads.InI y.f1)) (he1 : ∀ y ∈ l1, KReads.InI y) :
    Calls Try.prog 14 #[.slice A0 l0.length c0, .slice A1 l1.length c1] w fun e w' => e = .returned (.bool true) ∧ Below w.heap.size w w' := by
  have HR0 := am_ hr0
  have HC0 := am_ hc0
  have HM0 := am_ (Kd.C_max hr0)
  have HR1 := am_ hr1
  have HC1 := am_ hc1
  have HM1 := am_ (Kd.C_max hr1)
  clear hr0 hc0 hr1 hc1
  by_cases hn1 : l1.length ≤ 1048576
  rotate_left
  · have hn_ := hn1
    have cl1 : decide (1048576 < l1.length) = true := decide_eq_true (by omega)
    clear hn_
    go_enter Try.func14, Try.ntmps14
    go_wp2_with fail
    go_ret
    exact ⟨rfl, (by repeat (first | (with_reducible first | exact Below.refl _ _ | apply below_alloc | apply pw_below_drewN | apply below_drew1) | exact Below.refl _ _))⟩
  by_cases hn0 : l0.length ≤ 1048576
  rotate_left
  · have hn_ := hn0
    have cl1 : decide (1048576 < l1.length) = false := decide_eq_false (by omega)
    have E0 := am_ ((szTrancheS_eq l0 HM0.out).trans (congrArg some (if_neg hn0)))
    clear hn_
    go_enter Try.func14, Try.ntmps14
    go_wp2_with (go_at_call 19; refine (laws_szTrancheS.calls _ _ l0 1048576 _ _ (by repeat (first | exact HR0.out | (with_reducible refine Kd.C_alloc ?_ _) | (with_reducible refine Kd.C_drewN ?_ _) | (with_reducible refine Kd.C_drew ?_))) HC0.out E0.out).mono ?_; rintro e w0_ ⟨rfl, ⟨q, rfl⟩⟩)
    go_ret
    exact ⟨rfl, (by repeat (first | (with_reducible first | exact Below.refl _ _ | apply below_alloc | apply pw_below_drewN | apply below_drew1) | exact Below.refl _ _))⟩
  have cl1 : decide (1048576 < l1.length) = false := decide_eq_false (by omega)
  have E0 := am_ ((szTrancheS_eq l0 HM0.out).trans (congrArg some (if_pos hn0)))
  have cs0 : decide (1048576 - (l0.length : Int) < 0) = false := decide_eq_false (by omega)
  obtain ⟨L0, eL0⟩ : ∃ L_ : List S49, L_ = l0.map cv_Tranche := ⟨_, rfl⟩
  have hv0 : L0.length ≤ 1048576 := by rw [eL0]; simpa using hn0
  have EL0 := am_ eL0
  clear eL0
  have hv1 := hn1
  have HMEM := am_ (runA_mem L0 l1 hv0)
  have HTOT := am_ (runA_tot L0 l1 hv0)
  have HL0 := am_ (show ((runA L0 l1).1).length ≤ 1048576 from Nat.le_trans (runA_len1 L0 l1) (by decide))
  have HL1 := am_ (show ((runA L0 l1).2.1).length ≤ 1048576 from runA_len2 L0 l1 hv0)
  have HB0 := am_ (Below.refl w.heap.size w)
  obtain ⟨kX0, hX0⟩ := roundsOf (toTrancheS_ev l0 hn0)
  rw [← EL0.out] at hX0
  have X0 := am_ hX0
  clear hX0
  obtain ⟨kX1, hX1⟩ := roundsOf (toIntS_ev l1 hn1)
  have X1 := am_ hX1
  clear hX1
  obtain ⟨kX2, hX2⟩ := roundsOf (eqIntSS_ev (runA L0 l1).1 (by have h_ := HL0.out; omega) HMEM.out)
  have X2 := am_ hX2
  clear hX2
  obtain ⟨kX3, hX3⟩ := roundsOf (eqIntS_ev (runA L0 l1).2.1 (by have h_ := HL1.out; omega))
  have X3 := am_ hX3
  clear hX3
  obtain ⟨kX4, hX4⟩ := roundsOf (eqTrancheS_ev L0 (by have h_ := hv0; omega))
  have X4 := am_ hX4
  clear hX4
  obtain ⟨kX5, hX5⟩ := roundsOf (eqIntS_ev l1 (by have h_ := hv1; omega))
  have X5 := am_ hX5
  clear hX5
  obtain ⟨kX6, hX6⟩ := roundsOf (markTrancheS_ev L0 1 (by omega) (by have h_ := hv0; omega) (by have h_ := hv0; omega))
  obtain ⟨mX6, eX6⟩ : ∃ m_ : Int, m_ = 1 + 2 * ((L0).length : Int) := ⟨_, rfl⟩
  rw [← eX6] at hX6
  obtain ⟨UX6, uX6⟩ : ∃ U_ : List S49, U_ = upS_Tranche (L0).length 1 := ⟨_, rfl⟩
  rw [← uX6] at hX6
  have VX6 := am_ (show UX6.length = (L0).length from by rw [uX6, upS_Tranche_length])
  have ZX6 := am_ uX6
  clear uX6
  have cX6 : decide (mX6 < 0) = false := decide_eq_false (by omega)
  have PX6 := am_ (show 0 ≤ mX6 ∧ mX6 ≤ 1 + 8388608 from by have h_ := hv0; omega)
  have MX6 := am_ eX6
  clear eX6
  have X6 := am_ hX6
  clear hX6
  obtain ⟨kX7, hX7⟩ := roundsOf (markIntS_ev l1 mX6 (by have p_ := PX6.out; omega) (by have p_ := PX6.out; have h_ := hv1; omega) (by have h_ := hv1; omega))
  obtain ⟨mX7, eX7⟩ : ∃ m_ : Int, m_ = mX6 + ((l1).length : Int) := ⟨_, rfl⟩
  rw [← eX7] at hX7
  obtain ⟨UX7, uX7⟩ : ∃ U_ : List Int, U_ = upFrom (l1).length mX6 := ⟨_, rfl⟩
  rw [← uX7] at hX7
  have VX7 := am_ (show UX7.length = (l1).length from by rw [uX7, upFrom_length])
  have ZX7 := am_ uX7
  clear uX7
  have cX7 : decide (mX7 < 0) = false := decide_eq_false (by have p_ := PX6.out; omega)
  have PX7 := am_ (show 0 ≤ mX7 ∧ mX7 ≤ mX6 + 8388608 from by have p_ := PX6.out; have h_ := hv1; omega)
  have MX7 := am_ eX7
  clear eX7
  have X7 := am_ hX7
  clear hX7
  obtain ⟨mR8, eR8⟩ : ∃ m_ : Int, m_ = 1 + totS (runA L0 l1).1 := ⟨_, rfl⟩
  obtain ⟨UR8, uR8⟩ : ∃ U_ : List (List Int), U_ = upSS (runA L0 l1).1 1 := ⟨_, rfl⟩
  have VR8 := am_ (show UR8.length = ((runA L0 l1).1).length from by rw [uR8, upSS_length])
  have ZR8 := am_ uR8
  clear uR8
  have cR8 : decide (mR8 < 0) = false := decide_eq_false (by have h_ := HTOT.out; omega)
  have PR8 := am_ (show 0 ≤ mR8 ∧ mR8 ≤ 1 + 20971520 from by have h_ := HTOT.out; omega)
  have MR8 := am_ eR8
  clear eR8
  obtain ⟨kX9, hX9⟩ := roundsOf (markIntS_ev (runA L0 l1).2.1 mR8 (by have p_ := PR8.out; omega) (by have p_ := PR8.out; have h_ := HL1.out; omega) (by have h_ := HL1.out; omega))
  obtain ⟨mX9, eX9⟩ : ∃ m_ : Int, m_ = mR8 + (((runA L0 l1).2.1).length : Int) := ⟨_, rfl⟩
  rw [← eX9] at hX9
  obtain ⟨UX9, uX9⟩ : ∃ U_ : List Int, U_ = upFrom ((runA L0 l1).2.1).length mR8 := ⟨_, rfl⟩
  rw [← uX9] at hX9
  have VX9 := am_ (show UX9.length = ((runA L0 l1).2.1).length from by rw [uX9, upFrom_length])
  have ZX9 := am_ uX9
  clear uX9
  have cX9 : decide (mX9 < 0) = false := decide_eq_false (by have p_ := PR8.out; omega)
  have PX9 := am_ (show 0 ≤ mX9 ∧ mX9 ≤ mR8 + 8388608 from by have p_ := PR8.out; have h_ := HL1.out; omega)
  have MX9 := am_ eX9
  clear eX9
  have X9 := am_ hX9
  clear hX9
  obtain ⟨kX10, hX10⟩ := roundsOf (heldIntSS_ev (runA L0 l1).1 1 (by omega) (by have h_ := HTOT.out; omega) (by have h_ := HL0.out; omega) HMEM.out)
  rw [← MR8.out, ← ZR8.out] at hX10
  have X10 := am_ hX10
  clear hX10
  obtain ⟨kX11, hX11⟩ := roundsOf (heldIntS_ev ((runA L0 l1).2.1).length mR8 (by have p_ := PR8.out; omega) (by have p_ := PR8.out; have h_ := HL1.out; omega) (by have h_ := HL1.out; omega))
  rw [← MX9.out, ← ZX9.out] at hX11
  have X11 := am_ hX11
  clear hX11
  go_enter Try.func14, Try.ntmps14
  go_wp2_with (go_at_call 19; refine (laws_szTrancheS.calls _ _ l0 1048576 _ _ (by repeat (first | exact HR0.out | (with_reducible refine Kd.C_alloc ?_ _) | (with_reducible refine Kd.C_drewN ?_ _) | (with_reducible refine Kd.C_drew ?_))) HC0.out E0.out).mono ?_; rintro e w0_ ⟨rfl, ⟨q, rfl⟩⟩)
  refine (laws_toTrancheS.calls kX0 _ _ l0 _ _ (by repeat (first | exact (Kd.C_below HR0.out HB0.out) | (with_reducible refine Kd.C_alloc ?_ _) | (with_reducible refine Kd.C_drewN ?_ _) | (with_reducible refine Kd.C_drew ?_))) HC0.out X0.out).mono ?_
  rintro e w1 ⟨v, rfl, ho, hb⟩
  have HB1 := am_ (below_step (by repeat (first | (with_reducible first | exact HB0.out | apply below_alloc | apply pw_below_drewN | apply below_drew1) | exact HB0.out)) hb)
  have SZ1 := am_ (show w.heap.size ≤ w1.heap.size from below_size (below_step (by repeat (first | (with_reducible first | exact Below.refl _ _ | apply below_alloc | apply pw_below_drewN | apply below_drew1) | exact Below.refl _ _)) hb))
  have HOt1 := am_ (R_ivw (a := w.heap.size) (b := w.heap.size) ho (below_size (by repeat (first | (with_reducible first | exact Below.refl _ _ | apply below_alloc | apply pw_below_drewN | apply below_drew1) | exact Below.refl _ _))) (below_size (by repeat (first | (with_reducible first | exact HB0.out | apply below_alloc | apply pw_below_drewN | apply below_drew1) | exact HB0.out))))
  obtain ⟨Art1, crt1, ert1⟩ := Kd.R_slice HOt1.out
  subst ert1
  clear ho hb
  go_wp2_with fail
  refine (laws_toIntS.calls kX1 _ _ l1 _ _ (by repeat (first | exact (Kd.C_below HR1.out HB1.out) | (with_reducible refine Kd.C_alloc ?_ _) | (with_reducible refine Kd.C_drewN ?_ _) | (with_reducible refine Kd.C_drew ?_))) HC1.out X1.out).mono ?_
  rintro e w2 ⟨v, rfl, ho, hb⟩
  have n_ := am_ (Kd.R_below (by (with_reducible repeat (first | apply Kd.R_alloc | apply Kd.R_drewN | apply Kd.R_drew)); exact HOt1.out) hb); clear HOt1; have HOt1 := n_; clear n_
  have HB2 := am_ (below_step (by repeat (first | (with_reducible first | exact HB1.out | apply below_alloc | apply pw_below_drewN | apply below_drew1) | exact HB1.out)) hb)
  have SZ2 := am_ (show w1.heap.size ≤ w2.heap.size from below_size (below_step (by repeat (first | (with_reducible first | exact Below.refl _ _ | apply below_alloc | apply pw_below_drewN | apply below_drew1) | exact Below.refl _ _)) hb))
  have HOt2 := am_ (R_ivw (a := w1.heap.size) (b := w.heap.size) ho (below_size (by repeat (first | (with_reducible first | exact Below.refl _ _ | apply below_alloc | apply pw_below_drewN | apply below_drew1) | exact Below.refl _ _))) (below_size (by repeat (first | (with_reducible first | exact HB1.out | apply below_alloc | apply pw_below_drewN | apply below_drew1) | exact HB1.out))))
  obtain ⟨Art2, crt2, ert2⟩ := Kd.R_slice HOt2.out
  subst ert2
  clear ho hb
  go_wp2_with fail
  refine (spec_c _ _ L0 _ _ l1 _ (by repeat (first | exact (Kd.R_reads' HOt1.out).2.2 | (with_reducible refine Kd.C_alloc ?_ _) | (with_reducible refine Kd.C_drewN ?_ _) | (with_reducible refine Kd.C_drew ?_))) (Kd.R_reads' HOt1.out).2.1 (fun hp => R_head HOt1.out hp) hv0 (by repeat (first | exact (Kd.R_reads' HOt2.out).2.2 | (with_reducible refine Kd.C_alloc ?_ _) | (with_reducible refine Kd.C_drewN ?_ _) | (with_reducible refine Kd.C_drew ?_))) (Kd.R_reads' HOt2.out).2.1 (fun hp => R_head HOt2.out hp) hv1 ).mono ?_
  rintro e w3 ⟨v1, v2, rfl, ho1, ho2, hb⟩
  have n_ := am_ (Kd.R_below (by (with_reducible repeat (first | apply Kd.R_alloc | apply Kd.R_drewN | apply Kd.R_drew)); exact HOt1.out) hb); clear HOt1; have HOt1 := n_; clear n_
  have n_ := am_ (Kd.R_below (by (with_reducible repeat (first | apply Kd.R_alloc | apply Kd.R_drewN | apply Kd.R_drew)); exact HOt2.out) hb); clear HOt2; have HOt2 := n_; clear n_
  have HB3 := am_ (below_step (by repeat (first | (with_reducible first | exact HB2.out | apply below_alloc | apply pw_below_drewN | apply below_drew1) | exact HB2.out)) hb)
  have SZ3 := am_ (show w2.heap.size ≤ w3.heap.size from below_size (below_step (by repeat (first | (with_reducible first | exact Below.refl _ _ | apply below_alloc | apply pw_below_drewN | apply below_drew1) | exact Below.refl _ _)) hb))
  have HOw0 := am_ (R_ivw (a := w2.heap.size) (b := w.heap.size) ho1 (below_size (by repeat (first | (with_reducible first | exact Below.refl _ _ | apply below_alloc | apply pw_below_drewN | apply below_drew1) | exact Below.refl _ _))) (below_size (by repeat (first | (with_reducible first | exact HB2.out | apply below_alloc | apply pw_below_drewN | apply below_drew1) | exact HB2.out))))
  obtain ⟨Arw0, crw0, erw0⟩ := Kd.R_slice HOw0.out
  subst erw0
  have HOw1 := am_ (R_ivw (a := w2.heap.size) (b := w.heap.size) ho2 (below_size (by repeat (first | (with_reducible first | exact Below.refl _ _ | apply below_alloc | apply pw_below_drewN | apply below_drew1) | exact Below.refl _ _))) (below_size (by repeat (first | (with_reducible first | exact HB2.out | apply below_alloc | apply pw_below_drewN | apply below_drew1) | exact HB2.out))))
  obtain ⟨Arw1, crw1, erw1⟩ := Kd.R_slice HOw1.out
  subst erw1
  clear ho1 ho2 hb
  go_wp2_with fail
  refine (laws_toTrancheS.calls kX0 _ _ l0 _ _ (by repeat (first | exact (Kd.C_below HR0.out HB3.out) | (with_reducible refine Kd.C_alloc ?_ _) | (with_reducible refine Kd.C_drewN ?_ _) | (with_reducible refine Kd.C_drew ?_))) HC0.out X0.out).mono ?_
  rintro e w4 ⟨v, rfl, ho, hb⟩
  have n_ := am_ (Kd.R_below (by (with_reducible repeat (first | apply Kd.R_alloc | apply Kd.R_drewN | apply Kd.R_drew)); exact HOw0.out) hb); clear HOw0; have HOw0 := n_; clear n_
  have n_ := am_ (Kd.R_below (by (with_reducible repeat (first | apply Kd.R_alloc | apply Kd.R_drewN | apply Kd.R_drew)); exact HOw1.out) hb); clear HOw1; have HOw1 := n_; clear n_
  have HB4 := am_ (below_step (by repeat (first | (with_reducible first | exact HB3.out | apply below_alloc | apply pw_below_drewN | apply below_drew1) | exact HB3.out)) hb)
  have SZ4 := am_ (show w3.heap.size ≤ w4.heap.size from below_size (below_step (by repeat (first | (with_reducible first | exact Below.refl _ _ | apply below_alloc | apply pw_below_drewN | apply below_drew1) | exact Below.refl _ _)) hb))
  have HOx0 := am_ (R_ivw (a := w3.heap.size) (b := w.heap.size) ho (below_size (by repeat (first | (with_reducible first | exact Below.refl _ _ | apply below_alloc | apply pw_below_drewN | apply below_drew1) | exact Below.refl _ _))) (below_size (by repeat (first | (with_reducible first | exact HB3.out | apply below_alloc | apply pw_below_drewN | apply below_drew1) | exact HB3.out))))
  obtain ⟨Arx0, crx0, erx0⟩ := Kd.R_slice HOx0.out
  subst erx0
  clear ho hb
  go_wp2_with fail
  refine (laws_toIntS.calls kX1 _ _ l1 _ _ (by repeat (first | exact (Kd.C_below HR1.out HB4.out) | (with_reducible refine Kd.C_alloc ?_ _) | (with_reducible refine Kd.C_drewN ?_ _) | (with_reducible refine Kd.C_drew ?_))) HC1.out X1.out).mono ?_
  rintro e w5 ⟨v, rfl, ho, hb⟩
  have n_ := am_ (Kd.R_below (by (with_reducible repeat (first | apply Kd.R_alloc | apply Kd.R_drewN | apply Kd.R_drew)); exact HOw0.out) hb); clear HOw0; have HOw0 := n_; clear n_
  have n_ := am_ (Kd.R_below (by (with_reducible repeat (first | apply Kd.R_alloc | apply Kd.R_drewN | apply Kd.R_drew)); exact HOw1.out) hb); clear HOw1; have HOw1 := n_; clear n_
  have n_ := am_ (Kd.R_below (by (with_reducible repeat (first | apply Kd.R_alloc | apply Kd.R_drewN | apply Kd.R_drew)); exact HOx0.out) hb); clear HOx0; have HOx0 := n_; clear n_
  have HB5 := am_ (below_step (by repeat (first | (with_reducible first | exact HB4.out | apply below_alloc | apply pw_below_drewN | apply below_drew1) | exact HB4.out)) hb)
  have SZ5 := am_ (show w4.heap.size ≤ w5.heap.size from below_size (below_step (by repeat (first | (with_reducible first | exact Below.refl _ _ | apply below_alloc | apply pw_below_drewN | apply below_drew1) | exact Below.refl _ _)) hb))
  have HOx1 := am_ (R_ivw (a := w4.heap.size) (b := w.heap.size) ho (below_size (by repeat (first | (with_reducible first | exact Below.refl _ _ | apply below_alloc | apply pw_below_drewN | apply below_drew1) | exact Below.refl _ _))) (below_size (by repeat (first | (with_reducible first | exact HB4.out | apply below_alloc | apply pw_below_drewN | apply below_drew1) | exact HB4.out))))
  obtain ⟨Arx1, crx1, erx1⟩ := Kd.R_slice HOx1.out
  subst erx1
  clear ho hb
  go_wp2_with fail
  refine (impl_c _ _ L0 _ _ l1 _ (by repeat (first | exact (Kd.R_reads' HOx0.out).2.2 | (with_reducible refine Kd.C_alloc ?_ _) | (with_reducible refine Kd.C_drewN ?_ _) | (with_reducible refine Kd.C_drew ?_))) (Kd.R_reads' HOx0.out).2.1 (fun hp => R_head HOx0.out hp) hv0 (by repeat (first | exact (Kd.R_reads' HOx1.out).2.2 | (with_reducible refine Kd.C_alloc ?_ _) | (with_reducible refine Kd.C_drewN ?_ _) | (with_reducible refine Kd.C_drew ?_))) (Kd.R_reads' HOx1.out).2.1 (fun hp => R_head HOx1.out hp) hv1 ).mono ?_
  rintro e w6 ⟨v1, v2, hsg0, rfl, ho1, ho2, hn, hb⟩
  have n_ := am_ (Kd.R_below (by (with_reducible repeat (first | apply Kd.R_alloc | apply Kd.R_drewN | apply Kd.R_drew)); exact HOw0.out) hb); clear HOw0; have HOw0 := n_; clear n_
  have n_ := am_ (Kd.R_below (by (with_reducible repeat (first | apply Kd.R_alloc | apply Kd.R_drewN | apply Kd.R_drew)); exact HOw1.out) hb); clear HOw1; have HOw1 := n_; clear n_
  have n_ := am_ (Kd.R_below (by (with_reducible repeat (first | apply Kd.R_alloc | apply Kd.R_drewN | apply Kd.R_drew)); exact HOx0.out) hb); clear HOx0; have HOx0 := n_; clear n_
  have n_ := am_ (Kd.R_below (by (with_reducible repeat (first | apply Kd.R_alloc | apply Kd.R_drewN | apply Kd.R_drew)); exact HOx1.out) hb); clear HOx1; have HOx1 := n_; clear n_
  have HB6 := am_ (below_step (by repeat (first | (with_reducible first | exact HB5.out | apply below_alloc | apply pw_below_drewN | apply below_drew1) | exact HB5.out)) hb)
  have SZ6 := am_ (show w5.heap.size ≤ w6.heap.size from below_size (below_step (by repeat (first | (with_reducible first | exact Below.refl _ _ | apply below_alloc | apply pw_below_drewN | apply below_drew1) | exact Below.refl _ _)) hb))
  have HNg0 := am_ (show ∀ k, InH hsg0 k → some k ≠ v2.ownBlock from fun k ⟨i, a, q1, q2⟩ => hn i a q1 k q2)
  have HTg0 := am_ (R_types ho2 ho1.row (by decide))
  have HVg0 := am_ (RowsA.ivo (a := w5.heap.size) ho1 (below_size (by repeat (first | (with_reducible first | exact Below.refl _ _ | apply below_alloc | apply pw_below_drewN | apply below_drew1) | exact Below.refl _ _))))
  have HIg0 := am_ (RowsA.ivi (a := w5.heap.size) ho1 (below_size (by repeat (first | (with_reducible first | exact Below.refl _ _ | apply below_alloc | apply pw_below_drewN | apply below_drew1) | exact Below.refl _ _))))
  have HOg0 := am_ (RowsA.lower ho1 (below_size (by repeat (first | (with_reducible first | exact HB5.out | apply below_alloc | apply pw_below_drewN | apply below_drew1) | exact HB5.out))))
  obtain ⟨Arg0, crg0, erg0⟩ := Kd.R_slice HOg0.out.row
  rw [HOg0.out.len] at erg0
  subst erg0
  have HOg1 := am_ (R_ivp (a := w5.heap.size) (b := w.heap.size) ho2 (below_size (by repeat (first | (with_reducible first | exact Below.refl _ _ | apply below_alloc | apply pw_below_drewN | apply below_drew1) | exact Below.refl _ _))) (below_size (by repeat (first | (with_reducible first | exact HB5.out | apply below_alloc | apply pw_below_drewN | apply below_drew1) | exact HB5.out))))
  obtain ⟨Arg1, crg1, erg1⟩ := Kd.R_slice HOg1.out
  subst erg1
  clear hn ho1 ho2 hb
  go_wp2_with fail
  refine (laws_eqIntSS.calls kX2 _ _ (runA L0 l1).1 _ _ (runA L0 l1).1 true _ (by repeat (first | exact (Kd.R_reads' (RowsA.asR HOg0.out)).2.2 | (with_reducible refine Kd.C_alloc ?_ _) | (with_reducible refine Kd.C_drewN ?_ _) | (with_reducible refine Kd.C_drew ?_))) (Kd.R_reads' (RowsA.asR HOg0.out)).2.1 (by repeat (first | exact (Kd.R_reads' HOw0.out).2.2 | (with_reducible refine Kd.C_alloc ?_ _) | (with_reducible refine Kd.C_drewN ?_ _) | (with_reducible refine Kd.C_drew ?_))) (Kd.R_reads' HOw0.out).2.1 X2.out).mono ?_
  rintro e w7 ⟨rfl, hb0⟩
  have hb := db_ hb0
  clear hb0
  have n_ := am_ (Kd.R_below (by (with_reducible repeat (first | apply Kd.R_alloc | apply Kd.R_drewN | apply Kd.R_drew)); exact HOw0.out) hb); clear HOw0; have HOw0 := n_; clear n_
  have n_ := am_ (Kd.R_below (by (with_reducible repeat (first | apply Kd.R_alloc | apply Kd.R_drewN | apply Kd.R_drew)); exact HOw1.out) hb); clear HOw1; have HOw1 := n_; clear n_
  have n_ := am_ (Kd.R_below (by (with_reducible repeat (first | apply Kd.R_alloc | apply Kd.R_drewN | apply Kd.R_drew)); exact HOx0.out) hb); clear HOx0; have HOx0 := n_; clear n_
  have n_ := am_ (Kd.R_below (by (with_reducible repeat (first | apply Kd.R_alloc | apply Kd.R_drewN | apply Kd.R_drew)); exact HOx1.out) hb); clear HOx1; have HOx1 := n_; clear n_
  have n_ := am_ (RowsA.below (by (with_reducible repeat (first | apply RowsA.alloc | apply RowsA.drewN | apply RowsA.drew)); exact HOg0.out) hb); clear HOg0; have HOg0 := n_; clear n_
  have n_ := am_ (Kd.R_below (by (with_reducible repeat (first | apply Kd.R_alloc | apply Kd.R_drewN | apply Kd.R_drew)); exact HOg1.out) hb); clear HOg1; have HOg1 := n_; clear n_
  have HB7 := am_ (below_step (by repeat (first | (with_reducible first | exact HB6.out | apply below_alloc | apply pw_below_drewN | apply below_drew1) | exact HB6.out)) hb)
  have SZ7 := am_ (show w6.heap.size ≤ w7.heap.size from below_size (below_step (by repeat (first | (with_reducible first | exact Below.refl _ _ | apply below_alloc | apply pw_below_drewN | apply below_drew1) | exact Below.refl _ _)) hb))
  clear hb
  go_wp2_with fail
  refine (laws_eqIntS.calls kX3 _ _ (runA L0 l1).2.1 _ _ (runA L0 l1).2.1 true _ (by repeat (first | exact (Kd.R_reads' HOg1.out).2.2 | (with_reducible refine Kd.C_alloc ?_ _) | (with_reducible refine Kd.C_drewN ?_ _) | (with_reducible refine Kd.C_drew ?_))) (Kd.R_reads' HOg1.out).2.1 (by repeat (first | exact (Kd.R_reads' HOw1.out).2.2 | (with_reducible refine Kd.C_alloc ?_ _) | (with_reducible refine Kd.C_drewN ?_ _) | (with_reducible refine Kd.C_drew ?_))) (Kd.R_reads' HOw1.out).2.1 X3.out).mono ?_
  rintro e w8 ⟨rfl, hb0⟩
  have hb := db_ hb0
  clear hb0
  have n_ := am_ (Kd.R_below (by (with_reducible repeat (first | apply Kd.R_alloc | apply Kd.R_drewN | apply Kd.R_drew)); exact HOw0.out) hb); clear HOw0; have HOw0 := n_; clear n_
  have n_ := am_ (Kd.R_below (by (with_reducible repeat (first | apply Kd.R_alloc | apply Kd.R_drewN | apply Kd.R_drew)); exact HOw1.out) hb); clear HOw1; have HOw1 := n_; clear n_
  have n_ := am_ (Kd.R_below (by (with_reducible repeat (first | apply Kd.R_alloc | apply Kd.R_drewN | apply Kd.R_drew)); exact HOx0.out) hb); clear HOx0; have HOx0 := n_; clear n_
  have n_ := am_ (Kd.R_below (by (with_reducible repeat (first | apply Kd.R_alloc | apply Kd.R_drewN | apply Kd.R_drew)); exact HOx1.out) hb); clear HOx1; have HOx1 := n_; clear n_
  have n_ := am_ (RowsA.below (by (with_reducible repeat (first | apply RowsA.alloc | apply RowsA.drewN | apply RowsA.drew)); exact HOg0.out) hb); clear HOg0; have HOg0 := n_; clear n_
  have n_ := am_ (Kd.R_below (by (with_reducible repeat (first | apply Kd.R_alloc | apply Kd.R_drewN | apply Kd.R_drew)); exact HOg1.out) hb); clear HOg1; have HOg1 := n_; clear n_
  have HB8 := am_ (below_step (by repeat (first | (with_reducible first | exact HB7.out | apply below_alloc | apply pw_below_drewN | apply below_drew1) | exact HB7.out)) hb)
  have SZ8 := am_ (show w7.heap.size ≤ w8.heap.size from below_size (below_step (by repeat (first | (with_reducible first | exact Below.refl _ _ | apply below_alloc | apply pw_below_drewN | apply below_drew1) | exact Below.refl _ _)) hb))
  clear hb
  go_wp2_with fail
  refine (laws_toTrancheS.calls kX0 _ _ l0 _ _ (by repeat (first | exact (Kd.C_below HR0.out HB8.out) | (with_reducible refine Kd.C_alloc ?_ _) | (with_reducible refine Kd.C_drewN ?_ _) | (with_reducible refine Kd.C_drew ?_))) HC0.out X0.out).mono ?_
  rintro e w9 ⟨v, rfl, ho, hb⟩
  have n_ := am_ (Kd.R_below (by (with_reducible repeat (first | apply Kd.R_alloc | apply Kd.R_drewN | apply Kd.R_drew)); exact HOw0.out) hb); clear HOw0; have HOw0 := n_; clear n_
  have n_ := am_ (Kd.R_below (by (with_reducible repeat (first | apply Kd.R_alloc | apply Kd.R_drewN | apply Kd.R_drew)); exact HOw1.out) hb); clear HOw1; have HOw1 := n_; clear n_
  have n_ := am_ (Kd.R_below (by (with_reducible repeat (first | apply Kd.R_alloc | apply Kd.R_drewN | apply Kd.R_drew)); exact HOx0.out) hb); clear HOx0; have HOx0 := n_; clear n_
  have n_ := am_ (Kd.R_below (by (with_reducible repeat (first | apply Kd.R_alloc | apply Kd.R_drewN | apply Kd.R_drew)); exact HOx1.out) hb); clear HOx1; have HOx1 := n_; clear n_
  have n_ := am_ (RowsA.below (by (with_reducible repeat (first | apply RowsA.alloc | apply RowsA.drewN | apply RowsA.drew)); exact HOg0.out) hb); clear HOg0; have HOg0 := n_; clear n_
  have n_ := am_ (Kd.R_below (by (with_reducible repeat (first | apply Kd.R_alloc | apply Kd.R_drewN | apply Kd.R_drew)); exact HOg1.out) hb); clear HOg1; have HOg1 := n_; clear n_
  have HB9 := am_ (below_step (by repeat (first | (with_reducible first | exact HB8.out | apply below_alloc | apply pw_below_drewN | apply below_drew1) | exact HB8.out)) hb)
  have SZ9 := am_ (show w8.heap.size ≤ w9.heap.size from below_size (below_step (by repeat (first | (with_reducible first | exact Below.refl _ _ | apply below_alloc | apply pw_below_drewN | apply below_drew1) | exact Below.refl _ _)) hb))
  have HOt3 := am_ (R_ivw (a := w8.heap.size) (b := w.heap.size) ho (below_size (by repeat (first | (with_reducible first | exact Below.refl _ _ | apply below_alloc | apply pw_below_drewN | apply below_drew1) | exact Below.refl _ _))) (below_size (by repeat (first | (with_reducible first | exact HB8.out | apply below_alloc | apply pw_below_drewN | apply below_drew1) | exact HB8.out))))
  obtain ⟨Art3, crt3, ert3⟩ := Kd.R_slice HOt3.out
  subst ert3
  clear ho hb
  go_wp2_with fail
  refine (laws_eqTrancheS.calls kX4 _ _ L0 _ _ L0 true _ (by repeat (first | exact (Kd.R_reads' HOx0.out).2.2 | (with_reducible refine Kd.C_alloc ?_ _) | (with_reducible refine Kd.C_drewN ?_ _) | (with_reducible refine Kd.C_drew ?_))) (Kd.R_reads' HOx0.out).2.1 (by repeat (first | exact (Kd.R_reads' HOt3.out).2.2 | (with_reducible refine Kd.C_alloc ?_ _) | (with_reducible refine Kd.C_drewN ?_ _) | (with_reducible refine Kd.C_drew ?_))) (Kd.R_reads' HOt3.out).2.1 X4.out).mono ?_
  rintro e w10 ⟨rfl, hb⟩
  have n_ := am_ (Kd.R_below (by (with_reducible repeat (first | apply Kd.R_alloc | apply Kd.R_drewN | apply Kd.R_drew)); exact HOw0.out) hb); clear HOw0; have HOw0 := n_; clear n_
  have n_ := am_ (Kd.R_below (by (with_reducible repeat (first | apply Kd.R_alloc | apply Kd.R_drewN | apply Kd.R_drew)); exact HOw1.out) hb); clear HOw1; have HOw1 := n_; clear n_
  have n_ := am_ (Kd.R_below (by (with_reducible repeat (first | apply Kd.R_alloc | apply Kd.R_drewN | apply Kd.R_drew)); exact HOx0.out) hb); clear HOx0; have HOx0 := n_; clear n_
  have n_ := am_ (Kd.R_below (by (with_reducible repeat (first | apply Kd.R_alloc | apply Kd.R_drewN | apply Kd.R_drew)); exact HOx1.out) hb); clear HOx1; have HOx1 := n_; clear n_
  have n_ := am_ (RowsA.below (by (with_reducible repeat (first | apply RowsA.alloc | apply RowsA.drewN | apply RowsA.drew)); exact HOg0.out) hb); clear HOg0; have HOg0 := n_; clear n_
  have n_ := am_ (Kd.R_below (by (with_reducible repeat (first | apply Kd.R_alloc | apply Kd.R_drewN | apply Kd.R_drew)); exact HOg1.out) hb); clear HOg1; have HOg1 := n_; clear n_
  have n_ := am_ (Kd.R_below (by (with_reducible repeat (first | apply Kd.R_alloc | apply Kd.R_drewN | apply Kd.R_drew)); exact HOt3.out) hb); clear HOt3; have HOt3 := n_; clear n_
  have HB10 := am_ (below_step (by repeat (first | (with_reducible first | exact HB9.out | apply below_alloc | apply pw_below_drewN | apply below_drew1) | exact HB9.out)) hb)
  have SZ10 := am_ (show w9.heap.size ≤ w10.heap.size from below_size (below_step (by repeat (first | (with_reducible first | exact Below.refl _ _ | apply below_alloc | apply pw_below_drewN | apply below_drew1) | exact Below.refl _ _)) hb))
  clear hb
  go_wp2_with fail
  refine (laws_toIntS.calls kX1 _ _ l1 _ _ (by repeat (first | exact (Kd.C_below HR1.out HB10.out) | (with_reducible refine Kd.C_alloc ?_ _) | (with_reducible refine Kd.C_drewN ?_ _) | (with_reducible refine Kd.C_drew ?_))) HC1.out X1.out).mono ?_
  rintro e w11 ⟨v, rfl, ho, hb⟩
  have n_ := am_ (Kd.R_below (by (with_reducible repeat (first | apply Kd.R_alloc | apply Kd.R_drewN | apply Kd.R_drew)); exact HOw0.out) hb); clear HOw0; have HOw0 := n_; clear n_
  have n_ := am_ (Kd.R_below (by (with_reducible repeat (first | apply Kd.R_alloc | apply Kd.R_drewN | apply Kd.R_drew)); exact HOw1.out) hb); clear HOw1; have HOw1 := n_; clear n_
  have n_ := am_ (Kd.R_below (by (with_reducible repeat (first | apply Kd.R_alloc | apply Kd.R_drewN | apply Kd.R_drew)); exact HOx0.out) hb); clear HOx0; have HOx0 := n_; clear n_
  have n_ := am_ (Kd.R_below (by (with_reducible repeat (first | apply Kd.R_alloc | apply Kd.R_drewN | apply Kd.R_drew)); exact HOx1.out) hb); clear HOx1; have HOx1 := n_; clear n_
  have n_ := am_ (RowsA.below (by (with_reducible repeat (first | apply RowsA.alloc | apply RowsA.drewN | apply RowsA.drew)); exact HOg0.out) hb); clear HOg0; have HOg0 := n_; clear n_
  have n_ := am_ (Kd.R_below (by (with_reducible repeat (first | apply Kd.R_alloc | apply Kd.R_drewN | apply Kd.R_drew)); exact HOg1.out) hb); clear HOg1; have HOg1 := n_; clear n_
  have HB11 := am_ (below_step (by repeat (first | (with_reducible first | exact HB10.out | apply below_alloc | apply pw_below_drewN | apply below_drew1) | exact HB10.out)) hb)
  have SZ11 := am_ (show w10.heap.size ≤ w11.heap.size from below_size (below_step (by repeat (first | (with_reducible first | exact Below.refl _ _ | apply below_alloc | apply pw_below_drewN | apply below_drew1) | exact Below.refl _ _)) hb))
  have HOt4 := am_ (R_ivw (a := w10.heap.size) (b := w.heap.size) ho (below_size (by repeat (first | (with_reducible first | exact Below.refl _ _ | apply below_alloc | apply pw_below_drewN | apply below_drew1) | exact Below.refl _ _))) (below_size (by repeat (first | (with_reducible first | exact HB10.out | apply below_alloc | apply pw_below_drewN | apply below_drew1) | exact HB10.out))))
  obtain ⟨Art4, crt4, ert4⟩ := Kd.R_slice HOt4.out
  subst ert4
  clear ho hb
  go_wp2_with fail
  refine (laws_eqIntS.calls kX5 _ _ l1 _ _ l1 true _ (by repeat (first | exact (Kd.R_reads' HOx1.out).2.2 | (with_reducible refine Kd.C_alloc ?_ _) | (with_reducible refine Kd.C_drewN ?_ _) | (with_reducible refine Kd.C_drew ?_))) (Kd.R_reads' HOx1.out).2.1 (by repeat (first | exact (Kd.R_reads' HOt4.out).2.2 | (with_reducible refine Kd.C_alloc ?_ _) | (with_reducible refine Kd.C_drewN ?_ _) | (with_reducible refine Kd.C_drew ?_))) (Kd.R_reads' HOt4.out).2.1 X5.out).mono ?_
  rintro e w12 ⟨rfl, hb0⟩
  have hb := db_ hb0
  clear hb0
  have n_ := am_ (Kd.R_below (by (with_reducible repeat (first | apply Kd.R_alloc | apply Kd.R_drewN | apply Kd.R_drew)); exact HOw0.out) hb); clear HOw0; have HOw0 := n_; clear n_
  have n_ := am_ (Kd.R_below (by (with_reducible repeat (first | apply Kd.R_alloc | apply Kd.R_drewN | apply Kd.R_drew)); exact HOw1.out) hb); clear HOw1; have HOw1 := n_; clear n_
  have n_ := am_ (Kd.R_below (by (with_reducible repeat (first | apply Kd.R_alloc | apply Kd.R_drewN | apply Kd.R_drew)); exact HOx0.out) hb); clear HOx0; have HOx0 := n_; clear n_
  have n_ := am_ (Kd.R_below (by (with_reducible repeat (first | apply Kd.R_alloc | apply Kd.R_drewN | apply Kd.R_drew)); exact HOx1.out) hb); clear HOx1; have HOx1 := n_; clear n_
  have n_ := am_ (RowsA.below (by (with_reducible repeat (first | apply RowsA.alloc | apply RowsA.drewN | apply RowsA.drew)); exact HOg0.out) hb); clear HOg0; have HOg0 := n_; clear n_
  have n_ := am_ (Kd.R_below (by (with_reducible repeat (first | apply Kd.R_alloc | apply Kd.R_drewN | apply Kd.R_drew)); exact HOg1.out) hb); clear HOg1; have HOg1 := n_; clear n_
  have n_ := am_ (Kd.R_below (by (with_reducible repeat (first | apply Kd.R_alloc | apply Kd.R_drewN | apply Kd.R_drew)); exact HOt4.out) hb); clear HOt4; have HOt4 := n_; clear n_
  have HB12 := am_ (below_step (by repeat (first | (with_reducible first | exact HB11.out | apply below_alloc | apply pw_below_drewN | apply below_drew1) | exact HB11.out)) hb)
  have SZ12 := am_ (show w11.heap.size ≤ w12.heap.size from below_size (below_step (by repeat (first | (with_reducible first | exact Below.refl _ _ | apply below_alloc | apply pw_below_drewN | apply below_drew1) | exact Below.refl _ _)) hb))
  clear hb
  go_wp2_with fail
  refine (laws_markTrancheS.calls kX6 (Iv w3.heap.size w4.heap.size) _ L0 1 _ _ w _ (by repeat (first | (with_reducible first | exact HB12.out | apply below_alloc | apply pw_below_drewN | apply below_drew1) | exact HB12.out)) (by (with_reducible repeat (first | apply Kd.R_alloc | apply Kd.R_drewN | apply Kd.R_drew)); exact HOx0.out) X6.out).mono ?_
  rintro e w13 ⟨rfl, ho, hb, hk⟩
  have n_ := am_ (Kd.R_kept (by (with_reducible repeat (first | apply Kd.R_alloc | apply Kd.R_drewN | apply Kd.R_drew)); exact HOw0.out) hk (fun k h1_ h2_ => by have a_ := h1_.1; have b_ := h1_.2; have c_ := h2_.1; have d_ := h2_.2; have SZ1_ := SZ1.out; have SZ2_ := SZ2.out; have SZ3_ := SZ3.out; have SZ4_ := SZ4.out; have SZ5_ := SZ5.out; have SZ6_ := SZ6.out; have SZ7_ := SZ7.out; have SZ8_ := SZ8.out; have SZ9_ := SZ9.out; have SZ10_ := SZ10.out; have SZ11_ := SZ11.out; have SZ12_ := SZ12.out; omega)); clear HOw0; have HOw0 := n_; clear n_
  have n_ := am_ (Kd.R_kept (by (with_reducible repeat (first | apply Kd.R_alloc | apply Kd.R_drewN | apply Kd.R_drew)); exact HOw1.out) hk (fun k h1_ h2_ => by have a_ := h1_.1; have b_ := h1_.2; have c_ := h2_.1; have d_ := h2_.2; have SZ1_ := SZ1.out; have SZ2_ := SZ2.out; have SZ3_ := SZ3.out; have SZ4_ := SZ4.out; have SZ5_ := SZ5.out; have SZ6_ := SZ6.out; have SZ7_ := SZ7.out; have SZ8_ := SZ8.out; have SZ9_ := SZ9.out; have SZ10_ := SZ10.out; have SZ11_ := SZ11.out; have SZ12_ := SZ12.out; omega)); clear HOw1; have HOw1 := n_; clear n_
  have n_ := am_ (Kd.R_kept (by (with_reducible repeat (first | apply Kd.R_alloc | apply Kd.R_drewN | apply Kd.R_drew)); exact HOx1.out) hk (fun k h1_ h2_ => by have a_ := h1_.1; have b_ := h1_.2; have c_ := h2_.1; have d_ := h2_.2; have SZ1_ := SZ1.out; have SZ2_ := SZ2.out; have SZ3_ := SZ3.out; have SZ4_ := SZ4.out; have SZ5_ := SZ5.out; have SZ6_ := SZ6.out; have SZ7_ := SZ7.out; have SZ8_ := SZ8.out; have SZ9_ := SZ9.out; have SZ10_ := SZ10.out; have SZ11_ := SZ11.out; have SZ12_ := SZ12.out; omega)); clear HOx1; have HOx1 := n_; clear n_
  have n_ := am_ (RowsA.offKept (by (with_reducible repeat (first | apply RowsA.alloc | apply RowsA.drewN | apply RowsA.drew)); exact HOg0.out) hk (fun k h1_ h2_ => by have a_ := (HVg0.out k h1_).1; have b_ := (HVg0.out k h1_).2; have c_ := h2_.1; have d_ := h2_.2; have SZ1_ := SZ1.out; have SZ2_ := SZ2.out; have SZ3_ := SZ3.out; have SZ4_ := SZ4.out; have SZ5_ := SZ5.out; have SZ6_ := SZ6.out; have SZ7_ := SZ7.out; have SZ8_ := SZ8.out; have SZ9_ := SZ9.out; have SZ10_ := SZ10.out; have SZ11_ := SZ11.out; have SZ12_ := SZ12.out; omega) (fun k h1_ h2_ => by have a_ := (HIg0.out k h1_).1; have b_ := (HIg0.out k h1_).2; have c_ := h2_.1; have d_ := h2_.2; have SZ1_ := SZ1.out; have SZ2_ := SZ2.out; have SZ3_ := SZ3.out; have SZ4_ := SZ4.out; have SZ5_ := SZ5.out; have SZ6_ := SZ6.out; have SZ7_ := SZ7.out; have SZ8_ := SZ8.out; have SZ9_ := SZ9.out; have SZ10_ := SZ10.out; have SZ11_ := SZ11.out; have SZ12_ := SZ12.out; omega)); clear HOg0; have HOg0 := n_; clear n_
  have n_ := am_ (Kd.R_kept (by (with_reducible repeat (first | apply Kd.R_alloc | apply Kd.R_drewN | apply Kd.R_drew)); exact HOg1.out) hk (fun k h1_ h2_ => by have a_ := h1_.1.1; have b_ := h1_.1.2; have c_ := h2_.1; have d_ := h2_.2; have SZ1_ := SZ1.out; have SZ2_ := SZ2.out; have SZ3_ := SZ3.out; have SZ4_ := SZ4.out; have SZ5_ := SZ5.out; have SZ6_ := SZ6.out; have SZ7_ := SZ7.out; have SZ8_ := SZ8.out; have SZ9_ := SZ9.out; have SZ10_ := SZ10.out; have SZ11_ := SZ11.out; have SZ12_ := SZ12.out; omega)); clear HOg1; have HOg1 := n_; clear n_
  have HB13 := am_ hb
  have SZ13 := am_ (show w12.heap.size ≤ w13.heap.size from hk.1)
  have n_ := am_ (R_flat flat_Tranche ho HOx0.out.1); clear HOx0; have HOx0 := n_; clear n_
  clear ho hb hk
  go_wp2_with fail
  refine (laws_markIntS.calls kX7 (Iv w4.heap.size w5.heap.size) _ l1 mX6 _ _ w _ (by repeat (first | (with_reducible first | exact HB13.out | apply below_alloc | apply pw_below_drewN | apply below_drew1) | exact HB13.out)) (by (with_reducible repeat (first | apply Kd.R_alloc | apply Kd.R_drewN | apply Kd.R_drew)); exact HOx1.out) X7.out).mono ?_
  rintro e w14 ⟨rfl, ho, hb, hk⟩
  have n_ := am_ (Kd.R_kept (by (with_reducible repeat (first | apply Kd.R_alloc | apply Kd.R_drewN | apply Kd.R_drew)); exact HOw0.out) hk (fun k h1_ h2_ => by have a_ := h1_.1; have b_ := h1_.2; have c_ := h2_.1; have d_ := h2_.2; have SZ1_ := SZ1.out; have SZ2_ := SZ2.out; have SZ3_ := SZ3.out; have SZ4_ := SZ4.out; have SZ5_ := SZ5.out; have SZ6_ := SZ6.out; have SZ7_ := SZ7.out; have SZ8_ := SZ8.out; have SZ9_ := SZ9.out; have SZ10_ := SZ10.out; have SZ11_ := SZ11.out; have SZ12_ := SZ12.out; have SZ13_ := SZ13.out; omega)); clear HOw0; have HOw0 := n_; clear n_
  have n_ := am_ (Kd.R_kept (by (with_reducible repeat (first | apply Kd.R_alloc | apply Kd.R_drewN | apply Kd.R_drew)); exact HOw1.out) hk (fun k h1_ h2_ => by have a_ := h1_.1; have b_ := h1_.2; have c_ := h2_.1; have d_ := h2_.2; have SZ1_ := SZ1.out; have SZ2_ := SZ2.out; have SZ3_ := SZ3.out; have SZ4_ := SZ4.out; have SZ5_ := SZ5.out; have SZ6_ := SZ6.out; have SZ7_ := SZ7.out; have SZ8_ := SZ8.out; have SZ9_ := SZ9.out; have SZ10_ := SZ10.out; have SZ11_ := SZ11.out; have SZ12_ := SZ12.out; have SZ13_ := SZ13.out; omega)); clear HOw1; have HOw1 := n_; clear n_
  have n_ := am_ (Kd.R_kept (by (with_reducible repeat (first | apply Kd.R_alloc | apply Kd.R_drewN | apply Kd.R_drew)); exact HOx0.out) hk (fun k h1_ h2_ => by have a_ := h1_.1; have b_ := h1_.2; have c_ := h2_.1; have d_ := h2_.2; have SZ1_ := SZ1.out; have SZ2_ := SZ2.out; have SZ3_ := SZ3.out; have SZ4_ := SZ4.out; have SZ5_ := SZ5.out; have SZ6_ := SZ6.out; have SZ7_ := SZ7.out; have SZ8_ := SZ8.out; have SZ9_ := SZ9.out; have SZ10_ := SZ10.out; have SZ11_ := SZ11.out; have SZ12_ := SZ12.out; have SZ13_ := SZ13.out; omega)); clear HOx0; have HOx0 := n_; clear n_
  have n_ := am_ (RowsA.offKept (by (with_reducible repeat (first | apply RowsA.alloc | apply RowsA.drewN | apply RowsA.drew)); exact HOg0.out) hk (fun k h1_ h2_ => by have a_ := (HVg0.out k h1_).1; have b_ := (HVg0.out k h1_).2; have c_ := h2_.1; have d_ := h2_.2; have SZ1_ := SZ1.out; have SZ2_ := SZ2.out; have SZ3_ := SZ3.out; have SZ4_ := SZ4.out; have SZ5_ := SZ5.out; have SZ6_ := SZ6.out; have SZ7_ := SZ7.out; have SZ8_ := SZ8.out; have SZ9_ := SZ9.out; have SZ10_ := SZ10.out; have SZ11_ := SZ11.out; have SZ12_ := SZ12.out; have SZ13_ := SZ13.out; omega) (fun k h1_ h2_ => by have a_ := (HIg0.out k h1_).1; have b_ := (HIg0.out k h1_).2; have c_ := h2_.1; have d_ := h2_.2; have SZ1_ := SZ1.out; have SZ2_ := SZ2.out; have SZ3_ := SZ3.out; have SZ4_ := SZ4.out; have SZ5_ := SZ5.out; have SZ6_ := SZ6.out; have SZ7_ := SZ7.out; have SZ8_ := SZ8.out; have SZ9_ := SZ9.out; have SZ10_ := SZ10.out; have SZ11_ := SZ11.out; have SZ12_ := SZ12.out; have SZ13_ := SZ13.out; omega)); clear HOg0; have HOg0 := n_; clear n_
  have n_ := am_ (Kd.R_kept (by (with_reducible repeat (first | apply Kd.R_alloc | apply Kd.R_drewN | apply Kd.R_drew)); exact HOg1.out) hk (fun k h1_ h2_ => by have a_ := h1_.1.1; have b_ := h1_.1.2; have c_ := h2_.1; have d_ := h2_.2; have SZ1_ := SZ1.out; have SZ2_ := SZ2.out; have SZ3_ := SZ3.out; have SZ4_ := SZ4.out; have SZ5_ := SZ5.out; have SZ6_ := SZ6.out; have SZ7_ := SZ7.out; have SZ8_ := SZ8.out; have SZ9_ := SZ9.out; have SZ10_ := SZ10.out; have SZ11_ := SZ11.out; have SZ12_ := SZ12.out; have SZ13_ := SZ13.out; omega)); clear HOg1; have HOg1 := n_; clear n_
  have HB14 := am_ hb
  have SZ14 := am_ (show w13.heap.size ≤ w14.heap.size from hk.1)
  have n_ := am_ (R_flat flat_int ho HOx1.out.1); clear HOx1; have HOx1 := n_; clear n_
  clear ho hb hk
  go_wp2_with fail
  refine (laws_eqIntSS.calls kX2 _ _ (runA L0 l1).1 _ _ (runA L0 l1).1 true _ (by repeat (first | exact (Kd.R_reads' (RowsA.asR HOg0.out)).2.2 | (with_reducible refine Kd.C_alloc ?_ _) | (with_reducible refine Kd.C_drewN ?_ _) | (with_reducible refine Kd.C_drew ?_))) (Kd.R_reads' (RowsA.asR HOg0.out)).2.1 (by repeat (first | exact (Kd.R_reads' HOw0.out).2.2 | (with_reducible refine Kd.C_alloc ?_ _) | (with_reducible refine Kd.C_drewN ?_ _) | (with_reducible refine Kd.C_drew ?_))) (Kd.R_reads' HOw0.out).2.1 X2.out).mono ?_
  rintro e w15 ⟨rfl, hb0⟩
  have hb := db_ hb0
  clear hb0
  have n_ := am_ (Kd.R_below (by (with_reducible repeat (first | apply Kd.R_alloc | apply Kd.R_drewN | apply Kd.R_drew)); exact HOw0.out) hb); clear HOw0; have HOw0 := n_; clear n_
  have n_ := am_ (Kd.R_below (by (with_reducible repeat (first | apply Kd.R_alloc | apply Kd.R_drewN | apply Kd.R_drew)); exact HOw1.out) hb); clear HOw1; have HOw1 := n_; clear n_
  have n_ := am_ (Kd.R_below (by (with_reducible repeat (first | apply Kd.R_alloc | apply Kd.R_drewN | apply Kd.R_drew)); exact HOx0.out) hb); clear HOx0; have HOx0 := n_; clear n_
  have n_ := am_ (Kd.R_below (by (with_reducible repeat (first | apply Kd.R_alloc | apply Kd.R_drewN | apply Kd.R_drew)); exact HOx1.out) hb); clear HOx1; have HOx1 := n_; clear n_
  have n_ := am_ (RowsA.below (by (with_reducible repeat (first | apply RowsA.alloc | apply RowsA.drewN | apply RowsA.drew)); exact HOg0.out) hb); clear HOg0; have HOg0 := n_; clear n_
  have n_ := am_ (Kd.R_below (by (with_reducible repeat (first | apply Kd.R_alloc | apply Kd.R_drewN | apply Kd.R_drew)); exact HOg1.out) hb); clear HOg1; have HOg1 := n_; clear n_
  have HB15 := am_ (below_step (by repeat (first | (with_reducible first | exact HB14.out | apply below_alloc | apply pw_below_drewN | apply below_drew1) | exact HB14.out)) hb)
  have SZ15 := am_ (show w14.heap.size ≤ w15.heap.size from below_size (below_step (by repeat (first | (with_reducible first | exact Below.refl _ _ | apply below_alloc | apply pw_below_drewN | apply below_drew1) | exact Below.refl _ _)) hb))
  clear hb
  go_wp2_with fail
  refine (laws_eqIntS.calls kX3 _ _ (runA L0 l1).2.1 _ _ (runA L0 l1).2.1 true _ (by repeat (first | exact (Kd.R_reads' HOg1.out).2.2 | (with_reducible refine Kd.C_alloc ?_ _) | (with_reducible refine Kd.C_drewN ?_ _) | (with_reducible refine Kd.C_drew ?_))) (Kd.R_reads' HOg1.out).2.1 (by repeat (first | exact (Kd.R_reads' HOw1.out).2.2 | (with_reducible refine Kd.C_alloc ?_ _) | (with_reducible refine Kd.C_drewN ?_ _) | (with_reducible refine Kd.C_drew ?_))) (Kd.R_reads' HOw1.out).2.1 X3.out).mono ?_
  rintro e w16 ⟨rfl, hb0⟩
  have hb := db_ hb0
  clear hb0
  have n_ := am_ (Kd.R_below (by (with_reducible repeat (first | apply Kd.R_alloc | apply Kd.R_drewN | apply Kd.R_drew)); exact HOw0.out) hb); clear HOw0; have HOw0 := n_; clear n_
  have n_ := am_ (Kd.R_below (by (with_reducible repeat (first | apply Kd.R_alloc | apply Kd.R_drewN | apply Kd.R_drew)); exact HOw1.out) hb); clear HOw1; have HOw1 := n_; clear n_
  have n_ := am_ (Kd.R_below (by (with_reducible repeat (first | apply Kd.R_alloc | apply Kd.R_drewN | apply Kd.R_drew)); exact HOx0.out) hb); clear HOx0; have HOx0 := n_; clear n_
  have n_ := am_ (Kd.R_below (by (with_reducible repeat (first | apply Kd.R_alloc | apply Kd.R_drewN | apply Kd.R_drew)); exact HOx1.out) hb); clear HOx1; have HOx1 := n_; clear n_
  have n_ := am_ (RowsA.below (by (with_reducible repeat (first | apply RowsA.alloc | apply RowsA.drewN | apply RowsA.drew)); exact HOg0.out) hb); clear HOg0; have HOg0 := n_; clear n_
  have n_ := am_ (Kd.R_below (by (with_reducible repeat (first | apply Kd.R_alloc | apply Kd.R_drewN | apply Kd.R_drew)); exact HOg1.out) hb); clear HOg1; have HOg1 := n_; clear n_
  have HB16 := am_ (below_step (by repeat (first | (with_reducible first | exact HB15.out | apply below_alloc | apply pw_below_drewN | apply below_drew1) | exact HB15.out)) hb)
  have SZ16 := am_ (show w15.heap.size ≤ w16.heap.size from below_size (below_step (by repeat (first | (with_reducible first | exact Below.refl _ _ | apply below_alloc | apply pw_below_drewN | apply below_drew1) | exact Below.refl _ _)) hb))
  clear hb
  go_wp2_with fail
  refine (markSS_cc _ _ (runA L0 l1).1 1 mR8 UR8 w _ MR8.out ZR8.out (by repeat (first | (with_reducible first | exact HB16.out | apply below_alloc | apply pw_below_drewN | apply below_drew1) | exact HB16.out)) (by (with_reducible repeat (first | apply RowsA.alloc | apply RowsA.drewN | apply RowsA.drew)); exact HOg0.out) (by omega) (by have h_ := HTOT.out; omega) (by have h_ := HL0.out; omega) HMEM.out).mono ?_
  rintro e w17 ⟨rfl, ho, hb, hk⟩
  have n_ := am_ (Kd.R_kept (by (with_reducible repeat (first | apply Kd.R_alloc | apply Kd.R_drewN | apply Kd.R_drew)); exact HOw0.out) hk (fun k h1_ h2_ => by have a_ := h1_.1; have b_ := h1_.2; have c_ := (HIg0.out k h2_).1; have d_ := (HIg0.out k h2_).2; have SZ1_ := SZ1.out; have SZ2_ := SZ2.out; have SZ3_ := SZ3.out; have SZ4_ := SZ4.out; have SZ5_ := SZ5.out; have SZ6_ := SZ6.out; have SZ7_ := SZ7.out; have SZ8_ := SZ8.out; have SZ9_ := SZ9.out; have SZ10_ := SZ10.out; have SZ11_ := SZ11.out; have SZ12_ := SZ12.out; have SZ13_ := SZ13.out; have SZ14_ := SZ14.out; have SZ15_ := SZ15.out; have SZ16_ := SZ16.out; omega)); clear HOw0; have HOw0 := n_; clear n_
  have n_ := am_ (Kd.R_kept (by (with_reducible repeat (first | apply Kd.R_alloc | apply Kd.R_drewN | apply Kd.R_drew)); exact HOw1.out) hk (fun k h1_ h2_ => by have a_ := h1_.1; have b_ := h1_.2; have c_ := (HIg0.out k h2_).1; have d_ := (HIg0.out k h2_).2; have SZ1_ := SZ1.out; have SZ2_ := SZ2.out; have SZ3_ := SZ3.out; have SZ4_ := SZ4.out; have SZ5_ := SZ5.out; have SZ6_ := SZ6.out; have SZ7_ := SZ7.out; have SZ8_ := SZ8.out; have SZ9_ := SZ9.out; have SZ10_ := SZ10.out; have SZ11_ := SZ11.out; have SZ12_ := SZ12.out; have SZ13_ := SZ13.out; have SZ14_ := SZ14.out; have SZ15_ := SZ15.out; have SZ16_ := SZ16.out; omega)); clear HOw1; have HOw1 := n_; clear n_
  have n_ := am_ (Kd.R_kept (by (with_reducible repeat (first | apply Kd.R_alloc | apply Kd.R_drewN | apply Kd.R_drew)); exact HOx0.out) hk (fun k h1_ h2_ => by have a_ := h1_.1; have b_ := h1_.2; have c_ := (HIg0.out k h2_).1; have d_ := (HIg0.out k h2_).2; have SZ1_ := SZ1.out; have SZ2_ := SZ2.out; have SZ3_ := SZ3.out; have SZ4_ := SZ4.out; have SZ5_ := SZ5.out; have SZ6_ := SZ6.out; have SZ7_ := SZ7.out; have SZ8_ := SZ8.out; have SZ9_ := SZ9.out; have SZ10_ := SZ10.out; have SZ11_ := SZ11.out; have SZ12_ := SZ12.out; have SZ13_ := SZ13.out; have SZ14_ := SZ14.out; have SZ15_ := SZ15.out; have SZ16_ := SZ16.out; omega)); clear HOx0; have HOx0 := n_; clear n_
  have n_ := am_ (Kd.R_kept (by (with_reducible repeat (first | apply Kd.R_alloc | apply Kd.R_drewN | apply Kd.R_drew)); exact HOx1.out) hk (fun k h1_ h2_ => by have a_ := h1_.1; have b_ := h1_.2; have c_ := (HIg0.out k h2_).1; have d_ := (HIg0.out k h2_).2; have SZ1_ := SZ1.out; have SZ2_ := SZ2.out; have SZ3_ := SZ3.out; have SZ4_ := SZ4.out; have SZ5_ := SZ5.out; have SZ6_ := SZ6.out; have SZ7_ := SZ7.out; have SZ8_ := SZ8.out; have SZ9_ := SZ9.out; have SZ10_ := SZ10.out; have SZ11_ := SZ11.out; have SZ12_ := SZ12.out; have SZ13_ := SZ13.out; have SZ14_ := SZ14.out; have SZ15_ := SZ15.out; have SZ16_ := SZ16.out; omega)); clear HOx1; have HOx1 := n_; clear n_
  have n_ := am_ (Kd.R_kept (by (with_reducible repeat (first | apply Kd.R_alloc | apply Kd.R_drewN | apply Kd.R_drew)); exact HOg1.out) hk (fun k h1_ h2_ => by exact HNg0.out k h2_ h1_.2.symm)); clear HOg1; have HOg1 := n_; clear n_
  have HB17 := am_ hb
  have SZ17 := am_ (show w16.heap.size ≤ w17.heap.size from hk.1)
  clear HOg0; have HOg0 := am_ ho
  clear ho hb hk
  go_wp2_with fail
  refine (laws_markIntS.calls kX9 (IvP w5.heap.size w6.heap.size (Value.slice Arg1 ((runA L0 l1).2.1).length crg1).ownBlock) _ (runA L0 l1).2.1 mR8 _ _ w _ (by repeat (first | (with_reducible first | exact HB17.out | apply below_alloc | apply pw_below_drewN | apply below_drew1) | exact HB17.out)) (by (with_reducible repeat (first | apply Kd.R_alloc | apply Kd.R_drewN | apply Kd.R_drew)); exact HOg1.out) X9.out).mono ?_
  rintro e w18 ⟨rfl, ho, hb, hk⟩
  have n_ := am_ (Kd.R_kept (by (with_reducible repeat (first | apply Kd.R_alloc | apply Kd.R_drewN | apply Kd.R_drew)); exact HOw0.out) hk (fun k h1_ h2_ => by have a_ := h1_.1; have b_ := h1_.2; have c_ := h2_.1.1; have d_ := h2_.1.2; have SZ1_ := SZ1.out; have SZ2_ := SZ2.out; have SZ3_ := SZ3.out; have SZ4_ := SZ4.out; have SZ5_ := SZ5.out; have SZ6_ := SZ6.out; have SZ7_ := SZ7.out; have SZ8_ := SZ8.out; have SZ9_ := SZ9.out; have SZ10_ := SZ10.out; have SZ11_ := SZ11.out; have SZ12_ := SZ12.out; have SZ13_ := SZ13.out; have SZ14_ := SZ14.out; have SZ15_ := SZ15.out; have SZ16_ := SZ16.out; have SZ17_ := SZ17.out; omega)); clear HOw0; have HOw0 := n_; clear n_
  have n_ := am_ (Kd.R_kept (by (with_reducible repeat (first | apply Kd.R_alloc | apply Kd.R_drewN | apply Kd.R_drew)); exact HOw1.out) hk (fun k h1_ h2_ => by have a_ := h1_.1; have b_ := h1_.2; have c_ := h2_.1.1; have d_ := h2_.1.2; have SZ1_ := SZ1.out; have SZ2_ := SZ2.out; have SZ3_ := SZ3.out; have SZ4_ := SZ4.out; have SZ5_ := SZ5.out; have SZ6_ := SZ6.out; have SZ7_ := SZ7.out; have SZ8_ := SZ8.out; have SZ9_ := SZ9.out; have SZ10_ := SZ10.out; have SZ11_ := SZ11.out; have SZ12_ := SZ12.out; have SZ13_ := SZ13.out; have SZ14_ := SZ14.out; have SZ15_ := SZ15.out; have SZ16_ := SZ16.out; have SZ17_ := SZ17.out; omega)); clear HOw1; have HOw1 := n_; clear n_
  have n_ := am_ (Kd.R_kept (by (with_reducible repeat (first | apply Kd.R_alloc | apply Kd.R_drewN | apply Kd.R_drew)); exact HOx0.out) hk (fun k h1_ h2_ => by have a_ := h1_.1; have b_ := h1_.2; have c_ := h2_.1.1; have d_ := h2_.1.2; have SZ1_ := SZ1.out; have SZ2_ := SZ2.out; have SZ3_ := SZ3.out; have SZ4_ := SZ4.out; have SZ5_ := SZ5.out; have SZ6_ := SZ6.out; have SZ7_ := SZ7.out; have SZ8_ := SZ8.out; have SZ9_ := SZ9.out; have SZ10_ := SZ10.out; have SZ11_ := SZ11.out; have SZ12_ := SZ12.out; have SZ13_ := SZ13.out; have SZ14_ := SZ14.out; have SZ15_ := SZ15.out; have SZ16_ := SZ16.out; have SZ17_ := SZ17.out; omega)); clear HOx0; have HOx0 := n_; clear n_
  have n_ := am_ (Kd.R_kept (by (with_reducible repeat (first | apply Kd.R_alloc | apply Kd.R_drewN | apply Kd.R_drew)); exact HOx1.out) hk (fun k h1_ h2_ => by have a_ := h1_.1; have b_ := h1_.2; have c_ := h2_.1.1; have d_ := h2_.1.2; have SZ1_ := SZ1.out; have SZ2_ := SZ2.out; have SZ3_ := SZ3.out; have SZ4_ := SZ4.out; have SZ5_ := SZ5.out; have SZ6_ := SZ6.out; have SZ7_ := SZ7.out; have SZ8_ := SZ8.out; have SZ9_ := SZ9.out; have SZ10_ := SZ10.out; have SZ11_ := SZ11.out; have SZ12_ := SZ12.out; have SZ13_ := SZ13.out; have SZ14_ := SZ14.out; have SZ15_ := SZ15.out; have SZ16_ := SZ16.out; have SZ17_ := SZ17.out; omega)); clear HOx1; have HOx1 := n_; clear n_
  have n_ := am_ (RowsA.offKept (by (with_reducible repeat (first | apply RowsA.alloc | apply RowsA.drewN | apply RowsA.drew)); exact HOg0.out) hk (fun k h1_ h2_ => by exact HTg0.out k h1_ h2_.2.symm) (fun k h1_ h2_ => by exact HNg0.out k h1_ h2_.2.symm)); clear HOg0; have HOg0 := n_; clear n_
  have HB18 := am_ hb
  have SZ18 := am_ (show w17.heap.size ≤ w18.heap.size from hk.1)
  have n_ := am_ (R_flat flat_int ho HOg1.out.1); clear HOg1; have HOg1 := n_; clear n_
  clear ho hb hk
  go_wp2_with fail
  refine calls_of_args (args' := #[.slice Arg0 UR8.length crg0, .int .i64 1]) (by rw [VR8.out]) ?_
  refine (laws_heldIntSS.calls kX10 _ _ UR8 1 _ _ (by repeat (first | exact (Kd.R_reads' (RowsA.asR HOg0.out)).2.2 | (with_reducible refine Kd.C_alloc ?_ _) | (with_reducible refine Kd.C_drewN ?_ _) | (with_reducible refine Kd.C_drew ?_))) (by rw [VR8.out]; exact (Kd.R_reads' (RowsA.asR HOg0.out)).2.1) X10.out).mono ?_
  rintro e w19 ⟨rfl, hb0⟩
  have hb := db_ hb0
  clear hb0
  have n_ := am_ (Kd.R_below (by (with_reducible repeat (first | apply Kd.R_alloc | apply Kd.R_drewN | apply Kd.R_drew)); exact HOw0.out) hb); clear HOw0; have HOw0 := n_; clear n_
  have n_ := am_ (Kd.R_below (by (with_reducible repeat (first | apply Kd.R_alloc | apply Kd.R_drewN | apply Kd.R_drew)); exact HOw1.out) hb); clear HOw1; have HOw1 := n_; clear n_
  have n_ := am_ (Kd.R_below (by (with_reducible repeat (first | apply Kd.R_alloc | apply Kd.R_drewN | apply Kd.R_drew)); exact HOx0.out) hb); clear HOx0; have HOx0 := n_; clear n_
  have n_ := am_ (Kd.R_below (by (with_reducible repeat (first | apply Kd.R_alloc | apply Kd.R_drewN | apply Kd.R_drew)); exact HOx1.out) hb); clear HOx1; have HOx1 := n_; clear n_
  have n_ := am_ (RowsA.below (by (with_reducible repeat (first | apply RowsA.alloc | apply RowsA.drewN | apply RowsA.drew)); exact HOg0.out) hb); clear HOg0; have HOg0 := n_; clear n_
  have n_ := am_ (Kd.R_below (by (with_reducible repeat (first | apply Kd.R_alloc | apply Kd.R_drewN | apply Kd.R_drew)); exact HOg1.out) hb); clear HOg1; have HOg1 := n_; clear n_
  have HB19 := am_ (below_step (by repeat (first | (with_reducible first | exact HB18.out | apply below_alloc | apply pw_below_drewN | apply below_drew1) | exact HB18.out)) hb)
  have SZ19 := am_ (show w18.heap.size ≤ w19.heap.size from below_size (below_step (by repeat (first | (with_reducible first | exact Below.refl _ _ | apply below_alloc | apply pw_below_drewN | apply below_drew1) | exact Below.refl _ _)) hb))
  clear hb
  go_wp2_with fail
  refine calls_of_args (args' := #[.slice Arg1 UX9.length crg1, .int .i64 mR8]) (by rw [VX9.out]) ?_
  refine (laws_heldIntS.calls kX11 _ _ UX9 mR8 _ _ (by repeat (first | exact (Kd.R_reads' HOg1.out).2.2 | (with_reducible refine Kd.C_alloc ?_ _) | (with_reducible refine Kd.C_drewN ?_ _) | (with_reducible refine Kd.C_drew ?_))) (by rw [VX9.out]; exact (Kd.R_reads' HOg1.out).2.1) X11.out).mono ?_
  rintro e w20 ⟨rfl, hb0⟩
  have hb := db_ hb0
  clear hb0
  have n_ := am_ (Kd.R_below (by (with_reducible repeat (first | apply Kd.R_alloc | apply Kd.R_drewN | apply Kd.R_drew)); exact HOw0.out) hb); clear HOw0; have HOw0 := n_; clear n_
  have n_ := am_ (Kd.R_below (by (with_reducible repeat (first | apply Kd.R_alloc | apply Kd.R_drewN | apply Kd.R_drew)); exact HOw1.out) hb); clear HOw1; have HOw1 := n_; clear n_
  have n_ := am_ (Kd.R_below (by (with_reducible repeat (first | apply Kd.R_alloc | apply Kd.R_drewN | apply Kd.R_drew)); exact HOx0.out) hb); clear HOx0; have HOx0 := n_; clear n_
  have n_ := am_ (Kd.R_below (by (with_reducible repeat (first | apply Kd.R_alloc | apply Kd.R_drewN | apply Kd.R_drew)); exact HOx1.out) hb); clear HOx1; have HOx1 := n_; clear n_
  have n_ := am_ (RowsA.below (by (with_reducible repeat (first | apply RowsA.alloc | apply RowsA.drewN | apply RowsA.drew)); exact HOg0.out) hb); clear HOg0; have HOg0 := n_; clear n_
  have n_ := am_ (Kd.R_below (by (with_reducible repeat (first | apply Kd.R_alloc | apply Kd.R_drewN | apply Kd.R_drew)); exact HOg1.out) hb); clear HOg1; have HOg1 := n_; clear n_
  have HB20 := am_ (below_step (by repeat (first | (with_reducible first | exact HB19.out | apply below_alloc | apply pw_below_drewN | apply below_drew1) | exact HB19.out)) hb)
  have SZ20 := am_ (show w19.heap.size ≤ w20.heap.size from below_size (below_step (by repeat (first | (with_reducible first | exact Below.refl _ _ | apply below_alloc | apply pw_below_drewN | apply below_drew1) | exact Below.refl _ _)) hb))
  clear hb
  go_wp2_with fail
  refine (laws_toTrancheS.calls kX0 _ _ l0 _ _ (by repeat (first | exact (Kd.C_below HR0.out HB20.out) | (with_reducible refine Kd.C_alloc ?_ _) | (with_reducible refine Kd.C_drewN ?_ _) | (with_reducible refine Kd.C_drew ?_))) HC0.out X0.out).mono ?_
  rintro e w21 ⟨v, rfl, ho, hb⟩
  have n_ := am_ (Kd.R_below (by (with_reducible repeat (first | apply Kd.R_alloc | apply Kd.R_drewN | apply Kd.R_drew)); exact HOw0.out) hb); clear HOw0; have HOw0 := n_; clear n_
  have n_ := am_ (Kd.R_below (by (with_reducible repeat (first | apply Kd.R_alloc | apply Kd.R_drewN | apply Kd.R_drew)); exact HOw1.out) hb); clear HOw1; have HOw1 := n_; clear n_
  have n_ := am_ (Kd.R_below (by (with_reducible repeat (first | apply Kd.R_alloc | apply Kd.R_drewN | apply Kd.R_drew)); exact HOx0.out) hb); clear HOx0; have HOx0 := n_; clear n_
  have n_ := am_ (Kd.R_below (by (with_reducible repeat (first | apply Kd.R_alloc | apply Kd.R_drewN | apply Kd.R_drew)); exact HOx1.out) hb); clear HOx1; have HOx1 := n_; clear n_
  have n_ := am_ (RowsA.below (by (with_reducible repeat (first | apply RowsA.alloc | apply RowsA.drewN | apply RowsA.drew)); exact HOg0.out) hb); clear HOg0; have HOg0 := n_; clear n_
  have n_ := am_ (Kd.R_below (by (with_reducible repeat (first | apply Kd.R_alloc | apply Kd.R_drewN | apply Kd.R_drew)); exact HOg1.out) hb); clear HOg1; have HOg1 := n_; clear n_
  have HB21 := am_ (below_step (by repeat (first | (with_reducible first | exact HB20.out | apply below_alloc | apply pw_below_drewN | apply below_drew1) | exact HB20.out)) hb)
  have SZ21 := am_ (show w20.heap.size ≤ w21.heap.size from below_size (below_step (by repeat (first | (with_reducible first | exact Below.refl _ _ | apply below_alloc | apply pw_below_drewN | apply below_drew1) | exact Below.refl _ _)) hb))
  have HOt5 := am_ (R_ivw (a := w20.heap.size) (b := w.heap.size) ho (below_size (by repeat (first | (with_reducible first | exact Below.refl _ _ | apply below_alloc | apply pw_below_drewN | apply below_drew1) | exact Below.refl _ _))) (below_size (by repeat (first | (with_reducible first | exact HB20.out | apply below_alloc | apply pw_below_drewN | apply below_drew1) | exact HB20.out))))
  obtain ⟨Art5, crt5, ert5⟩ := Kd.R_slice HOt5.out
  subst ert5
  clear ho hb
  go_wp2_with fail
  refine (laws_toIntS.calls kX1 _ _ l1 _ _ (by repeat (first | exact (Kd.C_below HR1.out HB21.out) | (with_reducible refine Kd.C_alloc ?_ _) | (with_reducible refine Kd.C_drewN ?_ _) | (with_reducible refine Kd.C_drew ?_))) HC1.out X1.out).mono ?_
  rintro e w22 ⟨v, rfl, ho, hb⟩
  have n_ := am_ (Kd.R_below (by (with_reducible repeat (first | apply Kd.R_alloc | apply Kd.R_drewN | apply Kd.R_drew)); exact HOw0.out) hb); clear HOw0; have HOw0 := n_; clear n_
  have n_ := am_ (Kd.R_below (by (with_reducible repeat (first | apply Kd.R_alloc | apply Kd.R_drewN | apply Kd.R_drew)); exact HOw1.out) hb); clear HOw1; have HOw1 := n_; clear n_
  have n_ := am_ (Kd.R_below (by (with_reducible repeat (first | apply Kd.R_alloc | apply Kd.R_drewN | apply Kd.R_drew)); exact HOx0.out) hb); clear HOx0; have HOx0 := n_; clear n_
  have n_ := am_ (Kd.R_below (by (with_reducible repeat (first | apply Kd.R_alloc | apply Kd.R_drewN | apply Kd.R_drew)); exact HOx1.out) hb); clear HOx1; have HOx1 := n_; clear n_
  have n_ := am_ (RowsA.below (by (with_reducible repeat (first | apply RowsA.alloc | apply RowsA.drewN | apply RowsA.drew)); exact HOg0.out) hb); clear HOg0; have HOg0 := n_; clear n_
  have n_ := am_ (Kd.R_below (by (with_reducible repeat (first | apply Kd.R_alloc | apply Kd.R_drewN | apply Kd.R_drew)); exact HOg1.out) hb); clear HOg1; have HOg1 := n_; clear n_
  have n_ := am_ (Kd.R_below (by (with_reducible repeat (first | apply Kd.R_alloc | apply Kd.R_drewN | apply Kd.R_drew)); exact HOt5.out) hb); clear HOt5; have HOt5 := n_; clear n_
  have HB22 := am_ (below_step (by repeat (first | (with_reducible first | exact HB21.out | apply below_alloc | apply pw_below_drewN | apply below_drew1) | exact HB21.out)) hb)
  have SZ22 := am_ (show w21.heap.size ≤ w22.heap.size from below_size (below_step (by repeat (first | (with_reducible first | exact Below.refl _ _ | apply below_alloc | apply pw_below_drewN | apply below_drew1) | exact Below.refl _ _)) hb))
  have HOt6 := am_ (R_ivw (a := w21.heap.size) (b := w.heap.size) ho (below_size (by repeat (first | (with_reducible first | exact Below.refl _ _ | apply below_alloc | apply pw_below_drewN | apply below_drew1) | exact Below.refl _ _))) (below_size (by repeat (first | (with_reducible first | exact HB21.out | apply below_alloc | apply pw_below_drewN | apply below_drew1) | exact HB21.out))))
  obtain ⟨Art6, crt6, ert6⟩ := Kd.R_slice HOt6.out
  subst ert6
  clear ho hb
  go_wp2_with fail
  refine (impl_c _ _ L0 _ _ l1 _ (by repeat (first | exact (Kd.R_reads' HOt5.out).2.2 | (with_reducible refine Kd.C_alloc ?_ _) | (with_reducible refine Kd.C_drewN ?_ _) | (with_reducible refine Kd.C_drew ?_))) (Kd.R_reads' HOt5.out).2.1 (fun hp => R_head HOt5.out hp) hv0 (by repeat (first | exact (Kd.R_reads' HOt6.out).2.2 | (with_reducible refine Kd.C_alloc ?_ _) | (with_reducible refine Kd.C_drewN ?_ _) | (with_reducible refine Kd.C_drew ?_))) (Kd.R_reads' HOt6.out).2.1 (fun hp => R_head HOt6.out hp) hv1 ).mono ?_
  rintro e w23 ⟨v1, v2, hsh0, rfl, ho1, ho2, hn, hb⟩
  have n_ := am_ (Kd.R_below (by (with_reducible repeat (first | apply Kd.R_alloc | apply Kd.R_drewN | apply Kd.R_drew)); exact HOw0.out) hb); clear HOw0; have HOw0 := n_; clear n_
  have n_ := am_ (Kd.R_below (by (with_reducible repeat (first | apply Kd.R_alloc | apply Kd.R_drewN | apply Kd.R_drew)); exact HOw1.out) hb); clear HOw1; have HOw1 := n_; clear n_
  have n_ := am_ (Kd.R_below (by (with_reducible repeat (first | apply Kd.R_alloc | apply Kd.R_drewN | apply Kd.R_drew)); exact HOx0.out) hb); clear HOx0; have HOx0 := n_; clear n_
  have n_ := am_ (Kd.R_below (by (with_reducible repeat (first | apply Kd.R_alloc | apply Kd.R_drewN | apply Kd.R_drew)); exact HOx1.out) hb); clear HOx1; have HOx1 := n_; clear n_
  have n_ := am_ (RowsA.below (by (with_reducible repeat (first | apply RowsA.alloc | apply RowsA.drewN | apply RowsA.drew)); exact HOg0.out) hb); clear HOg0; have HOg0 := n_; clear n_
  have n_ := am_ (Kd.R_below (by (with_reducible repeat (first | apply Kd.R_alloc | apply Kd.R_drewN | apply Kd.R_drew)); exact HOg1.out) hb); clear HOg1; have HOg1 := n_; clear n_
  have n_ := am_ (Kd.R_below (by (with_reducible repeat (first | apply Kd.R_alloc | apply Kd.R_drewN | apply Kd.R_drew)); exact HOt5.out) hb); clear HOt5; have HOt5 := n_; clear n_
  have n_ := am_ (Kd.R_below (by (with_reducible repeat (first | apply Kd.R_alloc | apply Kd.R_drewN | apply Kd.R_drew)); exact HOt6.out) hb); clear HOt6; have HOt6 := n_; clear n_
  have HB23 := am_ (below_step (by repeat (first | (with_reducible first | exact HB22.out | apply below_alloc | apply pw_below_drewN | apply below_drew1) | exact HB22.out)) hb)
  have SZ23 := am_ (show w22.heap.size ≤ w23.heap.size from below_size (below_step (by repeat (first | (with_reducible first | exact Below.refl _ _ | apply below_alloc | apply pw_below_drewN | apply below_drew1) | exact Below.refl _ _)) hb))
  have HNh0 := am_ (show ∀ k, InH hsh0 k → some k ≠ v2.ownBlock from fun k ⟨i, a, q1, q2⟩ => hn i a q1 k q2)
  have HTh0 := am_ (R_types ho2 ho1.row (by decide))
  have HVh0 := am_ (RowsA.ivo (a := w22.heap.size) ho1 (below_size (by repeat (first | (with_reducible first | exact Below.refl _ _ | apply below_alloc | apply pw_below_drewN | apply below_drew1) | exact Below.refl _ _))))
  have HIh0 := am_ (RowsA.ivi (a := w22.heap.size) ho1 (below_size (by repeat (first | (with_reducible first | exact Below.refl _ _ | apply below_alloc | apply pw_below_drewN | apply below_drew1) | exact Below.refl _ _))))
  have HOh0 := am_ (RowsA.lower ho1 (below_size (by repeat (first | (with_reducible first | exact HB22.out | apply below_alloc | apply pw_below_drewN | apply below_drew1) | exact HB22.out))))
  obtain ⟨Arh0, crh0, erh0⟩ := Kd.R_slice HOh0.out.row
  rw [HOh0.out.len] at erh0
  subst erh0
  have HOh1 := am_ (R_ivp (a := w22.heap.size) (b := w.heap.size) ho2 (below_size (by repeat (first | (with_reducible first | exact Below.refl _ _ | apply below_alloc | apply pw_below_drewN | apply below_drew1) | exact Below.refl _ _))) (below_size (by repeat (first | (with_reducible first | exact HB22.out | apply below_alloc | apply pw_below_drewN | apply below_drew1) | exact HB22.out))))
  obtain ⟨Arh1, crh1, erh1⟩ := Kd.R_slice HOh1.out
  subst erh1
  clear hn ho1 ho2 hb
  go_wp2_with fail
  refine (laws_eqIntSS.calls kX2 _ _ (runA L0 l1).1 _ _ (runA L0 l1).1 true _ (by repeat (first | exact (Kd.R_reads' (RowsA.asR HOh0.out)).2.2 | (with_reducible refine Kd.C_alloc ?_ _) | (with_reducible refine Kd.C_drewN ?_ _) | (with_reducible refine Kd.C_drew ?_))) (Kd.R_reads' (RowsA.asR HOh0.out)).2.1 (by repeat (first | exact (Kd.R_reads' HOw0.out).2.2 | (with_reducible refine Kd.C_alloc ?_ _) | (with_reducible refine Kd.C_drewN ?_ _) | (with_reducible refine Kd.C_drew ?_))) (Kd.R_reads' HOw0.out).2.1 X2.out).mono ?_
  rintro e w24 ⟨rfl, hb0⟩
  have hb := db_ hb0
  clear hb0
  have n_ := am_ (Kd.R_below (by (with_reducible repeat (first | apply Kd.R_alloc | apply Kd.R_drewN | apply Kd.R_drew)); exact HOw0.out) hb); clear HOw0; have HOw0 := n_; clear n_
  have n_ := am_ (Kd.R_below (by (with_reducible repeat (first | apply Kd.R_alloc | apply Kd.R_drewN | apply Kd.R_drew)); exact HOw1.out) hb); clear HOw1; have HOw1 := n_; clear n_
  have n_ := am_ (Kd.R_below (by (with_reducible repeat (first | apply Kd.R_alloc | apply Kd.R_drewN | apply Kd.R_drew)); exact HOx0.out) hb); clear HOx0; have HOx0 := n_; clear n_
  have n_ := am_ (Kd.R_below (by (with_reducible repeat (first | apply Kd.R_alloc | apply Kd.R_drewN | apply Kd.R_drew)); exact HOx1.out) hb); clear HOx1; have HOx1 := n_; clear n_
  have n_ := am_ (RowsA.below (by (with_reducible repeat (first | apply RowsA.alloc | apply RowsA.drewN | apply RowsA.drew)); exact HOg0.out) hb); clear HOg0; have HOg0 := n_; clear n_
  have n_ := am_ (Kd.R_below (by (with_reducible repeat (first | apply Kd.R_alloc | apply Kd.R_drewN | apply Kd.R_drew)); exact HOg1.out) hb); clear HOg1; have HOg1 := n_; clear n_
  have n_ := am_ (RowsA.below (by (with_reducible repeat (first | apply RowsA.alloc | apply RowsA.drewN | apply RowsA.drew)); exact HOh0.out) hb); clear HOh0; have HOh0 := n_; clear n_
  have n_ := am_ (Kd.R_below (by (with_reducible repeat (first | apply Kd.R_alloc | apply Kd.R_drewN | apply Kd.R_drew)); exact HOh1.out) hb); clear HOh1; have HOh1 := n_; clear n_
  have HB24 := am_ (below_step (by repeat (first | (with_reducible first | exact HB23.out | apply below_alloc | apply pw_below_drewN | apply below_drew1) | exact HB23.out)) hb)
  have SZ24 := am_ (show w23.heap.size ≤ w24.heap.size from below_size (below_step (by repeat (first | (with_reducible first | exact Below.refl _ _ | apply below_alloc | apply pw_below_drewN | apply below_drew1) | exact Below.refl _ _)) hb))
  clear hb
  go_wp2_with fail
  refine (laws_eqIntS.calls kX3 _ _ (runA L0 l1).2.1 _ _ (runA L0 l1).2.1 true _ (by repeat (first | exact (Kd.R_reads' HOh1.out).2.2 | (with_reducible refine Kd.C_alloc ?_ _) | (with_reducible refine Kd.C_drewN ?_ _) | (with_reducible refine Kd.C_drew ?_))) (Kd.R_reads' HOh1.out).2.1 (by repeat (first | exact (Kd.R_reads' HOw1.out).2.2 | (with_reducible refine Kd.C_alloc ?_ _) | (with_reducible refine Kd.C_drewN ?_ _) | (with_reducible refine Kd.C_drew ?_))) (Kd.R_reads' HOw1.out).2.1 X3.out).mono ?_
  rintro e w25 ⟨rfl, hb0⟩
  have hb := db_ hb0
  clear hb0
  have n_ := am_ (Kd.R_below (by (with_reducible repeat (first | apply Kd.R_alloc | apply Kd.R_drewN | apply Kd.R_drew)); exact HOw0.out) hb); clear HOw0; have HOw0 := n_; clear n_
  have n_ := am_ (Kd.R_below (by (with_reducible repeat (first | apply Kd.R_alloc | apply Kd.R_drewN | apply Kd.R_drew)); exact HOw1.out) hb); clear HOw1; have HOw1 := n_; clear n_
  have n_ := am_ (Kd.R_below (by (with_reducible repeat (first | apply Kd.R_alloc | apply Kd.R_drewN | apply Kd.R_drew)); exact HOx0.out) hb); clear HOx0; have HOx0 := n_; clear n_
  have n_ := am_ (Kd.R_below (by (with_reducible repeat (first | apply Kd.R_alloc | apply Kd.R_drewN | apply Kd.R_drew)); exact HOx1.out) hb); clear HOx1; have HOx1 := n_; clear n_
  have n_ := am_ (RowsA.below (by (with_reducible repeat (first | apply RowsA.alloc | apply RowsA.drewN | apply RowsA.drew)); exact HOg0.out) hb); clear HOg0; have HOg0 := n_; clear n_
  have n_ := am_ (Kd.R_below (by (with_reducible repeat (first | apply Kd.R_alloc | apply Kd.R_drewN | apply Kd.R_drew)); exact HOg1.out) hb); clear HOg1; have HOg1 := n_; clear n_
  have n_ := am_ (RowsA.below (by (with_reducible repeat (first | apply RowsA.alloc | apply RowsA.drewN | apply RowsA.drew)); exact HOh0.out) hb); clear HOh0; have HOh0 := n_; clear n_
  have n_ := am_ (Kd.R_below (by (with_reducible repeat (first | apply Kd.R_alloc | apply Kd.R_drewN | apply Kd.R_drew)); exact HOh1.out) hb); clear HOh1; have HOh1 := n_; clear n_
  have HB25 := am_ (below_step (by repeat (first | (with_reducible first | exact HB24.out | apply below_alloc | apply pw_below_drewN | apply below_drew1) | exact HB24.out)) hb)
  have SZ25 := am_ (show w24.heap.size ≤ w25.heap.size from below_size (below_step (by repeat (first | (with_reducible first | exact Below.refl _ _ | apply below_alloc | apply pw_below_drewN | apply below_drew1) | exact Below.refl _ _)) hb))
  clear hb
  go_wp2_with fail
  refine calls_of_args (args' := #[.slice Arg0 UR8.length crg0, .int .i64 1]) (by rw [VR8.out]) ?_
  refine (laws_heldIntSS.calls kX10 _ _ UR8 1 _ _ (by repeat (first | exact (Kd.R_reads' (RowsA.asR HOg0.out)).2.2 | (with_reducible refine Kd.C_alloc ?_ _) | (with_reducible refine Kd.C_drewN ?_ _) | (with_reducible refine Kd.C_drew ?_))) (by rw [VR8.out]; exact (Kd.R_reads' (RowsA.asR HOg0.out)).2.1) X10.out).mono ?_
  rintro e w26 ⟨rfl, hb0⟩
  have hb := db_ hb0
  clear hb0
  have n_ := am_ (Kd.R_below (by (with_reducible repeat (first | apply Kd.R_alloc | apply Kd.R_drewN | apply Kd.R_drew)); exact HOw0.out) hb); clear HOw0; have HOw0 := n_; clear n_
  have n_ := am_ (Kd.R_below (by (with_reducible repeat (first | apply Kd.R_alloc | apply Kd.R_drewN | apply Kd.R_drew)); exact HOw1.out) hb); clear HOw1; have HOw1 := n_; clear n_
  have n_ := am_ (Kd.R_below (by (with_reducible repeat (first | apply Kd.R_alloc | apply Kd.R_drewN | apply Kd.R_drew)); exact HOx0.out) hb); clear HOx0; have HOx0 := n_; clear n_
  have n_ := am_ (Kd.R_below (by (with_reducible repeat (first | apply Kd.R_alloc | apply Kd.R_drewN | apply Kd.R_drew)); exact HOx1.out) hb); clear HOx1; have HOx1 := n_; clear n_
  have n_ := am_ (RowsA.below (by (with_reducible repeat (first | apply RowsA.alloc | apply RowsA.drewN | apply RowsA.drew)); exact HOg0.out) hb); clear HOg0; have HOg0 := n_; clear n_
  have n_ := am_ (Kd.R_below (by (with_reducible repeat (first | apply Kd.R_alloc | apply Kd.R_drewN | apply Kd.R_drew)); exact HOg1.out) hb); clear HOg1; have HOg1 := n_; clear n_
  have n_ := am_ (RowsA.below (by (with_reducible repeat (first | apply RowsA.alloc | apply RowsA.drewN | apply RowsA.drew)); exact HOh0.out) hb); clear HOh0; have HOh0 := n_; clear n_
  have n_ := am_ (Kd.R_below (by (with_reducible repeat (first | apply Kd.R_alloc | apply Kd.R_drewN | apply Kd.R_drew)); exact HOh1.out) hb); clear HOh1; have HOh1 := n_; clear n_
  have HB26 := am_ (below_step (by repeat (first | (with_reducible first | exact HB25.out | apply below_alloc | apply pw_below_drewN | apply below_drew1) | exact HB25.out)) hb)
  have SZ26 := am_ (show w25.heap.size ≤ w26.heap.size from below_size (below_step (by repeat (first | (with_reducible first | exact Below.refl _ _ | apply below_alloc | apply pw_below_drewN | apply below_drew1) | exact Below.refl _ _)) hb))
  clear hb
  go_wp2_with fail
  refine calls_of_args (args' := #[.slice Arg1 UX9.length crg1, .int .i64 mR8]) (by rw [VX9.out]) ?_
  refine (laws_heldIntS.calls kX11 _ _ UX9 mR8 _ _ (by repeat (first | exact (Kd.R_reads' HOg1.out).2.2 | (with_reducible refine Kd.C_alloc ?_ _) | (with_reducible refine Kd.C_drewN ?_ _) | (with_reducible refine Kd.C_drew ?_))) (by rw [VX9.out]; exact (Kd.R_reads' HOg1.out).2.1) X11.out).mono ?_
  rintro e w27 ⟨rfl, hb0⟩
  have hb := db_ hb0
  clear hb0
  have n_ := am_ (Kd.R_below (by (with_reducible repeat (first | apply Kd.R_alloc | apply Kd.R_drewN | apply Kd.R_drew)); exact HOw0.out) hb); clear HOw0; have HOw0 := n_; clear n_
  have n_ := am_ (Kd.R_below (by (with_reducible repeat (first | apply Kd.R_alloc | apply Kd.R_drewN | apply Kd.R_drew)); exact HOw1.out) hb); clear HOw1; have HOw1 := n_; clear n_
  have n_ := am_ (Kd.R_below (by (with_reducible repeat (first | apply Kd.R_alloc | apply Kd.R_drewN | apply Kd.R_drew)); exact HOx0.out) hb); clear HOx0; have HOx0 := n_; clear n_
  have n_ := am_ (Kd.R_below (by (with_reducible repeat (first | apply Kd.R_alloc | apply Kd.R_drewN | apply Kd.R_drew)); exact HOx1.out) hb); clear HOx1; have HOx1 := n_; clear n_
  have n_ := am_ (RowsA.below (by (with_reducible repeat (first | apply RowsA.alloc | apply RowsA.drewN | apply RowsA.drew)); exact HOg0.out) hb); clear HOg0; have HOg0 := n_; clear n_
  have n_ := am_ (Kd.R_below (by (with_reducible repeat (first | apply Kd.R_alloc | apply Kd.R_drewN | apply Kd.R_drew)); exact HOg1.out) hb); clear HOg1; have HOg1 := n_; clear n_
  have n_ := am_ (RowsA.below (by (with_reducible repeat (first | apply RowsA.alloc | apply RowsA.drewN | apply RowsA.drew)); exact HOh0.out) hb); clear HOh0; have HOh0 := n_; clear n_
  have n_ := am_ (Kd.R_below (by (with_reducible repeat (first | apply Kd.R_alloc | apply Kd.R_drewN | apply Kd.R_drew)); exact HOh1.out) hb); clear HOh1; have HOh1 := n_; clear n_
  have HB27 := am_ (below_step (by repeat (first | (with_reducible first | exact HB26.out | apply below_alloc | apply pw_below_drewN | apply below_drew1) | exact HB26.out)) hb)
  have SZ27 := am_ (show w26.heap.size ≤ w27.heap.size from below_size (below_step (by repeat (first | (with_reducible first | exact Below.refl _ _ | apply below_alloc | apply pw_below_drewN | apply below_drew1) | exact Below.refl _ _)) hb))
  clear hb
  go_wp2
  go_ret
  exact ⟨rfl, (by repeat (first | (with_reducible first | exact HB27.out | apply below_alloc | apply pw_below_drewN | apply below_drew1) | exact HB27.out))⟩
end Go.Proofs.Ytbnhpkkkijjkkaa.O
