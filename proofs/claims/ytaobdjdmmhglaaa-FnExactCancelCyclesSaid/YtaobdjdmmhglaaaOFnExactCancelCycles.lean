/- The program's CancelCycles, and the reference's, answer as one plain function does. No other condition. -/
import Derived.Test.YtaobdjdmmhglaaaPureFnExactCancelCycles
import Derived.Test.YtaobdjdmmhglaaaPFnExactSettleInOrderx3
import Derived.Laws.Cover3
import Derived.Shelf.Slices.Clone
import Derived.Shelf.Lays2
namespace Go.Proofs.Ytaobdjdmmhglaaa.O
open Go.RowKit Go.Proofs.YtaobdjdmmhglaaaW.PrintWords Go.Proofs.YtaobdjdmmhglaaaW.PrintLast Go.Proofs.YtaobdjdmmhglaaaW.PrintMore Go.Proofs.Ytaobdjdmmhglaaa.PFnExactCancelCycles Go.Proofs.Ytaobdjdmmhglaaa.EvKit Go.Proofs.Ytaobdjdmmhglaaa.Pure
set_option linter.unusedVariables false
set_option linter.unusedSimpArgs false
attribute [local go_sem] max2_int min2_int max_two min_two max_three min_three max_four min_four
/-- A number of rounds at which a printed function answers. -/
theorem roundsOf {α : Type} {g : Nat → Option α} {r : α} (h : Ev g r) : ∃ k, g k = some r := Ev.rounds h
theorem cellsOf {w : World} {b o : Nat} {xs : List Int} (h : (Kd.int .i64).C w (some ⟨b, o, none⟩) xs.length xs) : ∀ j, j < xs.length → w.cell? ⟨b, o + j, none⟩ = some (.int .i64 xs[j]!) := by
  intro j hj
  obtain ⟨ad, e, hc⟩ := Kd.at_int h (j : Int) (by omega) (by omega)
  injection e with e
  subst e
  rw [add_at] at hc
  rw [Int.toNat_natCast] at hc
  rw [hc, rd, Int.toNat_natCast, List.getD_eq_getElem?_getD, List.getElem?_eq_getElem hj, List.getElem!_eq_getElem?_getD, List.getElem?_eq_getElem hj]
  rfl
/-- Between two numbers. -/
def Iv (a b : Nat) (k : Nat) : Prop := a ≤ k ∧ k < b
theorem R_iv {α : Type} {d : Kd α} {e base : Nat} {ok : Nat → Prop} {w : World} {v : Value} {xs : List α} (h : d.R e w base ok v xs) : d.R e w base (Iv base w.heap.size) v xs := Kd.R_mono (Kd.R_bound h) (fun _ hk => ⟨hk.2.1, hk.2.2.1⟩)
/-- Where a row of one's own that is not empty begins. -/
theorem R_head {α : Type} {d : Kd α} {e base : Nat} {ok : Nat → Prop} {w : World} {A : Option Addr} {n c : Nat} {xs : List α} (h : d.R e w base ok (.slice A n c) xs) (hp : 0 < xs.length) : ∃ b, A = some ⟨b, 0, none⟩ := by
  obtain ⟨g, cap, e1, _⟩ := Kd.R_form h hp
  injection e1 with e1
  exact ⟨g, e1⟩
theorem R_ivw {α : Type} {d : Kd α} {e base a b : Nat} {ok : Nat → Prop} {w : World} {v : Value} {xs : List α} (h : d.R e w base ok v xs) (ha : a ≤ base) (hb : b ≤ base) : d.R e w b (Iv a w.heap.size) v xs := Kd.R_lower (Kd.R_mono (Kd.R_bound h) (fun _ hk => ⟨Nat.le_trans ha hk.2.1, hk.2.2.1⟩)) hb
/-- A row whose elements hold no rows lies in its own block alone. -/
theorem R_flat {α : Type} {d : Kd α} {e base : Nat} {ok ok' : Nat → Prop} {w : World} {v : Value} {xs : List α} (hf : ∀ (w : World) (b : Nat) (p q : Nat → Prop) x cs, d.M w b p x cs → d.M w b q x cs) (h : d.R e w base ok v xs) (h0 : ∀ k, v.ownBlock = some k → ok' k) : d.R e w base ok' v xs := ⟨h0, h.2.imp_ (fun _ _ hp => hf _ _ _ _ _ _ hp)⟩
theorem flat_int (w : World) (b : Nat) (p q : Nat → Prop) (x : Int) (cs : List Value) (h : (Kd.int .i64).M w b p x cs) : (Kd.int .i64).M w b q x cs := h
theorem cellsOfD {w : World} {b o m : Nat} {xs : List Int} (h : (Kd.int .i64).C w (some ⟨b, o, none⟩) m xs) : ∀ j, j < xs.length → w.cell? ⟨b, o + j, none⟩ = some (.int .i64 (xs.getD j 0)) := by
  intro j hj
  have hl := Kd.C_len h
  obtain ⟨ad, e, hc⟩ := Kd.at_int h (j : Int) (by omega) (by omega)
  injection e with e
  subst e
  rw [add_at, Int.toNat_natCast] at hc
  exact hc
theorem R_C {α : Type} {d : Kd α} {e base : Nat} {ok : Nat → Prop} {w : World} {A : Option Addr} {n c : Nat} {xs : List α} (h : d.R e w base ok (.slice A n c) xs) : d.C w A n xs := by
  obtain ⟨rfl, _, hc⟩ := Kd.R_reads' h
  exact hc
theorem R_cap {α : Type} {d : Kd α} {e base : Nat} {ok : Nat → Prop} {w : World} {A : Option Addr} {n c : Nat} {xs : List α} (h : d.R e w base ok (.slice A n c) xs) : n ≤ c := (Kd.R_reads' h).2.1
theorem R_same {α : Type} {d : Kd α} {e base : Nat} {ok : Nat → Prop} {w w1 : World} {v : Value} {xs : List α} (h : d.R e w base ok v xs) (hg : w.grownBy w1 none) : d.R e w1 base ok v xs := Kd.R_grown h hg (fun _ _ e => by cases e)
theorem R_block {α : Type} {d : Kd α} {e base g n c : Nat} {ok : Nat → Prop} {w : World} {xs : List α} (h : d.R e w base ok (.slice (some ⟨g, 0, none⟩) n c) xs) (hp : 0 < n) : ∃ cells, w.heap[g]? = some (.cells cells e (0, 0)) := by
  obtain ⟨e1, _, _⟩ := Kd.R_reads' h
  obtain ⟨g', cap, e2, _, _, cells, h3⟩ := Kd.R_form h (by omega)
  injection e2 with e2 _ _
  injection e2 with e2
  injection e2 with e2
  subst e2
  exact ⟨cells, h3⟩
theorem infoI : (Try.prog.info? 3).map (fun i => (i.zero, i.size, i.bytes)) = some (some (.int .i64 0), 1, 8) := by kernel_rfl
/-! spec.l1Has, spec.l1Own: the printed texts of another law of this seat (its x3). -/
theorem specHas_l0 (x : Int) (xs : List Int) (hn : xs.length ≤ 1048576) : ∀ (rest pre : List Int) (i : Int), xs = pre ++ rest → i = pre.length → x ∉ pre → Ev (fun k => _root_.Go.Proofs.Ytaobdjdmmhglaaa.PFnExactSettleInOrder.spec_l1Has.l0 k xs x i) (decide (x ∈ xs)) := by
  intro rest
  induction rest with
  | nil =>
    intro pre i h hi hok
    have hl := len_nil h
    have hx : xs = pre := by simpa using h
    refine evSucc ?_
    simp only [_root_.Go.Proofs.Ytaobdjdmmhglaaa.PFnExactSettleInOrder.spec_l1Has.l0]
    refine evNeg (by omega) (evSome ?_)
    exact (decide_eq_false (by rw [hx]; exact hok)).symm
  | cons a t ih =>
    intro pre i h hi hok
    have hl := len_cons h
    have ha : rd xs i = a := rd_at h hi
    refine evSucc ?_
    simp only [_root_.Go.Proofs.Ytaobdjdmmhglaaa.PFnExactSettleInOrder.spec_l1Has.l0, ha]
    refine evPos (by omega) ?_
    refine evPos (by omega) ?_
    refine evIte (fun c => evSome (decide_eq_true (by rw [h, ← c]; simp)).symm) (fun c => ?_)
    exact ih (pre ++ [a]) _ (snoc h) (by rw [wrapId (by omega), len_snoc]; omega) (fun q => by
      rcases List.mem_append.mp q with q | q
      · exact hok q
      · exact c (List.mem_singleton.mp q).symm)
theorem specHas_ev (xs : List Int) (x : Int) (hn : xs.length ≤ 1048576) : Ev (fun k => _root_.Go.Proofs.Ytaobdjdmmhglaaa.PFnExactSettleInOrder.spec_l1Has.f k xs x) (decide (x ∈ xs)) := by
  simp only [_root_.Go.Proofs.Ytaobdjdmmhglaaa.PFnExactSettleInOrder.spec_l1Has.f]
  exact specHas_l0 x xs hn xs [] 0 rfl rfl (by simp)
theorem own_eq (l : List Int) (h : l.length ≤ 1048576) : _root_.Go.Proofs.Ytaobdjdmmhglaaa.PFnExactSettleInOrder.spec_l1Own.f l = some l := by
  unfold _root_.Go.Proofs.Ytaobdjdmmhglaaa.PFnExactSettleInOrder.spec_l1Own.f
  simp only [Option.bind_some, List.nil_append, List.length_nil]
  rw [if_pos (by omega)]
theorem ixOf_l0 (x : Int) (xs : List Int) (hn : xs.length ≤ 1048576) : ∀ (rest pre : List Int) (i : Int), xs = pre ++ rest → i = pre.length → x ∉ pre → ∃ r, Ev (fun k => slices_Index_int_int.l0 k xs x (xs.length : Int) i) r ∧ (0 ≤ r ↔ x ∈ xs) := by
  intro rest
  induction rest with
  | nil =>
    intro pre i h hi hok
    have hl := len_nil h
    have hx : xs = pre := by simpa using h
    refine ⟨-1, evSucc ?_, ⟨fun g => absurd g (by decide), fun g => absurd g (by rw [hx]; exact hok)⟩⟩
    simp only [slices_Index_int_int.l0]
    exact evNeg (by omega) (evSome rfl)
  | cons a t ih =>
    intro pre i h hi hok
    have hl := len_cons h
    have ha : rd xs i = a := rd_at h hi
    by_cases c : x = a
    · refine ⟨i, evSucc ?_, ⟨fun _ => by rw [h, c]; simp, fun _ => by omega⟩⟩
      simp only [slices_Index_int_int.l0, ha]
      refine evPos (by omega) ?_
      refine evPos (by omega) ?_
      refine evPos (by omega) ?_
      exact evPos c (evSome rfl)
    · obtain ⟨r, h1, h2⟩ := ih (pre ++ [a]) (wrap64 (i + 1)) (snoc h) (by rw [wrapId (by omega), len_snoc]; omega) (fun q => by
        rcases List.mem_append.mp q with q | q
        · exact hok q
        · exact c (List.mem_singleton.mp q))
      refine ⟨r, evSucc ?_, h2⟩
      simp only [slices_Index_int_int.l0, ha]
      refine evPos (by omega) ?_
      refine evPos (by omega) ?_
      refine evPos (by omega) ?_
      exact evNeg c h1
theorem contains_ev (xs : List Int) (x : Int) (hn : xs.length ≤ 1048576) : Ev (fun k => slices_Contains_int_int.f k xs x) (decide (x ∈ xs)) := by
  obtain ⟨r, h1, h2⟩ := ixOf_l0 x xs hn xs [] 0 rfl rfl (by simp)
  simp only [slices_Contains_int_int.f, slices_Index_int_int.f]
  exact evBind h1 (evSome (decide_eq_decide.mpr h2))
theorem ixw {x y m : Nat} (hm : m ≤ 8) (hx : x < m) (hy : y < m) : IntKind.i64.wrap ((x : Int) * (m : Int)) = ((x * m : Nat) : Int) ∧ IntKind.i64.wrap (((x * m : Nat) : Int) + (y : Int)) = ((x * m + y : Nat) : Int) := by
  have h := ix_lt hx hy
  have h2 : m * m ≤ 8 * 8 := Nat.mul_le_mul hm hm
  have e : ((x : Int) * (m : Int)) = ((x * m : Nat) : Int) := by simp
  rw [e]
  generalize x * m = p at h ⊢
  rw [IntWalk.i64_in _ (by omega), IntWalk.i64_in _ (by omega)]
  omega
theorem ix_inj {i j x y m : Nat} (hj : j < m) (hy : y < m) (h : i * m + j = x * m + y) : i = x ∧ j = y := by
  have d1 : (j + i * m) / m = i := by rw [Nat.add_mul_div_right _ _ (by omega), Nat.div_eq_of_lt hj, Nat.zero_add]
  have d2 : (y + x * m) / m = x := by rw [Nat.add_mul_div_right _ _ (by omega), Nat.div_eq_of_lt hy, Nat.zero_add]
  have e : i = x := by rw [← d1, ← d2, Nat.add_comm j, Nat.add_comm y, h]
  subst e
  exact ⟨rfl, by omega⟩
theorem sub1 {k m : Nat} (h : k < m) : m - (intOf (.int .i64 ((k : Int) + 1))).toNat < m - (intOf (.int .i64 (k : Int))).toNat := by simp only [intOf]; omega
/-- A store into a flat square table. -/
theorem tset {T : List Int} {m n i j x y : Nat} (hn : n = m * m) (hT : T.length = n) (hi : i < m) (hj : j < m) (hx : x < m) (hy : y < m) (v : Int) : (T.set (x * m + y) v).getD (i * m + j) 0 = if i = x ∧ j = y then v else T.getD (i * m + j) 0 := by
  by_cases e : i = x ∧ j = y
  · rw [if_pos e, e.1, e.2, List.getD_eq_getElem?_getD, List.getElem?_set_self (by rw [hT, hn]; exact ix_lt hx hy)]
    rfl
  · rw [if_neg e, List.getD_eq_getElem?_getD, List.getElem?_set_ne (fun q => e (ix_inj hj hy q.symm)), ← List.getD_eq_getElem?_getD]
set_option maxHeartbeats 8000000 in
set_option maxRecDepth 100000 in
theorem table_c (A0 : Option Addr) (c0 : Nat) (xs : List S54) (m : Nat) (w : World) (hr0 : Kd.C k54 w A0 xs.length xs) (hc0 : xs.length ≤ c0) (hm : 2 ≤ m ∧ m ≤ 8) (hn : xs.length ≤ 20) (hok : ∀ a ∈ xs, okC m a) (hsum : sumC xs ≤ 1000000000) :
    Calls Try.prog 53 #[.slice A0 xs.length c0, .int .i64 m] w fun e w' => ∃ v T, e = .returned v ∧ (Kd.int .i64).R 3 w' w.heap.size (fun _ => True) v T ∧ T.length = m * m ∧ (∀ i j, i < m → j < m → T.getD (i * m + j) 0 = nt xs i j) ∧ Below w.heap.size w w' := by
  have HR0 := Aside0.mk hr0
  have HC0 := Aside0.mk hc0
  have HOK := Aside0.mk hok
  have HSUM := Aside0.mk hsum
  have m1 := hm.1
  have m2 := hm.2
  clear hr0 hc0 hok hm hsum
  obtain ⟨n, hnm⟩ : ∃ n, n = m * m := ⟨_, rfl⟩
  have hn64 : n ≤ 64 := by rw [hnm]; exact Nat.mul_le_mul m2 m2
  have hn4 : 4 ≤ n := by rw [hnm]; exact Nat.mul_le_mul m1 m1
  have hmm : (m : Int) * (m : Int) = (n : Int) := by rw [hnm]; simp
  have hwm : IntKind.i64.wrap ((m : Int) * (m : Int)) = (n : Int) := by rw [hmm]; exact IntWalk.i64_in _ (by omega)
  have HNM := Aside0.mk hnm
  clear hnm
  go_enter Try.func53, Try.ntmps53
  go_wp2_with ((with_reducible refine gate_dst (N := 16) rfl ?_); refine Kd.R_make (Kd.int .i64) w.heap.size 3 rfl (N := 16) rfl 31 _ _ rfl (n : Int) rfl rfl Try.underlying31 (.int .i64 0) 8 infoI rfl (by decide) (by omega) 0 (ok := fun _ => True) (okp := fun _ => True) rfl (fun _ hk => hk) trivial (by omega) (by omega) (by repeat (first | (with_reducible first | exact (Below.refl w.heap.size w) | apply below_alloc | apply pw_below_drewN | apply below_drew1) | exact (Below.refl w.heap.size w))) (below_size (by repeat (first | (with_reducible first | exact (Below.refl w.heap.size w) | apply below_alloc | apply pw_below_drewN | apply below_drew1) | exact (Below.refl w.heap.size w)))) ?_; intro v1 w1 ho hb _ _)
  rw [Int.toNat_natCast] at ho
  obtain ⟨g, cap, hv, hg1, hg2, cells, hg3⟩ := Kd.R_form ho (by rw [List.length_replicate]; omega)
  rw [List.length_replicate] at hv
  subst hv
  have HO := Aside0.mk ho
  have HB := Aside0.mk hb
  clear ho hb hg2 hg3 cells hmm hwm
  go_loopw [6, 7] (fun v6 _ wr => ∃ (pre rest : List S54) (T : List Int), Aside0 (xs = pre ++ rest) ∧ v6 = .int .i64 pre.length ∧ Aside0 (T.length = n) ∧ Aside0 (∀ i j, i < m → j < m → T.getD (i * m + j) 0 = gr pre i j) ∧ Aside0 ((Kd.int .i64).R 3 wr w.heap.size (fun _ => True) (.slice (some ⟨g, 0, none⟩) n cap) T) ∧ Aside0 (Below w.heap.size w wr)) (fun v6 _ _ => xs.length - (intOf v6).toNat)
  case atStart => exact ⟨[], xs, List.replicate n 0, ⟨rfl⟩, rfl, ⟨List.length_replicate⟩, ⟨fun i j hi hj => by rw [List.getD_eq_getElem?_getD, List.getElem?_replicate]; split <;> rfl⟩, HO, HB⟩
  case round =>
    clear HO HB
    obtain ⟨pre, rest, T, HX, rfl, HL, HF, HO, HB⟩ := hrel
    cases rest with
    | nil =>
      have c : decide (pre.length < xs.length) = false := decide_eq_false (by have := len_nil HX.out; omega)
      obtain rfl : xs = pre := by simpa using HX.out
      clear HX
      go_wp2
      go_loopw [8] (fun v8 wr => ∃ (i : Nat) (T : List Int), v8 = .int .i64 i ∧ Aside0 (i ≤ m) ∧ Aside0 (T.length = n) ∧ Aside0 (∀ a q, a < m → q < m → T.getD (a * m + q) 0 = ntS xs i (i + 1) a q) ∧ Aside0 ((Kd.int .i64).R 3 wr w.heap.size (fun _ => True) (.slice (some ⟨g, 0, none⟩) n cap) T) ∧ Aside0 (Below w.heap.size w wr)) (fun v8 _ => m - (intOf v8).toNat)
      case atStart => exact ⟨0, T, rfl, ⟨Nat.zero_le _⟩, HL, ⟨fun a q ha hq => (HF.out a q ha hq).trans (ntS_start xs a q).symm⟩, HO, HB⟩
      case round =>
        clear HL HF HO HB T
        obtain ⟨i, T, rfl, HI, HL, HF, HO, HB⟩ := hrel
        by_cases him : i < m
        · have ci : decide (i < m) = true := decide_eq_true him
          go_wp2
          go_loopw [9] (fun v9 wr => ∃ (k : Nat) (T : List Int), v9 = .int .i64 k ∧ Aside0 (i + 1 ≤ k ∧ k ≤ m) ∧ Aside0 (T.length = n) ∧ Aside0 (∀ a q, a < m → q < m → T.getD (a * m + q) 0 = ntS xs i k a q) ∧ Aside0 ((Kd.int .i64).R 3 wr w.heap.size (fun _ => True) (.slice (some ⟨g, 0, none⟩) n cap) T) ∧ Aside0 (Below w.heap.size w wr)) (fun v9 _ => m - (intOf v9).toNat)
          case atStart => exact ⟨i + 1, T, by go_num, ⟨by omega⟩, HL, HF, HO, HB⟩
          case round =>
            clear HL HF HO HB T
            obtain ⟨k, T, rfl, HK, HL, HF, HO, HB⟩ := hrel
            by_cases hkm : k < m
            · have ck : decide (k < m) = true := decide_eq_true hkm
              have hik : i < k := by have := HK.out.1; omega
              obtain ⟨xw1, xw2⟩ := ixw m2 him hkm
              obtain ⟨yw1, yw2⟩ := ixw m2 hkm him
              have hp := ix_lt him hkm
              have hq := ix_lt hkm him
              rw [← HNM.out] at hp hq
              obtain ⟨p, hpe⟩ : ∃ p, p = i * m + k := ⟨_, rfl⟩
              obtain ⟨q, hqe⟩ : ∃ q, q = k * m + i := ⟨_, rfl⟩
              have hpp : (i : Int) * (m : Int) + (k : Int) = (p : Int) := by rw [hpe]; simp
              have hqq : (k : Int) * (m : Int) + (i : Int) = (q : Int) := by rw [hqe]; simp
              rw [← hpe] at hp
              rw [← hqe] at hq
              have hpn : (p : Int) < (n : Int) := by omega
              have hqn : (q : Int) < (n : Int) := by omega
              have HPE := Aside0.mk hpe
              have HQE := Aside0.mk hqe
              have hpq : p ≠ q := fun e => by rw [hpe, hqe] at e; have := (ix_inj hkm him e).1; omega
              clear hp hq hpe hqe
              have ep : T.getD p 0 = gr xs i k := by rw [HPE.out, HF.out i k him hkm, (ntS_at xs hik).1]
              have eq_ : T.getD q 0 = gr xs k i := by rw [HQE.out, HF.out k i hkm him, (ntS_at xs hik).2]
              have g1 := gr_bd xs HOK.out i k
              have g2 := gr_bd xs HOK.out k i
              have g3 := HSUM.out
              have HST := Aside0.mk (fun a b => ntS_step xs hik a b)
              obtain ⟨x, hx⟩ : ∃ x, x = gr xs i k := ⟨_, rfl⟩
              obtain ⟨y, hy⟩ : ∃ y, y = gr xs k i := ⟨_, rfl⟩
              rw [← hx] at g1 ep
              rw [← hy] at g2 eq_
              have bx : 0 ≤ x ∧ x ≤ 1000000000 := by omega
              have by_ : 0 ≤ y ∧ y ≤ 1000000000 := by omega
              have HXE := Aside0.mk hx
              have HYE := Aside0.mk hy
              have EP := Aside0.mk ep
              have EQ := Aside0.mk eq_
              have HIK := Aside0.mk hik
              have HIM := Aside0.mk him
              have HKM := Aside0.mk hkm
              have HPQ := Aside0.mk hpq
              have yp := Kd.R_celln 0 HO.out (p : Int) (by omega) hpn
              rw [Int.toNat_natCast, show rdOf 0 T (p : Int) = x from by rw [rdOf, Int.toNat_natCast]; exact ep] at yp
              have yq := Kd.R_celln 0 HO.out (q : Int) (by omega) hqn
              rw [Int.toNat_natCast, show rdOf 0 T (q : Int) = y from by rw [rdOf, Int.toNat_natCast]; exact eq_] at yq
              obtain ⟨yp, fp⟩ := yp
              obtain ⟨yq, fq⟩ := yq
              clear g1 g2 g3 hx hy ep eq_ hik him hkm hpq
              by_cases c1 : y < x
              · have hmn : mnI x y = y := by unfold mnI; split <;> omega
                have HMN := Aside0.mk hmn
                have hle := Aside0.mk (show spec_l1Least.f x y = some y from by rw [l1Least_eq]; exact congrArg some hmn)
                clear hmn c1
                go_upto_region 14 with (fail)
                go_quiet ((go_at_call 56; exact Calls.quiet_of ((spec_l1Least.calls x y y _ hle.out).mono fun e w' ⟨he, ⟨n, hw⟩⟩ => ⟨he, n, hw⟩)))
                clear xw1 xw2 yw1 yw2 hpp hqq
                clear yq fq
                go_upto_region 16 with (fail)
                clear yp fp
                have HOD : (Kd.int .i64).R 3 (wr.drewN nq) w.heap.size (fun _ => True) (.slice (some ⟨g, 0, none⟩) n cap) T := (by (with_reducible repeat (first | apply Kd.R_alloc | apply Kd.R_drewN | apply Kd.R_drew)); exact HO.out)
                have HBD : Below w.heap.size w (wr.drewN nq) := (by repeat (first | (with_reducible first | exact HB.out | apply below_alloc | apply pw_below_drewN | apply below_drew1) | exact HB.out))
                have HO2 := Kd.R_putn HOD (p : Int) (x - y)
                rw [Int.toNat_natCast] at HO2
                have HO1 := Aside0.mk HO2
                have HB1 := Aside0.mk (below_set (j := p) (v := .int .i64 (x - y)) HBD hg1)
                clear HO2 HOD HBD
                generalize (wr.drewN nq).setCell ⟨g, p, none⟩ (.int .i64 (x - y)) = w1 at HO1 HB1 ⊢
                have hz : (T.set p (x - y)).getD q 0 = y := by rw [List.getD_eq_getElem?_getD, List.getElem?_set_ne HPQ.out, ← List.getD_eq_getElem?_getD]; exact EQ.out
                have yq := Kd.R_celln 0 HO1.out (q : Int) (by omega) hqn
                rw [Int.toNat_natCast, show rdOf 0 (T.set p (x - y)) (q : Int) = y from by rw [rdOf, Int.toNat_natCast]; exact hz] at yq
                obtain ⟨yq, fq⟩ := yq
                clear hz
                have hk8 : k < m := HKM.out
                go_wp2
                have HO3 := Kd.R_putn HO1.out (q : Int) 0
                rw [Int.toNat_natCast] at HO3
                have HO4 := Aside0.mk HO3
                have HB4 := Aside0.mk (below_set (j := q) (v := .int .i64 0) HB1.out hg1)
                have HL4 := Aside0.mk (show ((T.set p (x - y)).set q 0).length = n by rw [List.length_set, List.length_set]; exact HL.out)
                have HF4 := Aside0.mk (show ∀ a b, a < m → b < m → ((T.set p (x - y)).set q 0).getD (a * m + b) 0 = ntS xs i (k + 1) a b from fun a b ha hb => by
                  have hik := HIK.out
                  rw [HST.out a b, ← HXE.out, ← HYE.out, HMN.out, HQE.out, tset HNM.out (by rw [List.length_set]; exact HL.out) ha hb HKM.out HIM.out, HPE.out, tset HNM.out HL.out ha hb HIM.out HKM.out, HF.out a b ha hb]
                  by_cases e1 : a = k ∧ b = i
                  · rw [if_pos e1, if_neg (by omega), if_pos e1]
                    try omega
                  · by_cases e2 : a = i ∧ b = k
                    · rw [if_neg e1, if_pos e2, if_pos e2]
                      try omega
                    · rw [if_neg e1, if_neg e2, if_neg e2, if_neg e1])
                clear yq fq HO3
                go_roundw
                case rel => exact ⟨k + 1, (T.set p (x - y)).set q 0, by go_num, ⟨Nat.le_succ_of_le HK.out.1, HKM.out⟩, HL4, HF4, ⟨(by (with_reducible repeat (first | apply Kd.R_alloc | apply Kd.R_drewN | apply Kd.R_drew)); exact HO4.out)⟩, ⟨(by repeat (first | (with_reducible first | exact HB4.out | apply below_alloc | apply pw_below_drewN | apply below_drew1) | exact HB4.out))⟩⟩
                case measure => simp [intOf]; omega
              · have hmn : mnI x y = x := by unfold mnI; split <;> omega
                have HMN := Aside0.mk hmn
                have hle := Aside0.mk (show spec_l1Least.f x y = some x from by rw [l1Least_eq]; exact congrArg some hmn)
                clear hmn c1
                go_upto_region 14 with (fail)
                go_quiet ((go_at_call 56; exact Calls.quiet_of ((spec_l1Least.calls x y x _ hle.out).mono fun e w' ⟨he, ⟨n, hw⟩⟩ => ⟨he, n, hw⟩)))
                clear xw1 xw2 yw1 yw2 hpp hqq
                clear yq fq
                go_upto_region 16 with (fail)
                clear yp fp
                have HOD : (Kd.int .i64).R 3 (wr.drewN nq) w.heap.size (fun _ => True) (.slice (some ⟨g, 0, none⟩) n cap) T := (by (with_reducible repeat (first | apply Kd.R_alloc | apply Kd.R_drewN | apply Kd.R_drew)); exact HO.out)
                have HBD : Below w.heap.size w (wr.drewN nq) := (by repeat (first | (with_reducible first | exact HB.out | apply below_alloc | apply pw_below_drewN | apply below_drew1) | exact HB.out))
                have HO2 := Kd.R_putn HOD (p : Int) 0
                rw [Int.toNat_natCast] at HO2
                have HO1 := Aside0.mk HO2
                have HB1 := Aside0.mk (below_set (j := p) (v := .int .i64 0) HBD hg1)
                clear HO2 HOD HBD
                generalize (wr.drewN nq).setCell ⟨g, p, none⟩ (.int .i64 0) = w1 at HO1 HB1 ⊢
                have hz : (T.set p 0).getD q 0 = y := by rw [List.getD_eq_getElem?_getD, List.getElem?_set_ne HPQ.out, ← List.getD_eq_getElem?_getD]; exact EQ.out
                have yq := Kd.R_celln 0 HO1.out (q : Int) (by omega) hqn
                rw [Int.toNat_natCast, show rdOf 0 (T.set p 0) (q : Int) = y from by rw [rdOf, Int.toNat_natCast]; exact hz] at yq
                obtain ⟨yq, fq⟩ := yq
                clear hz
                have hk8 : k < m := HKM.out
                go_wp2
                have HO3 := Kd.R_putn HO1.out (q : Int) (y - x)
                rw [Int.toNat_natCast] at HO3
                have HO4 := Aside0.mk HO3
                have HB4 := Aside0.mk (below_set (j := q) (v := .int .i64 (y - x)) HB1.out hg1)
                have HL4 := Aside0.mk (show ((T.set p 0).set q (y - x)).length = n by rw [List.length_set, List.length_set]; exact HL.out)
                have HF4 := Aside0.mk (show ∀ a b, a < m → b < m → ((T.set p 0).set q (y - x)).getD (a * m + b) 0 = ntS xs i (k + 1) a b from fun a b ha hb => by
                  have hik := HIK.out
                  rw [HST.out a b, ← HXE.out, ← HYE.out, HMN.out, HQE.out, tset HNM.out (by rw [List.length_set]; exact HL.out) ha hb HKM.out HIM.out, HPE.out, tset HNM.out HL.out ha hb HIM.out HKM.out, HF.out a b ha hb]
                  by_cases e1 : a = k ∧ b = i
                  · rw [if_pos e1, if_neg (by omega), if_pos e1]
                    try omega
                  · by_cases e2 : a = i ∧ b = k
                    · rw [if_neg e1, if_pos e2, if_pos e2]
                      try omega
                    · rw [if_neg e1, if_neg e2, if_neg e2, if_neg e1])
                clear yq fq HO3
                go_roundw
                case rel => exact ⟨k + 1, (T.set p 0).set q (y - x), by go_num, ⟨Nat.le_succ_of_le HK.out.1, HKM.out⟩, HL4, HF4, ⟨(by (with_reducible repeat (first | apply Kd.R_alloc | apply Kd.R_drewN | apply Kd.R_drew)); exact HO4.out)⟩, ⟨(by repeat (first | (with_reducible first | exact HB4.out | apply below_alloc | apply pw_below_drewN | apply below_drew1) | exact HB4.out))⟩⟩
                case measure => simp [intOf]; omega
            · obtain rfl : m = k := by have := HK.out; omega
              have ck : decide (m < m) = false := decide_eq_false (by omega)
              go_wp2
              go_roundw
              case rel => exact ⟨i + 1, T, by go_num, ⟨by omega⟩, HL, ⟨fun a q ha hq => (HF.out a q ha hq).trans (ntS_next xs HOK.out i a q ha hq)⟩, HO, HB⟩
              case measure => simp [intOf]; omega
        · obtain rfl : m = i := by have := HI.out; omega
          have ci : decide (m < m) = false := decide_eq_false (by omega)
          go_wp2
          go_ret
          exact ⟨_, T, rfl, HO.out, HL.out.trans HNM.out, fun a q ha hq => (HF.out a q ha hq).trans (ntS_end xs ha hq _), HB.out⟩
    | cons a t =>
      have hlt := len_cons HX.out
      have hpl : (pre.length : Int) < xs.length := by omega
      have ha := HOK.out a (by rw [HX.out]; simp)
      obtain ⟨ad, e0, hx0, hx1, hx2⟩ := at_T54 HR0.out (pre.length : Int) (by omega) hpl
      rw [rd_T54_at HX.out rfl] at hx0 hx1 hx2
      simp only [Int.toNat_natCast] at hx0 hx1 hx2
      cases e0
      have hgr1 := gr_bd pre (fun x hx => HOK.out x (by rw [HX.out]; simp [hx]))
      have hsm := HSUM.out
      have hsp : sumC xs = sumC pre + (a.f2 + sumC t) := by rw [HX.out, sumC_append]; rfl
      have hst := (sumC_bd t (fun x hx => HOK.out x (by rw [HX.out]; simp [hx]))).1
      have HNX := Aside0.mk (fun i j => gr_snoc pre a i j)
      have HSN := Aside0.mk (snoc HX.out)
      have HLN := Aside0.mk (len_snoc pre a)
      obtain ⟨f0, f1, f2⟩ := a
      obtain ⟨x, hx⟩ := Int.eq_ofNat_of_zero_le ha.1.1
      obtain ⟨y, hy⟩ := Int.eq_ofNat_of_zero_le ha.2.1.1
      simp only at hx hy
      subst hx hy
      have x1 : x < m := by have := ha.1.2; simp only at this; omega
      have y1 : y < m := by have := ha.2.1.2; simp only at this; omega
      have a1 : 1 ≤ f2 ∧ f2 ≤ 1000000000 := ha.2.2.2
      simp only at hx0 hx1 hx2 hsp
      have gx := hgr1 x y
      have hw : -9223372036854775808 ≤ gr pre x y + f2 ∧ gr pre x y + f2 ≤ 9223372036854775807 := by omega
      clear hgr1 hsm hsp hst ha gx
      have X0 := Aside0.mk hx0
      have X1 := Aside0.mk hx1
      have X2 := Aside0.mk hx2
      replace hx0 := (HB.out.cell (World.block_lt_of_cell? w _ hx0)).trans hx0
      replace hx1 := (HB.out.cell (World.block_lt_of_cell? w _ hx1)).trans hx1
      replace hx2 := (HB.out.cell (World.block_lt_of_cell? w _ hx2)).trans hx2
      have cc : decide (pre.length < xs.length) = true := decide_eq_true (by omega)
      have c' : pre.length < xs.length := by omega
      clear hlt
      obtain ⟨xw1, xw2⟩ := ixw m2 x1 y1
      have hq := ix_lt x1 y1
      rw [← HNM.out] at hq
      have HQ := Aside0.mk (show ∃ q, q = x * m + y from ⟨_, rfl⟩)
      have HX1 := Aside0.mk x1
      have HY1 := Aside0.mk y1
      clear x1 y1 HX
      obtain ⟨q, hqe⟩ : ∃ q, q = x * m + y := ⟨_, rfl⟩
      have hqq : (x : Int) * (m : Int) + (y : Int) = (q : Int) := by rw [hqe]; simp
      have hqn : (q : Int) < (n : Int) := by rw [← hqe] at hq; omega
      have HQE := Aside0.mk hqe
      have hTq : T.getD q 0 = gr pre x y := by rw [hqe]; exact HF.out x y HX1.out HY1.out
      have hy := Kd.R_celln 0 HO.out (q : Int) (by omega) hqn
      rw [Int.toNat_natCast] at hy
      rw [show rdOf 0 T (q : Int) = gr pre x y from by rw [rdOf, Int.toNat_natCast]; exact hTq] at hy
      obtain ⟨hy, hf⟩ := hy
      clear hq hTq hqe
      go_upto_region 5 with (fail)
      go_region
      clear xw1 xw2
      go_upto_region 6 with (fail)
      go_region
      go_wp2
      have HO2 := Kd.R_putn HO.out (q : Int) (gr pre x y + f2)
      rw [Int.toNat_natCast] at HO2
      have HO1 := Aside0.mk HO2
      have HB1 := Aside0.mk (below_set (j := q) (v := .int .i64 (gr pre x y + f2)) HB.out hg1)
      have HF1 := Aside0.mk (show ∀ i j, i < m → j < m → (T.set q (gr pre x y + f2)).getD (i * m + j) 0 = gr (pre ++ [(⟨x, y, f2⟩ : S54)]) i j from fun i j hi hj => by
        rw [HQE.out, tset HNM.out HL.out hi hj HX1.out HY1.out, HNX.out i j, HF.out i j hi hj]
        by_cases e : i = x ∧ j = y
        · rw [if_pos e, if_pos (by rw [e.1, e.2]; exact ⟨rfl, rfl⟩), e.1, e.2]
        · rw [if_neg e, if_neg (by show ¬ ((x : Int) = (i : Int) ∧ (y : Int) = (j : Int)); omega)]
          omega)
      go_roundw
      case rel => exact ⟨pre ++ [⟨x, y, f2⟩], t, T.set q (gr pre x y + f2), HSN, by rw [HLN.out], ⟨by rw [List.length_set]; exact HL.out⟩, HF1, ⟨(by (with_reducible repeat (first | apply Kd.R_alloc | apply Kd.R_drewN | apply Kd.R_drew)); exact HO1.out)⟩, ⟨(by repeat (first | (with_reducible first | exact HB1.out | apply below_alloc | apply pw_below_drewN | apply below_drew1) | exact HB1.out))⟩⟩
      case measure => simp [intOf]; omega
theorem hdI_mem {p : List Int} (h : 0 < p.length) : hdI p ∈ p := by
  cases p with
  | nil => simp at h
  | cons a t => exact List.mem_cons_self
theorem lastI_mem {p : List Int} (h : 0 < p.length) : lastI p ∈ p := by
  unfold lastI
  rw [List.getD_eq_getElem?_getD, List.getElem?_eq_getElem (by omega)]
  exact List.getElem_mem _
set_option maxHeartbeats 8000000 in
set_option maxRecDepth 100000 in
theorem cycS_c (bt ct : Nat) (T : List Int) (m len : Nat) (F : Nat → Nat → Int) (hTl : T.length = m * m) (hF : ∀ i j, i < m → j < m → T.getD (i * m + j) 0 = F i j) (m1 : 2 ≤ m) (m2 : m ≤ 8) (hct : m * m ≤ ct) (hlen : len ≤ m) (B : Nat) :
    ∀ (d : Nat) (p : List Int) (gp cp : Nat) (w : World), (Kd.int .i64).C w (some ⟨bt, 0, none⟩) (m * m) T → 0 < p.length → (∀ x ∈ p, 0 ≤ x ∧ x < (m : Int)) → p.length + d = len → (Kd.int .i64).C w (some ⟨gp, 0, none⟩) p.length p → p.length ≤ cp → B ≤ gp → B ≤ w.heap.size →
    Calls Try.prog 78 #[.slice (some ⟨bt, 0, none⟩) (m * m : Nat) ct, .int .i64 m, .slice (some ⟨gp, 0, none⟩) p.length cp, .int .i64 len] w fun e w' => (∃ A c l, e = .returned (.slice A (l : List Int).length c) ∧ (Kd.int .i64).C w' A l.length l ∧ l.length ≤ c ∧ l = (cycD F m d p).getD [] ∧ ∀ ad, A = some ad → B ≤ ad.block) ∧ Below w.heap.size w w' := by
  intro d
  induction d with
  | zero =>
    intro p gp cp w hT hp0 hpm hd hP hcp hBg hBw
    have HBG := Aside0.mk hBg
    have HBW := Aside0.mk hBw
    clear hBg hBw
    obtain ⟨n, hn⟩ : ∃ n, n = m * m := ⟨_, rfl⟩
    obtain ⟨q, hq⟩ : ∃ q, q = p.length := ⟨_, rfl⟩
    have hh := hpm _ (hdI_mem hp0)
    have hl := hpm _ (lastI_mem hp0)
    have c0 := cellsOfD hP 0 hp0
    have cl := cellsOfD hP (p.length - 1) (by omega)
    rw [Nat.zero_add] at c0 cl
    rw [show p.getD 0 0 = hdI p from by cases p <;> rfl] at c0
    rw [show p.getD (p.length - 1) 0 = lastI p from rfl] at cl
    rw [← hq] at cl ⊢
    rw [← hn]
    obtain ⟨x, hx⟩ := Int.eq_ofNat_of_zero_le hh.1
    obtain ⟨y, hy⟩ := Int.eq_ofNat_of_zero_le hl.1
    have hix := ix_lt (show y < m from by omega) (show x < m from by omega)
    have ct1 := cellsOfD hT (y * m + x) (by omega)
    rw [Nat.zero_add, hF y x (by omega) (by omega)] at ct1
    obtain rfl : q = len := by omega
    obtain ⟨V, hV⟩ : ∃ v, v = F y x := ⟨_, rfl⟩
    have hres : cycD F m 0 p = if 0 < V then some p else none := by
      rw [cycD, hx, hy, hV]; rfl
    rw [hres]
    rw [← hV] at ct1
    rw [hx] at c0
    rw [hy] at cl
    obtain ⟨e, hee⟩ : ∃ e, e = y * m + x := ⟨_, rfl⟩
    have xw := ixw m2 (show y < m from by omega) (show x < m from by omega)
    have heq : (y : Int) * (m : Int) + (x : Int) = (e : Int) := by rw [hee]; simp
    have hen : (e : Int) < (n : Int) := by rw [hee]; omega
    rw [← hee] at ct1
    obtain ⟨xw1, xw2⟩ := xw
    rw [← hee] at xw2
    have HP := Aside0.mk hP
    have HQ := Aside0.mk hq
    have HCP := Aside0.mk hcp
    have hq1 : 1 ≤ q := by omega
    have hq8 : q ≤ 8 := by omega
    have hn64 : n ≤ 64 := by rw [hn]; exact Nat.mul_le_mul m2 m2
    clear hP hq hcp hT hTl hF hpm hp0 hn hct hres hee hV hix hx hy hh hl hd
    by_cases cv : 0 < V
    · have cvb : decide (0 < V) = true := decide_eq_true cv
      rw [if_pos cv]
      clear cv
      go_enter Try.func78, Try.ntmps78
      go_wp2
      go_ret
      exact ⟨⟨_, cp, p, by rw [HQ.out]; rfl, HP.out, HCP.out, rfl, fun ad e => by cases e; exact HBG.out⟩, Below.refl _ _⟩
    · have cvb : decide (0 < V) = false := decide_eq_false cv
      rw [if_neg cv]
      clear cv
      go_enter Try.func78, Try.ntmps78
      go_wp2_with ((with_reducible refine gate_dst (N := 34) rfl ?_); refine Kd.R_lit (Kd.int .i64) w.heap.size 3 (w0 := w) ?hg (N := 34) ?hd (xs := []) (inner := []) (ok := fun _ => True) (okp := fun _ => True) ?hr ?hp (fun _ hk => hk) trivial (by repeat (first | (with_reducible first | exact (Below.refl w.heap.size w) | apply below_alloc | apply pw_below_drewN | apply below_drew1) | exact (Below.refl w.heap.size w))) (below_size (by repeat (first | (with_reducible first | exact (Below.refl w.heap.size w) | apply below_alloc | apply pw_below_drewN | apply below_drew1) | exact (Below.refl w.heap.size w)))) (by simp) ?_; (case hd => rfl); (case hg => rfl); (case hr => first | (go_simp; done) | (go_simp; rfl)); (case hp => exact (Reps.none _ _)); intro v1 w1 ho hb hgr hnw)
      obtain ⟨Ar, cr, hvr⟩ := Kd.R_slice ho
      subst hvr
      go_ret
      exact ⟨⟨Ar, cr, [], rfl, R_C ho, R_cap ho, rfl, fun ad e => Nat.le_trans HBW.out (Kd.R_base ho _ (by rw [e]; rfl))⟩, hb⟩
  | succ d ih =>
    intro p gp cp w hT hp0 hpm hd hP hcp hBg hBw
    have HBG := Aside0.mk hBg
    have HBW := Aside0.mk hBw
    clear hBg hBw
    obtain ⟨n, hn⟩ : ∃ n, n = m * m := ⟨_, rfl⟩
    obtain ⟨q, hq⟩ : ∃ q, q = p.length := ⟨_, rfl⟩
    have hh := hpm _ (hdI_mem hp0)
    have hl := hpm _ (lastI_mem hp0)
    have c0 := cellsOfD hP 0 hp0
    have cl := cellsOfD hP (p.length - 1) (by omega)
    rw [Nat.zero_add] at c0 cl
    rw [show p.getD 0 0 = hdI p from by cases p <;> rfl] at c0
    rw [show p.getD (p.length - 1) 0 = lastI p from rfl] at cl
    obtain ⟨x, hx⟩ := Int.eq_ofNat_of_zero_le hh.1
    obtain ⟨y, hy⟩ := Int.eq_ofNat_of_zero_le hl.1
    have hym : y < m := by omega
    have hxm : x < m := by omega
    rw [hx] at c0
    rw [hy] at cl
    obtain ⟨f, hf⟩ : ∃ f : Int → Option (List Int), f = fun z => if F y z.toNat = 0 ∨ z ∈ p then none else cycD F m d (p ++ [z]) := ⟨_, rfl⟩
    obtain ⟨RES, hR⟩ : ∃ R, R = cycD F m (d + 1) p := ⟨_, rfl⟩
    have hR2 : tryN f (m - (x + 1)) ((x + 1 : Nat) : Int) = RES := by
      rw [hR, cycD, hf, hx, hy, show ((m : Int) - ((x : Int) + 1)).toNat = m - (x + 1) from by omega]
      rfl
    rw [← hR]
    have HRS := Aside0.mk hR2
    have HFE := Aside0.mk hf
    have HT := Aside0.mk hT
    have HTC := Aside0.mk hct
    have HP := Aside0.mk hP
    have HQ := Aside0.mk hq
    have HCP := Aside0.mk hcp
    have HPM := Aside0.mk hpm
    have HN := Aside0.mk hn
    have HTL := Aside0.mk hTl
    have HFF := Aside0.mk hF
    have hql : ((q : Int) == (len : Int)) = false := by rw [beq_eq_false_iff_ne]; omega
    have hq1 : 1 ≤ q := by omega
    have hq8 : q ≤ 8 := by omega
    have hn64 : n ≤ 64 := by rw [hn]; exact Nat.mul_le_mul m2 m2
    have HD := Aside0.mk hd
    have HHD := Aside0.mk (show hdI p = x from hx)
    have HLD := Aside0.mk (show lastI p = y from hy)
    rw [← hq] at cl ⊢
    rw [← hn]
    clear hP hq hcp hT hTl hF hpm hp0 hn hct hx hy hh hl hd hR hR2 hf
    go_enter Try.func78, Try.ntmps78
    go_wp2
    go_loopw [10] (fun v10 wr => ∃ X : Nat, v10 = .int .i64 X ∧ Aside0 (X ≤ m) ∧ Aside0 (tryN f (m - X) (X : Int) = RES) ∧ Aside0 (Below w.heap.size w wr)) (fun v10 _ => m - (intOf v10).toNat)
    case atStart => exact ⟨x + 1, by go_num, ⟨hxm⟩, HRS, ⟨Below.refl _ _⟩⟩
    case round =>
      clear HRS
      obtain ⟨X, rfl, HXM, HRS, HB⟩ := hrel
      by_cases hX : X < m
      · have ci : decide (X < m) = true := decide_eq_true hX
        have hrs := HRS.out
        rw [show m - X = (m - (X + 1)) + 1 from by omega] at hrs
        obtain ⟨xw1, xw2⟩ := ixw m2 hym hX
        have hix := ix_lt hym hX
        obtain ⟨e, hee⟩ : ∃ e, e = y * m + X := ⟨_, rfl⟩
        have heq : (y : Int) * (m : Int) + (X : Int) = (e : Int) := by rw [hee]; simp
        have hen : (e : Int) < (n : Int) := by rw [hee, HN.out]; omega
        rw [← hee] at xw2 hix
        have ct1 := cellsOfD HT.out e (by rw [HTL.out]; exact hix)
        rw [Nat.zero_add, show T.getD e 0 = F y X from by rw [hee]; exact HFF.out y X hym hX] at ct1
        replace ct1 := (HB.out.cell (World.block_lt_of_cell? w _ ct1)).trans ct1
        obtain ⟨V, hV⟩ : ∃ v, v = F y X := ⟨_, rfl⟩
        rw [← hV] at ct1
        have hfx : f (X : Int) = if V = 0 ∨ (X : Int) ∈ p then none else cycD F m d (p ++ [(X : Int)]) := by rw [HFE.out, hV]; rfl
        clear hee hix hV
        by_cases hV0 : V = 0
        · have cv : (V == 0) = true := by rw [beq_iff_eq]; exact hV0
          rw [if_pos (.inl hV0)] at hfx
          rw [tryN_miss hfx] at hrs
          have HRS1 := Aside0.mk hrs
          clear hrs hfx hV0
          go_wp2
          go_roundw
          case rel => exact ⟨X + 1, by go_num, ⟨hX⟩, HRS1, ⟨(by repeat (first | (with_reducible first | exact HB.out | apply below_alloc | apply pw_below_drewN | apply below_drew1) | exact HB.out))⟩⟩
          case measure => simp [intOf]; omega
        · have cv : (V == 0) = false := by rw [beq_eq_false_iff_ne]; exact hV0
          obtain ⟨kh, hh⟩ := roundsOf (specHas_ev p (X : Int) (by rw [← HQ.out]; omega))
          by_cases hmem : (X : Int) ∈ p
          · rw [decide_eq_true hmem] at hh
            have HH := Aside0.mk hh
            rw [if_pos (.inr hmem)] at hfx
            rw [tryN_miss hfx] at hrs
            have HRS1 := Aside0.mk hrs
            clear hrs hfx hV0 hmem hh
            go_wp2_with fail
            refine calls_of_args (args' := #[.slice (some ⟨gp, 0, none⟩) p.length cp, .int .i64 X]) (by rw [HQ.out]) ?_
            refine (_root_.Go.Proofs.Ytaobdjdmmhglaaa.PFnExactSettleInOrder.spec_l1Has.calls kh _ _ p _ _ _ (by repeat (first | exact (Kd.C_below HP.out HB.out) | (with_reducible refine Kd.C_alloc ?_ _) | (with_reducible refine Kd.C_drewN ?_ _) | (with_reducible refine Kd.C_drew ?_))) HCP.out HH.out).mono ?_
            rintro e w2 ⟨rfl, hb0⟩
            have hb := Drawn0.below hb0
            have n_ := Aside0.mk (below_step (by repeat (first | (with_reducible first | exact HB.out | apply below_alloc | apply pw_below_drewN | apply below_drew1) | exact HB.out)) hb); clear HB; have HB := n_; clear n_ hb
            clear hb0
            go_wp2
            go_roundw
            case rel => exact ⟨X + 1, by go_num, ⟨hX⟩, HRS1, ⟨(by repeat (first | (with_reducible first | exact HB.out | apply below_alloc | apply pw_below_drewN | apply below_drew1) | exact HB.out))⟩⟩
            case measure => simp [intOf]; omega
          · rw [decide_eq_false hmem] at hh
            have HH := Aside0.mk hh
            rw [if_neg (fun z => z.elim hV0 hmem)] at hfx
            have HFX := Aside0.mk hfx
            have HRS1 := Aside0.mk hrs
            clear hrs hfx hV0 hmem hh
            go_wp2_with fail
            refine calls_of_args (args' := #[.slice (some ⟨gp, 0, none⟩) p.length cp, .int .i64 X]) (by rw [HQ.out]) ?_
            refine (_root_.Go.Proofs.Ytaobdjdmmhglaaa.PFnExactSettleInOrder.spec_l1Has.calls kh _ _ p _ _ _ (by repeat (first | exact (Kd.C_below HP.out HB.out) | (with_reducible refine Kd.C_alloc ?_ _) | (with_reducible refine Kd.C_drewN ?_ _) | (with_reducible refine Kd.C_drew ?_))) HCP.out HH.out).mono ?_
            rintro e w2 ⟨rfl, hb0⟩
            have hb := Drawn0.below hb0
            have n_ := Aside0.mk (below_step (by repeat (first | (with_reducible first | exact HB.out | apply below_alloc | apply pw_below_drewN | apply below_drew1) | exact HB.out)) hb); clear HB; have HB := n_; clear n_ hb
            clear hb0
            go_wp2_with fail
            refine calls_of_args (args' := #[.slice (some ⟨gp, 0, none⟩) p.length cp]) (by rw [HQ.out]) ?_
            refine (_root_.Go.Proofs.Ytaobdjdmmhglaaa.PFnExactSettleInOrder.spec_l1Own.calls _ _ p p _ (by repeat (first | exact (Kd.C_below HP.out HB.out) | (with_reducible refine Kd.C_alloc ?_ _) | (with_reducible refine Kd.C_drewN ?_ _) | (with_reducible refine Kd.C_drew ?_))) HCP.out (own_eq p (by rw [← HQ.out]; omega))).mono ?_
            rintro e w3 ⟨vo, rfl, ho, hb⟩
            have HO := Aside0.mk (Kd.R_lower ho (show w.heap.size ≤ _ from below_size HB.out))
            have n_ := Aside0.mk (below_step (by repeat (first | (with_reducible first | exact HB.out | apply below_alloc | apply pw_below_drewN | apply below_drew1) | exact HB.out)) hb); clear HB; have HB := n_; clear n_ hb
            clear ho
            have hpl : p.length ≤ 8 := by rw [← HQ.out]; exact hq8
            go_wp2_with ((with_reducible refine gate_builtin (b := .append) (xs := #[.tmp 61, .tmp 63]) rfl ?_); at_builtin; refine Kd.R_append (Kd.int .i64) (w0 := w) w.heap.size rfl (.tmp 61) (.tmp 63) 31 3 (.int .i64 0) 8 rfl Try.underlying31 infoI rfl (by decide) (by omega) vo p (X : Int) [.int .i64 X] (fun _ => True) (fun _ => False) rfl rfl ?aP (fun _ hk => hk.elim) ?aF ?aO ?aB ?aS ?aL ?_; (case aP => exact rfl); (case aB => exact (by repeat (first | (with_reducible first | exact HB.out | apply below_alloc | apply pw_below_drewN | apply below_drew1) | exact HB.out))); (case aF => exact (fun _ _ => trivial)); (case aO => exact (by (with_reducible repeat (first | apply Kd.R_alloc | apply Kd.R_drewN | apply Kd.R_drew)); exact HO.out)); (case aS => exact (below_size (by repeat (first | (with_reducible first | exact HB.out | apply below_alloc | apply pw_below_drewN | apply below_drew1) | exact HB.out)))); (case aL => omega); intro v1 w1 ho hb hg hat)
            obtain ⟨P2, hP2⟩ : ∃ P2, P2 = p ++ [(X : Int)] := ⟨_, rfl⟩
            rw [← hP2] at ho
            have hfx := HFX.out
            rw [← hP2] at hfx
            have hl2 : P2.length = p.length + 1 := by rw [hP2]; simp
            have hm2 : ∀ z ∈ P2, 0 ≤ z ∧ z < (m : Int) := fun z hz => by
              rw [hP2] at hz
              rcases List.mem_append.mp hz with q1 | q1
              · exact HPM.out z q1
              · rw [List.mem_singleton.mp q1]; omega
            obtain ⟨g2, cap2, hv2, _, _, _⟩ := Kd.R_form ho (by omega)
            subst hv2
            have HO2 := Aside0.mk ho
            have HB2 := Aside0.mk hb
            have HM2 := Aside0.mk hm2
            have HL2 := Aside0.mk (show 0 < P2.length ∧ P2.length + d = len from by have := HD.out; omega)
            have HFX2 := Aside0.mk hfx
            clear ho hb hg hat hP2 hfx hl2 hm2 hpl HFX HO HB ct1 xw1 xw2
            refine calls_of_args (args' := #[.slice (some ⟨bt, 0, none⟩) (m * m : Nat) ct, .int .i64 m, .slice (some ⟨g2, 0, none⟩) P2.length cap2, .int .i64 len]) (by rw [HN.out]) ?_
            refine (ih P2 g2 cap2 _ (by repeat (first | exact (Kd.C_below HT.out HB2.out) | (with_reducible refine Kd.C_alloc ?_ _) | (with_reducible refine Kd.C_drewN ?_ _) | (with_reducible refine Kd.C_drew ?_))) HL2.out.1 HM2.out HL2.out.2 (by repeat (first | exact (R_C HO2.out) | (with_reducible refine Kd.C_alloc ?_ _) | (with_reducible refine Kd.C_drewN ?_ _) | (with_reducible refine Kd.C_drew ?_))) (R_cap HO2.out) (Nat.le_trans HBW.out (Kd.R_base HO2.out _ rfl)) (Nat.le_trans HBW.out (below_size (by repeat (first | (with_reducible first | exact HB2.out | apply below_alloc | apply pw_below_drewN | apply below_drew1) | exact HB2.out))))).mono ?_
            rintro e w4 ⟨⟨Af, cf, lf, rfl, hcf, hlf, hle, hba⟩, hb⟩
            have HBA := Aside0.mk hba
            clear hba
            have HB4 := Aside0.mk (below_step (by repeat (first | (with_reducible first | exact HB2.out | apply below_alloc | apply pw_below_drewN | apply below_drew1) | exact HB2.out)) hb)
            have hfx := HFX2.out
            cases hc : cycD F m d P2 with
            | none =>
              rw [hc] at hle hfx
              obtain rfl : lf = [] := hle
              have hrs := HRS1.out
              rw [tryN_miss hfx] at hrs
              have HRS2 := Aside0.mk hrs
              clear hrs hfx hc hcf hlf hb HB2 HO2 HFX2
              go_wp2
              go_roundw
              case rel => exact ⟨X + 1, by go_num, ⟨hX⟩, HRS2, ⟨(by repeat (first | (with_reducible first | exact HB4.out | apply below_alloc | apply pw_below_drewN | apply below_drew1) | exact HB4.out))⟩⟩
              case measure => simp [intOf]; omega
            | some cc =>
              rw [hc] at hle hfx
              obtain rfl : lf = cc := hle
              have hll := cycD_len d P2 lf hc
              have hlp : 0 < lf.length := by have := HL2.out.1; omega
              have clp : decide (0 < lf.length) = true := decide_eq_true hlp
              have hrs := HRS1.out
              rw [tryN_hit hfx] at hrs
              have HRS2 := Aside0.mk hrs
              have HCF := Aside0.mk hcf
              have HLF := Aside0.mk hlf
              clear hrs hfx hc hcf hlf hb HB2 HO2 HFX2 hll hlp
              go_wp2
              go_ret
              exact ⟨⟨Af, cf, lf, rfl, HCF.out, HLF.out, by rw [← HRS2.out]; rfl, HBA.out⟩, HB4.out⟩
      · obtain rfl : m = X := by have := HXM.out; omega
        have ci : decide (m < m) = false := decide_eq_false (by omega)
        have hrs := HRS.out
        rw [Nat.sub_self, tryN] at hrs
        clear HRS
        subst hrs
        go_wp2_with ((with_reducible refine gate_dst (N := 71) rfl ?_); refine Kd.R_lit (Kd.int .i64) w.heap.size 3 (w0 := w) ?hg (N := 71) ?hd (xs := []) (inner := []) (ok := fun _ => True) (okp := fun _ => True) ?hr ?hp (fun _ hk => hk) trivial (by repeat (first | (with_reducible first | exact HB.out | apply below_alloc | apply pw_below_drewN | apply below_drew1) | exact HB.out)) (below_size (by repeat (first | (with_reducible first | exact HB.out | apply below_alloc | apply pw_below_drewN | apply below_drew1) | exact HB.out))) (by simp) ?_; (case hd => rfl); (case hg => rfl); (case hr => first | (go_simp; done) | (go_simp; rfl)); (case hp => exact (Reps.none _ _)); intro v1 w1 ho hb hgr hnw)
        obtain ⟨Ar, cr, hvr⟩ := Kd.R_slice ho
        subst hvr
        go_ret
        exact ⟨⟨Ar, cr, [], rfl, R_C ho, R_cap ho, rfl, fun ad e => Nat.le_trans HBW.out (Kd.R_base ho _ (by rw [e]; rfl))⟩, hb⟩
set_option maxHeartbeats 8000000 in
set_option maxRecDepth 100000 in
theorem firstS_c (bt ct : Nat) (T : List Int) (m : Nat) (F : Nat → Nat → Int) (hTl : T.length = m * m) (hF : ∀ i j, i < m → j < m → T.getD (i * m + j) 0 = F i j) (m1 : 2 ≤ m) (m2 : m ≤ 8) (hct : m * m ≤ ct) (w : World) (hT : (Kd.int .i64).C w (some ⟨bt, 0, none⟩) (m * m) T) :
    Calls Try.prog 70 #[.slice (some ⟨bt, 0, none⟩) (m * m : Nat) ct, .int .i64 m] w fun e w' => (∃ A c l, e = .returned (.slice A (l : List Int).length c) ∧ (Kd.int .i64).C w' A l.length l ∧ l.length ≤ c ∧ l = (firstC F m).getD [] ∧ ∀ ad, A = some ad → w.heap.size ≤ ad.block) ∧ Below w.heap.size w w' := by
  obtain ⟨n, hn⟩ : ∃ n, n = m * m := ⟨_, rfl⟩
  have HT := Aside0.mk hT
  have HTC := Aside0.mk hct
  have HN := Aside0.mk hn
  have HTL := Aside0.mk hTl
  have HFF := Aside0.mk hF
  obtain ⟨RES, hR⟩ : ∃ R, R = firstC F m := ⟨_, rfl⟩
  have HRS := Aside0.mk (show firstL F m (m + 1 - 2) 2 = RES from by rw [hR]; rfl)
  rw [← hn, ← hR]
  clear hT hct hn hTl hF hR
  go_enter Try.func70, Try.ntmps70
  go_wp2
  go_loopw [5] (fun v5 wr => ∃ L : Nat, v5 = .int .i64 L ∧ Aside0 (2 ≤ L ∧ L ≤ m + 1) ∧ Aside0 (firstL F m (m + 1 - L) L = RES) ∧ Aside0 (Below w.heap.size w wr)) (fun v5 _ => m + 1 - (intOf v5).toNat)
  case atStart => exact ⟨2, rfl, ⟨⟨Nat.le_refl 2, by omega⟩⟩, HRS, ⟨Below.refl _ _⟩⟩
  case round =>
    clear HRS
    obtain ⟨L, rfl, HL, HRS, HB⟩ := hrel
    have hL2 := HL.out.1
    by_cases hLm : L ≤ m
    · have cL : decide (L ≤ m) = true := decide_eq_true hLm
      have hrs := HRS.out
      rw [show m + 1 - L = (m + 1 - (L + 1)) + 1 from by omega, firstL] at hrs
      obtain ⟨f, hf⟩ : ∃ f : Int → Option (List Int), f = fun x => cycD F m (L - 1) [x] := ⟨_, rfl⟩
      rw [← hf] at hrs
      obtain ⟨TR, hTR⟩ : ∃ R, R = tryN f m 0 := ⟨_, rfl⟩
      rw [← hTR] at hrs
      have HRS1 := Aside0.mk hrs
      have HTR := Aside0.mk hTR.symm
      have HFE := Aside0.mk hf
      clear hrs hTR hf
      go_wp2
      go_loopw [6] (fun v6 wr => ∃ i : Nat, v6 = .int .i64 i ∧ Aside0 (i ≤ m) ∧ Aside0 (tryN f (m - i) (i : Int) = TR) ∧ Aside0 (Below w.heap.size w wr)) (fun v6 _ => m - (intOf v6).toNat)
      case atStart => exact ⟨0, rfl, ⟨Nat.zero_le _⟩, HTR, HB⟩
      case round =>
        clear HTR HB
        obtain ⟨i, rfl, HI, HTR, HB⟩ := hrel
        by_cases him : i < m
        · have ci : decide (i < m) = true := decide_eq_true him
          have htr := HTR.out
          rw [show m - i = (m - (i + 1)) + 1 from by omega] at htr
          have HTR1 := Aside0.mk htr
          have HFX := Aside0.mk (show f (i : Int) = cycD F m (L - 1) [(i : Int)] from by rw [HFE.out])
          clear htr
          go_wp2_with ((with_reducible refine gate_dst (N := 21) rfl ?_); refine Kd.R_lit (Kd.int .i64) w.heap.size 3 (w0 := w) ?hg (N := 21) ?hd (xs := ([(i : Int)] : List Int)) (inner := [.int .i64 (i : Int)]) (ok := fun _ => True) (okp := fun _ => True) ?hr ?hp (fun _ hk => hk) trivial (by repeat (first | (with_reducible first | exact HB.out | apply below_alloc | apply pw_below_drewN | apply below_drew1) | exact HB.out)) (below_size (by repeat (first | (with_reducible first | exact HB.out | apply below_alloc | apply pw_below_drewN | apply below_drew1) | exact HB.out))) (by simp) ?_; (case hd => rfl); (case hg => rfl); (case hr => first | (go_simp; done) | (go_simp; rfl)); (case hp => exact (Reps.one (show Kd.M (Kd.int .i64) _ _ _ (i : Int) [.int .i64 (i : Int)] from rfl) (Reps.none _ _))); intro v1 w1 ho hb hgr hnw)
          obtain ⟨P2, hP2⟩ : ∃ P2, P2 = [(i : Int)] := ⟨_, rfl⟩
          have hfx := HFX.out
          rw [← hP2] at ho hfx
          have hl2 : P2.length = 1 := by rw [hP2]; rfl
          have hm2 : ∀ z ∈ P2, 0 ≤ z ∧ z < (m : Int) := fun z hz => by rw [hP2] at hz; rw [List.mem_singleton.mp hz]; omega
          obtain ⟨g2, cap2, hv2, _, _, _⟩ := Kd.R_form ho (by omega)
          subst hv2
          have HO2 := Aside0.mk ho
          have HB2 := Aside0.mk hb
          have HM2 := Aside0.mk hm2
          have HL2 := Aside0.mk (show 0 < P2.length ∧ P2.length + (L - 1) = L from by omega)
          have HFX2 := Aside0.mk hfx
          clear ho hb hgr hnw hP2 hfx hl2 hm2 HFX HB
          refine calls_of_args (args' := #[.slice (some ⟨bt, 0, none⟩) (m * m : Nat) ct, .int .i64 m, .slice (some ⟨g2, 0, none⟩) P2.length cap2, .int .i64 L]) (by rw [HN.out]) ?_
          refine (cycS_c bt ct T m L F HTL.out HFF.out m1 m2 HTC.out hLm w.heap.size (L - 1) P2 g2 cap2 _ (by repeat (first | exact (Kd.C_below HT.out HB2.out) | (with_reducible refine Kd.C_alloc ?_ _) | (with_reducible refine Kd.C_drewN ?_ _) | (with_reducible refine Kd.C_drew ?_))) HL2.out.1 HM2.out HL2.out.2 (by repeat (first | exact (R_C HO2.out) | (with_reducible refine Kd.C_alloc ?_ _) | (with_reducible refine Kd.C_drewN ?_ _) | (with_reducible refine Kd.C_drew ?_))) (R_cap HO2.out) (Kd.R_base HO2.out _ rfl) (below_size (by repeat (first | (with_reducible first | exact HB2.out | apply below_alloc | apply pw_below_drewN | apply below_drew1) | exact HB2.out)))).mono ?_
          rintro e w4 ⟨⟨Af, cf, lf, rfl, hcf, hlf, hle, hba⟩, hb⟩
          have HBA := Aside0.mk hba
          clear hba
          have HB4 := Aside0.mk (below_step (by repeat (first | (with_reducible first | exact HB2.out | apply below_alloc | apply pw_below_drewN | apply below_drew1) | exact HB2.out)) hb)
          have hfx := HFX2.out
          cases hc : cycD F m (L - 1) P2 with
          | none =>
            rw [hc] at hle hfx
            obtain rfl : lf = [] := hle
            have hrs := HTR1.out
            rw [tryN_miss hfx] at hrs
            have HRS2 := Aside0.mk hrs
            clear hrs hfx hc hcf hlf hb HB2 HO2 HFX2
            go_wp2
            go_roundw
            case rel => exact ⟨i + 1, by go_num, ⟨him⟩, HRS2, ⟨(by repeat (first | (with_reducible first | exact HB4.out | apply below_alloc | apply pw_below_drewN | apply below_drew1) | exact HB4.out))⟩⟩
            case measure => simp [intOf]; omega
          | some cc =>
            rw [hc] at hle hfx
            obtain rfl : lf = cc := hle
            have hll := cycD_len (L - 1) P2 lf hc
            have hlp : 0 < lf.length := by have := HL2.out.1; omega
            have clp : decide (0 < lf.length) = true := decide_eq_true hlp
            have hrs := HTR1.out
            rw [tryN_hit hfx] at hrs
            have hres := HRS1.out
            rw [← hrs] at hres
            have HRS2 := Aside0.mk (show some lf = RES from hres)
            have HCF := Aside0.mk hcf
            have HLF := Aside0.mk hlf
            clear hrs hfx hc hcf hlf hb HB2 HO2 HFX2 hll hlp hres
            go_wp2
            go_ret
            exact ⟨⟨Af, cf, lf, rfl, HCF.out, HLF.out, by rw [← HRS2.out]; rfl, HBA.out⟩, HB4.out⟩
        · obtain rfl : m = i := by have := HI.out; omega
          have ci : decide (m < m) = false := decide_eq_false (by omega)
          have htr := HTR.out
          rw [Nat.sub_self, tryN] at htr
          have hres := HRS1.out
          rw [← htr] at hres
          have HRS2 := Aside0.mk (show firstL F m (m + 1 - (L + 1)) (L + 1) = RES from hres)
          clear htr hres
          go_wp2
          go_roundw
          case rel => exact ⟨L + 1, by go_num, ⟨by omega⟩, HRS2, HB⟩
          case measure => simp [intOf]; omega
    · have cL : decide (L ≤ m) = false := decide_eq_false hLm
      have hrs := HRS.out
      rw [show m + 1 - L = 0 from by omega, firstL] at hrs
      clear HRS
      subst hrs
      go_wp2_with ((with_reducible refine gate_dst (N := 28) rfl ?_); refine Kd.R_lit (Kd.int .i64) w.heap.size 3 (w0 := w) ?hg (N := 28) ?hd (xs := []) (inner := []) (ok := fun _ => True) (okp := fun _ => True) ?hr ?hp (fun _ hk => hk) trivial (by repeat (first | (with_reducible first | exact HB.out | apply below_alloc | apply pw_below_drewN | apply below_drew1) | exact HB.out)) (below_size (by repeat (first | (with_reducible first | exact HB.out | apply below_alloc | apply pw_below_drewN | apply below_drew1) | exact HB.out))) (by simp) ?_; (case hd => rfl); (case hg => rfl); (case hr => first | (go_simp; done) | (go_simp; rfl)); (case hp => exact (Reps.none _ _)); intro v1 w1 ho hb hgr hnw)
      obtain ⟨Ar, cr, hvr⟩ := Kd.R_slice ho
      subst hvr
      go_ret
      exact ⟨⟨Ar, cr, [], rfl, R_C ho, R_cap ho, rfl, fun ad e => Kd.R_base ho _ (by rw [e]; rfl)⟩, hb⟩
theorem C_put {w : World} {A : Option Addr} {n : Nat} {xs : List Int} (h : (Kd.int .i64).C w A n xs) {g j : Nat} {v : Value} (hf : ∀ ad, A = some ad → ad.block ≠ g) : (Kd.int .i64).C (w.setCell ⟨g, j, none⟩ v) A n xs := Kd.C_keep (0 : Int) h (KeepBut.set_ (KeepBut.refl w g none) j v) (fun ad e _ => hf ad e)
/-- A cell of a row of numbers. -/
theorem cellsA {w : World} {ad : Addr} {n : Nat} {xs : List Int} (h : (Kd.int .i64).C w (some ad) n xs) {j : Nat} (hj : j < n) : w.cell? (ad.add j) = some (.int .i64 (xs.getD j 0)) := by
  obtain ⟨ad', e, hc⟩ := Kd.at_int h (j : Int) (by omega) (by omega)
  injection e with e
  subst e
  rw [Int.toNat_natCast] at hc
  rw [hc, rd, Int.toNat_natCast]
/-- The step (i + 1) % n in the walk's words. -/
theorem modw {i n : Nat} (h0 : 0 < n) : Int.tmod ((i : Int) + 1) (n : Int) = (((i + 1) % n : Nat) : Int) := by
  rw [show (i : Int) + 1 = ((i + 1 : Nat) : Int) from by omega]
  rfl
set_option maxHeartbeats 8000000 in
set_option maxRecDepth 100000 in
theorem spec_c (A0 : Option Addr) (c0 : Nat) (xs : List S54) (p : Int) (w : World) (hr0 : Kd.C k54 w A0 xs.length xs) (hc0 : xs.length ≤ c0) (ha0 : 0 < xs.length → ∃ b, A0 = some ⟨b, 0, none⟩) (hn : xs.length ≤ 1048576) :
    Calls Try.prog 41 #[.slice A0 xs.length c0, .int .i64 p] w fun e w' => ∃ v, e = .returned (.tuple #[v, .bool (canA xs p).2]) ∧ Kd.R k54 54 w' w.heap.size (fun _ => True) v (canA xs p).1 ∧ Below w.heap.size w w' := by
  obtain ⟨kv, hv⟩ := roundsOf (specGoodC_ev xs p hn)
  by_cases g : goodC xs p = true
  · rw [g] at hv
    have gg := of_decide_eq_true g
    obtain ⟨⟨p1, p2⟩, hx20, hok, hsum⟩ := gg
    obtain ⟨m, rfl⟩ := Int.eq_ofNat_of_zero_le (show 0 ≤ p from by omega)
    have hfin : canA xs m = (clAll (canT xs m) m 0 m, true) := by unfold canA; rw [if_pos g, Int.toNat_natCast]
    rw [hfin]
    obtain ⟨RES, hR⟩ : ∃ R, R = canT xs m := ⟨_, rfl⟩
    obtain ⟨K, hK⟩ : ∃ K, K = (total (nt xs) m).toNat + 1 := ⟨_, rfl⟩
    have HRS := Aside0.mk (show InvF (nt xs) ∧ total (nt xs) m < (K : Int) ∧ cancF m K (nt xs) = RES from ⟨fun i j => nt_bd xs hok hsum i j, by omega, by rw [hR, hK]; rfl⟩)
    rw [← hR]
    obtain ⟨n, hnm⟩ : ∃ n, n = m * m := ⟨_, rfl⟩
    have hn64 : n ≤ 64 := by rw [hnm]; exact Nat.mul_le_mul (show m ≤ 8 from by omega) (show m ≤ 8 from by omega)
    have HNM := Aside0.mk hnm
    have HV := Aside0.mk hv
    have HR0 := Aside0.mk hr0
    have HC0 := Aside0.mk hc0
    have HOK := Aside0.mk hok
    have HSUM := Aside0.mk hsum
    have m1 : 2 ≤ m := by omega
    have m2 : m ≤ 8 := by omega
    have HX := Aside0.mk hx20
    clear hv hr0 hc0 hok hx20 g hfin hsum ha0 p1 p2 hR hK hnm
    go_enter Try.func41, Try.ntmps41
    go_wp2_with fail
    refine (spec_l16Good.calls kv _ _ xs _ true _ HR0.out HC0.out HV.out).mono ?_
    rintro e w1 ⟨rfl, hb⟩
    have HB := Aside0.mk hb
    clear hb
    go_wp2_with fail
    refine (table_c _ _ xs m _ (by repeat (first | exact (Kd.C_below HR0.out HB.out) | (with_reducible refine Kd.C_alloc ?_ _) | (with_reducible refine Kd.C_drewN ?_ _) | (with_reducible refine Kd.C_drew ?_))) HC0.out ⟨m1, m2⟩ HX.out HOK.out HSUM.out).mono ?_
    rintro e w2 ⟨v, T, rfl, ho, hTl, hTF, hb⟩
    rw [← HNM.out] at hTl
    obtain ⟨g, cap, hv, hg1, hg2, cells, hg3⟩ := Kd.R_form ho (by have := m1; have := HNM.out; have := Nat.mul_le_mul m1 m1; omega)
    rw [hTl] at hv
    subst hv
    have HO := Aside0.mk (Kd.R_lower ho (show w.heap.size ≤ _ from below_size HB.out))
    have hgw : w.heap.size ≤ g := Nat.le_trans (below_size HB.out) hg1
    have HB2 := Aside0.mk (below_step (by repeat (first | (with_reducible first | exact HB.out | apply below_alloc | apply pw_below_drewN | apply below_drew1) | exact HB.out)) hb)
    have HTL := Aside0.mk hTl
    have HTF := Aside0.mk hTF
    clear HB ho hb hTl hTF hg1 hg2 hg3 cells
    go_wp2
    go_loopg [7] K (fun kq _ wr => ∃ (F : Nat → Nat → Int) (T : List Int), Aside0 (InvF F ∧ total F m < (kq : Int) ∧ cancF m kq F = RES) ∧ Aside0 (T.length = n) ∧ Aside0 (∀ i j, i < m → j < m → T.getD (i * m + j) 0 = F i j) ∧ Aside0 ((Kd.int .i64).R 3 wr w.heap.size (fun _ => True) (.slice (some ⟨g, 0, none⟩) n cap) T) ∧ Aside0 (Below w.heap.size w wr))
    case atStart => exact ⟨nt xs, T, HRS, HTL, HTF, HO, HB2⟩
    case round =>
      clear HRS HTL HTF HO HB2 T
      obtain ⟨F, T, HI, HTL, HTF, HO, HB⟩ := hrel
      go_wp2_with fail
      have hC := R_C HO.out
      have hcp := R_cap HO.out
      have hgl := Kd.R_lt HO.out g rfl
      rw [HNM.out] at hC
      have HC := Aside0.mk hC
      have HCP := Aside0.mk (show m * m ≤ cap from by rw [← HNM.out]; exact hcp)
      clear hC hcp
      refine calls_of_args (args' := #[.slice (some ⟨g, 0, none⟩) (m * m : Nat) cap, .int .i64 m]) (by rw [HNM.out]) ?_
      refine (firstS_c g cap T m F (by rw [HTL.out, HNM.out]) HTF.out m1 m2 HCP.out _ (by repeat (first | exact HC.out | (with_reducible refine Kd.C_alloc ?_ _) | (with_reducible refine Kd.C_drewN ?_ _) | (with_reducible refine Kd.C_drew ?_)))).mono ?_
      rintro e w4 ⟨⟨Af, cf, lf, rfl, hcf, hlf, hle, hba⟩, hb⟩
      have HBA := Aside0.mk (fun ad e => Nat.ne_of_gt (Nat.lt_of_lt_of_le hgl (Nat.le_trans (by first | exact Nat.le_refl _ | exact below_size (by repeat (first | (with_reducible first | exact (Below.refl _ _) | apply below_alloc | apply pw_below_drewN | apply below_drew1) | exact (Below.refl _ _)))) (hba ad e))))
      clear hba hgl HC
      have n_ := Aside0.mk (Kd.R_below (by (with_reducible repeat (first | apply Kd.R_alloc | apply Kd.R_drewN | apply Kd.R_drew)); exact HO.out) hb); clear HO; have HO := n_; clear n_; have n_ := Aside0.mk (below_step (by repeat (first | (with_reducible first | exact HB.out | apply below_alloc | apply pw_below_drewN | apply below_drew1) | exact HB.out)) hb); clear HB; have HB := n_; clear n_ hb
      cases hf : firstC F m with
      | none =>
        rw [hf] at hle
        obtain rfl : lf = [] := hle
        have hI := HI.out
        rw [canc_end hf] at hI
        obtain ⟨_, _, rfl⟩ := hI
        obtain ⟨kc, hk⟩ := roundsOf (specClaims_ev T m F m2 (by rw [HTL.out, HNM.out]) HTF.out)
        have HK := Aside0.mk hk
        clear hk hf hcf hlf HBA HI
        go_wp2_with fail
        refine calls_of_args (args' := #[.slice (some ⟨g, 0, none⟩) T.length cap, .int .i64 m]) (by rw [HTL.out]) ?_
        refine (spec_l16Claims.calls kc _ _ T _ _ _ (by rw [HTL.out]; exact (by repeat (first | exact (R_C HO.out) | (with_reducible refine Kd.C_alloc ?_ _) | (with_reducible refine Kd.C_drewN ?_ _) | (with_reducible refine Kd.C_drew ?_)))) (by rw [HTL.out]; exact R_cap HO.out) HK.out).mono ?_
        rintro e w3 ⟨v3, rfl, ho, hb⟩
        have HB3 := Aside0.mk (below_step (by repeat (first | (with_reducible first | exact HB.out | apply below_alloc | apply pw_below_drewN | apply below_drew1) | exact HB.out)) hb)
        have HO3 := Aside0.mk (Kd.R_lower ho (show w.heap.size ≤ _ from below_size HB.out))
        go_wp2
        go_ret2
        exact ⟨_, rfl, (by (with_reducible repeat (first | apply Kd.R_alloc | apply Kd.R_drewN | apply Kd.R_drew)); exact HO3.out), (by repeat (first | (with_reducible first | exact HB3.out | apply below_alloc | apply pw_below_drewN | apply below_drew1) | exact HB3.out))⟩
      | some cy =>
        rw [hf] at hle
        obtain rfl : lf = cy := hle
        have hI := HI.out
        obtain ⟨k', hkk, hI1, hI2, hI3, hcy⟩ := canc_step hI.1 m1 hf hI.2.1
        have HI' := Aside0.mk (show InvF (cutC F lf (leastC F lf lf.length) lf.length) ∧ total (cutC F lf (leastC F lf lf.length) lf.length) m < (k' : Int) ∧ cancF m k' (cutC F lf (leastC F lf lf.length) lf.length) = RES from ⟨hI3, hI2, by rw [← hI1]; exact hI.2.2⟩)
        have HINV := Aside0.mk hI.1
        have HCY := Aside0.mk hcy
        have hl2 := hcy.2.1
        have hl8 : lf.length ≤ 8 := Nat.le_trans hcy.2.2.1 m2
        have hl0 : 0 < lf.length := by omega
        have hlz : ((lf.length : Int) == 0) = false := by rw [beq_eq_false_iff_ne]; omega
        obtain ⟨ad, e0, _⟩ := Kd.at_int hcf 0 (by omega) (by omega)
        subst e0
        have HCF := Aside0.mk hcf
        have HLF := Aside0.mk hlf
        clear hf hcf hlf HI hI hI1 hI2 hI3 hcy
        go_wp2
        go_loopw [8, 9] (fun v8 v9 wr => ∃ i : Nat, v8 = .int .i64 (leastC F lf i) ∧ v9 = .int .i64 i ∧ Aside0 (i ≤ lf.length) ∧ Aside0 ((Kd.int .i64).C wr (some ad) lf.length lf) ∧ Aside0 ((Kd.int .i64).R 3 wr w.heap.size (fun _ => True) (.slice (some ⟨g, 0, none⟩) n cap) T) ∧ Aside0 (Below w.heap.size w wr)) (fun _ v9 _ => lf.length - (intOf v9).toNat)
        case atStart => exact ⟨0, rfl, rfl, ⟨Nat.zero_le _⟩, HCF, HO, HB⟩
        case round =>
          clear HCF HO HB
          obtain ⟨i, rfl, rfl, HIL, HCF, HO, HB⟩ := hrel
          by_cases hil : i < lf.length
          · have ci : decide (i < lf.length) = true := decide_eq_true hil
            obtain ⟨x1, y1, hx, hy⟩ := cyc_lt HCY.out hil
            have cx := cellsA HCF.out hil
            have cyy := cellsA HCF.out (j := (i + 1) % lf.length) (Nat.mod_lt _ hl0)
            have hmo := modw (i := i) hl0
            rw [hx] at cx
            rw [hy] at cyy
            obtain ⟨a, ha⟩ : ∃ a, a = eA lf i := ⟨_, rfl⟩
            obtain ⟨b, hbb⟩ : ∃ b, b = eB lf i := ⟨_, rfl⟩
            obtain ⟨j, hj⟩ : ∃ j, j = (i + 1) % lf.length := ⟨_, rfl⟩
            have hjl : j < lf.length := by rw [hj]; exact Nat.mod_lt _ hl0
            rw [← ha] at x1 cx
            rw [← hbb] at y1 cyy
            rw [← hj] at cyy hmo
            obtain ⟨xw1, xw2⟩ := ixw m2 x1 y1
            have hp := ix_lt x1 y1
            rw [← HNM.out] at hp
            obtain ⟨q, hq⟩ : ∃ q, q = a * m + b := ⟨_, rfl⟩
            have hqq : (a : Int) * (m : Int) + (b : Int) = (q : Int) := by rw [hq]; simp
            rw [← hq] at hp
            have hqn : (q : Int) < (n : Int) := by omega
            have yp := Kd.R_celln 0 HO.out (q : Int) (by omega) hqn
            obtain ⟨V, hV⟩ : ∃ V, V = F a b := ⟨_, rfl⟩
            rw [Int.toNat_natCast, show rdOf 0 T (q : Int) = V from by rw [rdOf, Int.toNat_natCast, hq, hV]; exact HTF.out a b x1 y1] at yp
            replace yp := yp.1
            have HLE := Aside0.mk (show spec_l1Least.f (leastC F lf i) V = some (leastC F lf (i + 1)) from by rw [l1Least_eq, leastC, ← ha, ← hbb, ← hV]; rfl)
            have hIL := hil
            clear hx hy ha hbb hj hp hq hV
            obtain ⟨L, hL⟩ : ∃ L, L = leastC F lf i := ⟨_, rfl⟩
            obtain ⟨L1, hL1⟩ : ∃ L, L = leastC F lf (i + 1) := ⟨_, rfl⟩
            rw [← hL, ← hL1] at HLE
            rw [← hL]
            have HL1 := Aside0.mk hL1
            clear hL hL1
            go_upto_region 11 with (fail)
            go_quiet ((go_at_call 56; exact Calls.quiet_of ((spec_l1Least.calls L V L1 _ HLE.out).mono fun e w' ⟨he, ⟨n, hw⟩⟩ => ⟨he, n, hw⟩)))
            go_wp2
            go_roundw
            case rel => exact ⟨i + 1, by rw [HL1.out], by go_num, ⟨hil⟩, ⟨(by repeat (first | exact HCF.out | (with_reducible refine Kd.C_alloc ?_ _) | (with_reducible refine Kd.C_drewN ?_ _) | (with_reducible refine Kd.C_drew ?_)))⟩, ⟨(by (with_reducible repeat (first | apply Kd.R_alloc | apply Kd.R_drewN | apply Kd.R_drew)); exact HO.out)⟩, ⟨(by repeat (first | (with_reducible first | exact HB.out | apply below_alloc | apply pw_below_drewN | apply below_drew1) | exact HB.out))⟩⟩
            case measure => simp [intOf]; omega
          · obtain rfl : i = lf.length := by have := HIL.out; omega
            have ci : decide (lf.length < lf.length) = false := decide_eq_false (by omega)
            have HLV := Aside0.mk (leastC_bd HINV.out lf lf.length)
            have HLL := Aside0.mk (fun k hk => leastC_le F lf lf.length k hk)
            have HCI := Aside0.mk (fun k hk => cutC_inv (k := k) HCY.out HINV.out hk)
            have HCN := Aside0.mk (fun k hk => cutC_new (k := k) HCY.out (leastC F lf lf.length) hk)
            obtain ⟨LV, hLV⟩ : ∃ L, L = leastC F lf lf.length := ⟨_, rfl⟩
            rw [← hLV] at HI' HLV HLL HCN HCI ⊢
            clear hLV HIL
            go_wp2
            go_loopw [10] (fun v10 wr => ∃ (i : Nat) (T : List Int), v10 = .int .i64 i ∧ Aside0 (i ≤ lf.length) ∧ Aside0 (T.length = n) ∧ Aside0 (∀ a b, a < m → b < m → T.getD (a * m + b) 0 = cutC F lf LV i a b) ∧ Aside0 ((Kd.int .i64).C wr (some ad) lf.length lf) ∧ Aside0 ((Kd.int .i64).R 3 wr w.heap.size (fun _ => True) (.slice (some ⟨g, 0, none⟩) n cap) T) ∧ Aside0 (Below w.heap.size w wr)) (fun v10 _ => lf.length - (intOf v10).toNat)
            case atStart => exact ⟨0, T, rfl, ⟨Nat.zero_le _⟩, HTL, HTF, HCF, HO, HB⟩
            case round =>
              clear HCF HO HB HTL HTF
              obtain ⟨i, T2, rfl, HIL, HTL, HTF, HCF, HO, HB⟩ := hrel
              by_cases hil : i < lf.length
              · have ci : decide (i < lf.length) = true := decide_eq_true hil
                obtain ⟨x1, y1, hx, hy⟩ := cyc_lt HCY.out hil
                have cx := cellsA HCF.out hil
                have cyy := cellsA HCF.out (j := (i + 1) % lf.length) (Nat.mod_lt _ hl0)
                have hmo := modw (i := i) hl0
                rw [hx] at cx
                rw [hy] at cyy
                have hv := HCN.out i hil
                have hvb := HINV.out (eA lf i) (eB lf i)
                have hvl := HLL.out i hil
                have hlv := HLV.out
                have HCS := Aside0.mk (fun a b => cutC_succ F lf LV i a b)
                obtain ⟨a, ha⟩ : ∃ a, a = eA lf i := ⟨_, rfl⟩
                obtain ⟨b, hbb⟩ : ∃ b, b = eB lf i := ⟨_, rfl⟩
                obtain ⟨j, hj⟩ : ∃ j, j = (i + 1) % lf.length := ⟨_, rfl⟩
                have hjl : j < lf.length := by rw [hj]; exact Nat.mod_lt _ hl0
                rw [← ha] at x1 cx
                rw [← hbb] at y1 cyy
                rw [← ha, ← hbb] at hv hvb hvl HCS
                rw [← hj] at cyy hmo
                obtain ⟨xw1, xw2⟩ := ixw m2 x1 y1
                have hp := ix_lt x1 y1
                rw [← HNM.out] at hp
                obtain ⟨q, hq⟩ : ∃ q, q = a * m + b := ⟨_, rfl⟩
                have hqq : (a : Int) * (m : Int) + (b : Int) = (q : Int) := by rw [hq]; simp
                rw [← hq] at hp
                have hqn : (q : Int) < (n : Int) := by omega
                have yp := Kd.R_celln 0 HO.out (q : Int) (by omega) hqn
                obtain ⟨V, hV⟩ : ∃ V, V = F a b := ⟨_, rfl⟩
                rw [← hV] at hv hvb hvl
                have HTV := Aside0.mk (show T2.getD q 0 = V from by rw [hq, HTF.out a b x1 y1]; exact hv)
                rw [Int.toNat_natCast, show rdOf 0 T2 (q : Int) = V from by rw [rdOf, Int.toNat_natCast]; exact HTV.out] at yp
                obtain ⟨yp, fp⟩ := yp
                have HQ := Aside0.mk hq
                have HX1 := Aside0.mk x1
                have HY1 := Aside0.mk y1
                have HV := Aside0.mk hv
                clear hx hy ha hbb hj hp hq hV hv x1 y1
                go_upto_region 15 with (fail)
                go_region
                clear cx cyy
                go_upto_region 16 with (fail)
                go_wp2
                have hga := HO.out
                have HO2 := Aside0.mk (Kd.R_putn HO.out (q : Int) (V - LV))
                go_roundw
                case rel =>
                  refine ⟨i + 1, T2.set q (V - LV), by go_num, ⟨hil⟩, ⟨by rw [List.length_set]; exact HTL.out⟩, ⟨fun i' j' hi' hj' => ?_⟩, ⟨(by repeat (first | exact (C_put HCF.out (fun ad e => HBA.out ad e)) | (with_reducible refine Kd.C_alloc ?_ _) | (with_reducible refine Kd.C_drewN ?_ _) | (with_reducible refine Kd.C_drew ?_)))⟩, ⟨(by (with_reducible repeat (first | apply Kd.R_alloc | apply Kd.R_drewN | apply Kd.R_drew)); exact HO2.out)⟩, ⟨(by repeat (first | (with_reducible first | exact (below_set HB.out hgw) | apply below_alloc | apply pw_below_drewN | apply below_drew1) | exact (below_set HB.out hgw)))⟩⟩
                  rw [HQ.out, tset HNM.out HTL.out hi' hj' HX1.out HY1.out, HTF.out i' j' hi' hj', HCS.out i' j']
                  by_cases e : i' = a ∧ j' = b
                  · rw [if_pos e, if_pos e, e.1, e.2, HV.out]
                  · rw [if_neg e, if_neg e]
                case measure => simp [intOf]; omega
              · obtain rfl : i = lf.length := by have := HIL.out; omega
                have ci : decide (lf.length < lf.length) = false := decide_eq_false (by omega)
                clear HIL HCI HCN HLL HLV
                go_wp2
                go_roundg k'
                case rel => exact ⟨_, _, HI', HTL, HTF, HO, HB⟩
                case measure => omega
  · have g' : goodC xs p = false := by simpa using g
    rw [g'] at hv
    have hfin : canA xs p = ([], false) := by unfold canA; rw [if_neg g]
    rw [hfin]
    have HV := Aside0.mk hv
    have HR0 := Aside0.mk hr0
    have HC0 := Aside0.mk hc0
    clear hv hr0 hc0 hfin g g' ha0
    go_enter Try.func41, Try.ntmps41
    go_wp2_with fail
    refine (spec_l16Good.calls kv _ _ xs _ false _ HR0.out HC0.out HV.out).mono ?_
    rintro e w1 ⟨rfl, hb⟩
    have HB := Aside0.mk hb
    clear hb
    go_wp2_with ((with_reducible refine gate_dst (N := 16) rfl ?_); refine Kd.R_lit k54 w.heap.size 54 (w0 := w) ?hg (N := 16) ?hd (xs := []) (inner := []) (ok := fun _ => True) (okp := fun _ => True) ?hr ?hp (fun _ hk => hk) trivial (by repeat (first | (with_reducible first | exact HB.out | apply below_alloc | apply pw_below_drewN | apply below_drew1) | exact HB.out)) (below_size (by repeat (first | (with_reducible first | exact HB.out | apply below_alloc | apply pw_below_drewN | apply below_drew1) | exact HB.out))) (by simp) ?_; (case hd => rfl); (case hg => rfl); (case hr => first | (go_simp; done) | (go_simp; rfl)); (case hp => exact (Reps.none _ _)); intro v1 w1 ho hb hgr hnw)
    go_ret2
    exact ⟨_, rfl, ho, hb⟩
/-- A slot of a slice of rows: no row yet, or a row at the head of a block (its number, its capacity). -/
def encO (m : Nat) : Option (Nat × Nat) → Value
  | none => .slice none 0 0
  | some p => .slice (some ⟨p.1, 0, none⟩) m p.2
theorem encO_one (m : Nat) (x : Option (Nat × Nat)) : (encO m x).oneCell' = true := by cases x <;> rfl
def kO (m : Nat) : Kd (Option (Nat × Nat)) := Kd.scalar (encO m) (encO_one m)
/-- A square table in rows: n of its m rows are there. -/
structure Grid (w : World) (base g cap m n : Nat) (L : List (Option (Nat × Nat))) (b c : Nat → Nat) (M : Nat → List Int) : Prop where
  out : (kO m).R 31 w base (fun k => k = g) (.slice (some ⟨g, 0, none⟩) m cap) L
  at_ : ∀ i, i < n → L.getD i none = some (b i, c i)
  row : ∀ i, i < n → (Kd.int .i64).R 3 w base (fun k => k = b i) (.slice (some ⟨b i, 0, none⟩) m (c i)) (M i)
  ne : ∀ i, i < n → b i ≠ g
  inj : ∀ i j, i < n → j < n → b i = b j → i = j
theorem Grid.below {w w1 : World} {base g cap m n : Nat} {L : List (Option (Nat × Nat))} {b c : Nat → Nat} {M : Nat → List Int} (h : Grid w base g cap m n L b c M) (hb : Below w.heap.size w w1) : Grid w1 base g cap m n L b c M :=
  ⟨Kd.R_below h.out hb, h.at_, fun i hi => Kd.R_below (h.row i hi) hb, h.ne, h.inj⟩
theorem Grid.alloc {w : World} {base g cap m n : Nat} {L : List (Option (Nat × Nat))} {b c : Nat → Nat} {M : Nat → List Int} (h : Grid w base g cap m n L b c M) (o : Obj) : Grid (w.alloc o) base g cap m n L b c M := h.below (below_alloc (Below.refl _ _) o)
theorem Grid.drew {w : World} {base g cap m n : Nat} {L : List (Option (Nat × Nat))} {b c : Nat → Nat} {M : Nat → List Int} (h : Grid w base g cap m n L b c M) : Grid w.drew base g cap m n L b c M := h.below (below_drew (Below.refl _ _))
theorem Grid.drewN {w : World} {base g cap m n : Nat} {L : List (Option (Nat × Nat))} {b c : Nat → Nat} {M : Nat → List Int} (h : Grid w base g cap m n L b c M) (q : Nat) : Grid (w.drewN q) base g cap m n L b c M := h.below (pw_below_drewN (Below.refl _ _) q)
theorem Grid.lower {w : World} {base base' g cap m n : Nat} {L : List (Option (Nat × Nat))} {b c : Nat → Nat} {M : Nat → List Int} (h : Grid w base g cap m n L b c M) (hb : base' ≤ base) : Grid w base' g cap m n L b c M :=
  ⟨Kd.R_lower h.out hb, h.at_, fun i hi => Kd.R_lower (h.row i hi) hb, h.ne, h.inj⟩
/-- The slot of row i. -/
theorem Grid.slot {w : World} {base g cap m n : Nat} {L : List (Option (Nat × Nat))} {b c : Nat → Nat} {M : Nat → List Int} (h : Grid w base g cap m n L b c M) {i : Nat} (hi : i < n) (hm : i < m) : w.cell? ⟨g, i, none⟩ = some (.slice (some ⟨b i, 0, none⟩) m (c i)) := by
  have := (Kd.R_celln none h.out (i : Int) (by omega) (by omega)).1
  rw [Int.toNat_natCast] at this
  rw [this, rdOf, Int.toNat_natCast, h.at_ i hi]
  rfl
theorem Grid.elem {w : World} {base g cap m n : Nat} {L : List (Option (Nat × Nat))} {b c : Nat → Nat} {M : Nat → List Int} (h : Grid w base g cap m n L b c M) {i j : Nat} (hi : i < n) (hj : j < m) : w.cell? ⟨b i, j, none⟩ = some (.int .i64 ((M i).getD j 0)) ∧ w.frozen? ⟨b i, j, none⟩ = false := by
  have := Kd.R_celln 0 (h.row i hi) (j : Int) (by omega) (by omega)
  rw [Int.toNat_natCast] at this
  exact ⟨this.1.trans (by rw [rdOf, Int.toNat_natCast]), this.2⟩
theorem Grid.len {w : World} {base g cap m n : Nat} {L : List (Option (Nat × Nat))} {b c : Nat → Nat} {M : Nat → List Int} (h : Grid w base g cap m n L b c M) {i : Nat} (hi : i < n) : (M i).length = m := Kd.C_len (R_C (h.row i hi))
theorem Grid.base_ {w : World} {base g cap m n : Nat} {L : List (Option (Nat × Nat))} {b c : Nat → Nat} {M : Nat → List Int} (h : Grid w base g cap m n L b c M) {i : Nat} (hi : i < n) : base ≤ b i := Kd.R_base (h.row i hi) _ rfl
theorem Grid.lt {w : World} {base g cap m n : Nat} {L : List (Option (Nat × Nat))} {b c : Nat → Nat} {M : Nat → List Int} (h : Grid w base g cap m n L b c M) {i : Nat} (hi : i < n) : b i < w.heap.size := Kd.R_lt (h.row i hi) _ rfl
theorem Grid.put {w : World} {base g cap m n : Nat} {L : List (Option (Nat × Nat))} {b c : Nat → Nat} {M : Nat → List Int} (h : Grid w base g cap m n L b c M) {i : Nat} (hi : i < n) (j : Nat) (v : Int) : Grid (w.setCell ⟨b i, j, none⟩ (.int .i64 v)) base g cap m n L b c (fun a => if a = i then (M i).set j v else M a) := by
  refine ⟨Kd.R_far h.out (p := ⟨b i, j, none⟩) (fun k hk => by rw [hk]; exact (h.ne i hi).symm) _, h.at_, fun a ha => ?_, h.ne, h.inj⟩
  by_cases e : a = i
  · subst e
    rw [if_pos rfl]
    have := Kd.R_putn (h.row a ha) (j : Int) v
    rw [Int.toNat_natCast] at this
    exact this
  · rw [if_neg e]
    exact Kd.R_far (h.row a ha) (p := ⟨b i, j, none⟩) (fun k hk => by rw [hk]; exact fun q => e (h.inj a i ha hi q)) _
/-- The whole table read. -/
theorem Grid.reads {w : World} {base g cap m : Nat} {L : List (Option (Nat × Nat))} {b c : Nat → Nat} {M : Nat → List Int} (h : Grid w base g cap m m L b c M) (hm : 0 < m) : (Kd.slice 3 (Kd.int .i64)).C w (some ⟨g, 0, none⟩) m ((List.range m).map M) := by
  refine ⟨by simp, Kd.C_max (R_C h.out), fun _ => ⟨⟨g, 0, none⟩, rfl, fun j p hj => ?_⟩⟩
  have hjm : j < m := by
    rcases Nat.lt_or_ge j m with q | q
    · exact q
    · rw [List.getElem?_eq_none (by simpa using q)] at hj; cases hj
  rw [List.getElem?_map, List.getElem?_range hjm] at hj
  obtain rfl : M j = p := by simpa using hj
  have hl := h.len hjm
  refine ⟨[.slice (some ⟨b j, 0, none⟩) m (c j)], rfl, ⟨some ⟨b j, 0, none⟩, c j, by rw [hl], by rw [hl]; exact R_cap (h.row j hjm), by rw [hl]; exact R_C (h.row j hjm)⟩, fun i u hu => ?_⟩
  match i, hu with
  | 0, hu =>
    have e : Value.slice (some ⟨b j, 0, none⟩) m (c j) = u := by simpa using hu
    have h1 := h.slot hjm hjm
    rw [add_at]
    show w.cell? ⟨g, 0 + (j * 1 + 0), none⟩ = some u
    rw [show 0 + (j * 1 + 0) = j from by omega, h1, e]
  | i + 1, hu => simp at hu
theorem Grid.same {w w1 : World} {base g cap m n : Nat} {L : List (Option (Nat × Nat))} {b c : Nat → Nat} {M : Nat → List Int} (h : Grid w base g cap m n L b c M) (hg : w.grownBy w1 none) : Grid w1 base g cap m n L b c M :=
  ⟨R_same h.out hg, h.at_, fun i hi => R_same (h.row i hi) hg, h.ne, h.inj⟩
/-- A row is laid into the next slot. -/
theorem Grid.add {w : World} {base g cap m i : Nat} {L : List (Option (Nat × Nat))} {b c : Nat → Nat} {M : Nat → List Int} (h : Grid w base g cap m i L b c M) (him : i < m) {bn cn : Nat} {row : List Int} (hr : (Kd.int .i64).R 3 w base (fun _ => True) (.slice (some ⟨bn, 0, none⟩) m cn) row) (hnew : ∀ j, j < i → b j ≠ bn) (hg : bn ≠ g) :
    Grid (w.setCell ⟨g, i, none⟩ (.slice (some ⟨bn, 0, none⟩) m cn)) base g cap m (i + 1) (L.set i (some (bn, cn))) (fun j => if j = i then bn else b j) (fun j => if j = i then cn else c j) (fun j => if j = i then row else M j) := by
  have hL : L.length = m := Kd.C_len (R_C h.out)
  refine ⟨?_, fun j hj => ?_, fun j hj => ?_, fun j hj => ?_, fun j k hj hk => ?_⟩
  · have := Kd.R_putn h.out (i : Int) (some (bn, cn))
    rw [Int.toNat_natCast] at this
    exact this
  · by_cases e : j = i
    · subst e
      rw [if_pos rfl, if_pos rfl, List.getD_eq_getElem?_getD, List.getElem?_set_self (by omega)]
      rfl
    · rw [if_neg e, if_neg e, List.getD_eq_getElem?_getD, List.getElem?_set_ne (fun q => e q.symm), ← List.getD_eq_getElem?_getD]
      exact h.at_ j (by omega)
  · by_cases e : j = i
    · subst e
      simp only [if_true]
      exact Kd.R_far (R_flat flat_int hr (ok' := fun k => k = bn) (fun k hk => by simpa [Value.ownBlock] using hk.symm)) (p := ⟨g, j, none⟩) (fun k hk => by rw [hk]; exact hg) _
    · simp only [if_neg e]
      exact Kd.R_far (h.row j (by omega)) (p := ⟨g, i, none⟩) (fun k hk => by rw [hk]; exact h.ne j (by omega)) _
  · by_cases e : j = i
    · rw [if_pos e]; exact hg
    · rw [if_neg e]; exact h.ne j (by omega)
  · by_cases e : j = i
    · by_cases f : k = i
      · intro _; rw [e, f]
      · rw [if_pos e, if_neg f]
        intro q
        exact absurd q.symm (hnew k (by omega))
    · by_cases f : k = i
      · rw [if_neg e, if_pos f]
        intro q
        exact absurd q (hnew j (by omega))
      · rw [if_neg e, if_neg f]
        exact h.inj j k (by omega) (by omega)
def Lcl_ren : Go.Shelf.Ren := ⟨fun | 15 => 64 | n => n, fun | 3 => 3 | 4 => 4 | 22 => 31 | n => n, fun | n => n⟩
theorem Lcl : Go.Proofs.Lays2.n15 Try.prog Lcl_ren := {
  mixed := by kernel_rfl,
  f15 := Try.func64.trans (congrArg some (by kernel_rfl)),
  t3 := Try.underlying3,
  a3 := Try.isAgg3,
  z3 := Try.sizeOf3,
  v3 := Try.zeroValue3,
  t4 := Try.underlying4,
  a4 := Try.isAgg4,
  z4 := Try.sizeOf4,
  v4 := Try.zeroValue4,
  t22 := Try.underlying31,
  a22 := Try.isAgg31,
  z22 := Try.sizeOf31,
  v22 := Try.zeroValue31,
  i3 := by kernel_rfl }

/-- slices.Clone of whole numbers, not empty. -/
theorem cloneInt_c (b c : Nat) (xs : List Int) (w : World) (hr : (Kd.int .i64).C w (some ⟨b, 0, none⟩) xs.length xs) (hl : xs.length ≤ 1048576) :
    Calls Try.prog 64 #[.slice (some ⟨b, 0, none⟩) xs.length c] w fun e w' => ∃ v, e = .returned v ∧ (Kd.int .i64).R 3 w' w.heap.size (fun _ => True) v xs ∧ Below w.heap.size w w' :=
  (Any.slices_Clone_int Lcl b 0 xs.length c xs w (Nat.le_refl _) (by omega) (cellsOfD hr)).mono fun e w' ⟨v, he, ho, _, hb⟩ => ⟨v, he, Kd.R_of_own (by rw [List.take_length] at ho; exact ho) (fun _ _ => trivial), hb⟩
set_option maxHeartbeats 8000000 in
set_option maxRecDepth 100000 in
theorem cycI_c (base gt capt : Nat) (LL : List (Option (Nat × Nat))) (bb cc : Nat → Nat) (M : Nat → List Int) (m len : Nat) (F : Nat → Nat → Int) (hF : ∀ i j, i < m → j < m → (M i).getD j 0 = F i j) (m1 : 2 ≤ m) (m2 : m ≤ 8) (hlen : len ≤ m) (B : Nat) :
    ∀ (d : Nat) (p : List Int) (gp cp : Nat) (w : World), Grid w base gt capt m m LL bb cc M → 0 < p.length → (∀ x ∈ p, 0 ≤ x ∧ x < (m : Int)) → p.length + d = len → (Kd.int .i64).C w (some ⟨gp, 0, none⟩) p.length p → p.length ≤ cp → B ≤ gp → B ≤ w.heap.size →
    Calls Try.prog 77 #[.slice (some ⟨gt, 0, none⟩) m capt, .int .i64 len, .slice (some ⟨gp, 0, none⟩) p.length cp] w fun e w' => ((cycD F m d p = none ∧ e = .returned (.slice none 0 0)) ∨ ∃ ad c l, cycD F m d p = some l ∧ e = .returned (.slice (some ad) (l : List Int).length c) ∧ (Kd.int .i64).C w' (some ad) l.length l ∧ l.length ≤ c ∧ B ≤ ad.block) ∧ Below w.heap.size w w' := by
  intro d
  induction d with
  | zero =>
    intro p gp cp w hG hp0 hpm hd hP hcp hBg hBw
    have HBG := Aside0.mk hBg
    have HBW := Aside0.mk hBw
    clear hBg hBw
    obtain ⟨q, hq⟩ : ∃ q, q = p.length := ⟨_, rfl⟩
    have hh := hpm _ (hdI_mem hp0)
    have hl := hpm _ (lastI_mem hp0)
    have c0 := cellsOfD hP 0 hp0
    have cl := cellsOfD hP (p.length - 1) (by omega)
    rw [Nat.zero_add] at c0 cl
    rw [show p.getD 0 0 = hdI p from by cases p <;> rfl] at c0
    rw [show p.getD (p.length - 1) 0 = lastI p from rfl] at cl
    rw [← hq] at cl ⊢
    obtain ⟨x, hx⟩ := Int.eq_ofNat_of_zero_le hh.1
    obtain ⟨y, hy⟩ := Int.eq_ofNat_of_zero_le hl.1
    have ym : y < m := by omega
    have xm : x < m := by omega
    have hs := hG.slot ym ym
    have he := (hG.elem ym xm).1
    rw [hF y x ym xm] at he
    obtain rfl : q = len := by omega
    obtain ⟨V, hV⟩ : ∃ v, v = F y x := ⟨_, rfl⟩
    have hres : cycD F m 0 p = if 0 < V then some p else none := by
      rw [cycD, hx, hy, hV]; rfl
    rw [hres]
    rw [← hV] at he
    rw [hx] at c0
    rw [hy] at cl
    have HP := Aside0.mk hP
    have HQ := Aside0.mk hq
    have HCP := Aside0.mk hcp
    have hq1 : 1 ≤ q := by omega
    have hq8 : q ≤ 8 := by omega
    clear hP hq hcp hG hF hpm hp0 hres hV hx hy hh hl hd
    by_cases cv : 0 < V
    · have cvb : decide (0 < V) = true := decide_eq_true cv
      rw [if_pos cv]
      clear cv
      go_enter Try.func77, Try.ntmps77
      go_upto_region 3 with (fail)
      go_region
      go_wp2
      go_ret
      exact ⟨.inr ⟨_, cp, p, rfl, by rw [HQ.out]; rfl, HP.out, HCP.out, HBG.out⟩, by repeat (first | exact Below.refl _ _ | apply pw_below_drewN | apply below_drew1)⟩
    · have cvb : decide (0 < V) = false := decide_eq_false cv
      rw [if_neg cv]
      clear cv
      go_enter Try.func77, Try.ntmps77
      go_upto_region 3 with (fail)
      go_region
      go_wp2
      go_ret
      exact ⟨.inl ⟨by trivial, rfl⟩, by repeat (first | exact Below.refl _ _ | apply pw_below_drewN | apply below_drew1)⟩
  | succ d ih =>
    intro p gp cp w hG hp0 hpm hd hP hcp hBg hBw
    have HBG := Aside0.mk hBg
    have HBW := Aside0.mk hBw
    clear hBg hBw
    obtain ⟨q, hq⟩ : ∃ q, q = p.length := ⟨_, rfl⟩
    have hh := hpm _ (hdI_mem hp0)
    have hl := hpm _ (lastI_mem hp0)
    have c0 := cellsOfD hP 0 hp0
    have cl := cellsOfD hP (p.length - 1) (by omega)
    rw [Nat.zero_add] at c0 cl
    rw [show p.getD 0 0 = hdI p from by cases p <;> rfl] at c0
    rw [show p.getD (p.length - 1) 0 = lastI p from rfl] at cl
    obtain ⟨x, hx⟩ := Int.eq_ofNat_of_zero_le hh.1
    obtain ⟨y, hy⟩ := Int.eq_ofNat_of_zero_le hl.1
    have hym : y < m := by omega
    have hxm : x < m := by omega
    rw [hx] at c0
    rw [hy] at cl
    obtain ⟨f, hf⟩ : ∃ f : Int → Option (List Int), f = fun z => if F y z.toNat = 0 ∨ z ∈ p then none else cycD F m d (p ++ [z]) := ⟨_, rfl⟩
    obtain ⟨RES, hR⟩ : ∃ R, R = cycD F m (d + 1) p := ⟨_, rfl⟩
    have hR2 : tryN f (m - (x + 1)) ((x + 1 : Nat) : Int) = RES := by
      rw [hR, cycD, hf, hx, hy, show ((m : Int) - ((x : Int) + 1)).toNat = m - (x + 1) from by omega]
      rfl
    rw [← hR]
    have HRS := Aside0.mk hR2
    have HFE := Aside0.mk hf
    have HG := Aside0.mk hG
    have HP := Aside0.mk hP
    have HQ := Aside0.mk hq
    have HCP := Aside0.mk hcp
    have HPM := Aside0.mk hpm
    have HFF := Aside0.mk hF
    have hql : ((q : Int) == (len : Int)) = false := by rw [beq_eq_false_iff_ne]; omega
    have hq1 : 1 ≤ q := by omega
    have hq8 : q ≤ 8 := by omega
    have HD := Aside0.mk hd
    have HHD := Aside0.mk (show hdI p = x from hx)
    have HLD := Aside0.mk (show lastI p = y from hy)
    rw [← hq] at cl ⊢
    clear hP hq hcp hG hF hpm hp0 hx hy hh hl hd hR hR2 hf
    have q2 := fun a l c w => run_neq_slice_nil (P := Try.prog) w 31 3 a l c Try.underlying31
    go_enter Try.func77, Try.ntmps77
    go_wp2
    go_loopw [8] (fun v10 wr => ∃ X : Nat, v10 = .int .i64 X ∧ Aside0 (X ≤ m) ∧ Aside0 (tryN f (m - X) (X : Int) = RES) ∧ Aside0 (Below w.heap.size w wr)) (fun v10 _ => m - (intOf v10).toNat)
    case atStart => exact ⟨x + 1, by go_num, ⟨hxm⟩, HRS, ⟨Below.refl _ _⟩⟩
    case round =>
      clear HRS
      obtain ⟨X, rfl, HXM, HRS, HB⟩ := hrel
      by_cases hX : X < m
      · have ci : decide (X < m) = true := decide_eq_true hX
        have hrs := HRS.out
        rw [show m - X = (m - (X + 1)) + 1 from by omega] at hrs
        have hs := (HG.out.below HB.out).slot hym hym
        have he := ((HG.out.below HB.out).elem hym hX).1
        rw [HFF.out y X hym hX] at he
        obtain ⟨V, hV⟩ : ∃ v, v = F y X := ⟨_, rfl⟩
        rw [← hV] at he
        have hfx : f (X : Int) = if V = 0 ∨ (X : Int) ∈ p then none else cycD F m d (p ++ [(X : Int)]) := by rw [HFE.out, hV]; rfl
        clear hV
        by_cases hV0 : V = 0
        · have cv : (V == 0) = true := by rw [beq_iff_eq]; exact hV0
          rw [if_pos (.inl hV0)] at hfx
          rw [tryN_miss hfx] at hrs
          have HRS1 := Aside0.mk hrs
          clear hrs hfx hV0
          go_wp2
          go_roundw
          case rel => exact ⟨X + 1, by go_num, ⟨hX⟩, HRS1, ⟨(by repeat (first | (with_reducible first | exact HB.out | apply below_alloc | apply pw_below_drewN | apply below_drew1) | exact HB.out))⟩⟩
          case measure => simp [intOf]; omega
        · have cv : (V == 0) = false := by rw [beq_eq_false_iff_ne]; exact hV0
          obtain ⟨kh, hh⟩ := roundsOf (contains_ev p (X : Int) (by rw [← HQ.out]; omega))
          by_cases hmem : (X : Int) ∈ p
          · rw [decide_eq_true hmem] at hh
            have HH := Aside0.mk hh
            rw [if_pos (.inr hmem)] at hfx
            rw [tryN_miss hfx] at hrs
            have HRS1 := Aside0.mk hrs
            clear hrs hfx hV0 hmem hh
            go_wp2_with fail
            refine calls_of_args (args' := #[.slice (some ⟨gp, 0, none⟩) p.length cp, .int .i64 X]) (by rw [HQ.out]) ?_
            refine (slices_Contains_int_int.calls kh _ _ p _ _ _ (by repeat (first | exact (Kd.C_below HP.out HB.out) | (with_reducible refine Kd.C_alloc ?_ _) | (with_reducible refine Kd.C_drewN ?_ _) | (with_reducible refine Kd.C_drew ?_))) HCP.out HH.out).mono ?_
            rintro e w2 ⟨rfl, hb0⟩
            have hb := Drawn0.below hb0
            have n_ := Aside0.mk (below_step (by repeat (first | (with_reducible first | exact HB.out | apply below_alloc | apply pw_below_drewN | apply below_drew1) | exact HB.out)) hb); clear HB; have HB := n_; clear n_ hb
            clear hb0
            go_wp2
            go_roundw
            case rel => exact ⟨X + 1, by go_num, ⟨hX⟩, HRS1, ⟨(by repeat (first | (with_reducible first | exact HB.out | apply below_alloc | apply pw_below_drewN | apply below_drew1) | exact HB.out))⟩⟩
            case measure => simp [intOf]; omega
          · rw [decide_eq_false hmem] at hh
            have HH := Aside0.mk hh
            rw [if_neg (fun z => z.elim hV0 hmem)] at hfx
            have HFX := Aside0.mk hfx
            have HRS1 := Aside0.mk hrs
            clear hrs hfx hV0 hmem hh
            go_wp2_with fail
            refine calls_of_args (args' := #[.slice (some ⟨gp, 0, none⟩) p.length cp, .int .i64 X]) (by rw [HQ.out]) ?_
            refine (slices_Contains_int_int.calls kh _ _ p _ _ _ (by repeat (first | exact (Kd.C_below HP.out HB.out) | (with_reducible refine Kd.C_alloc ?_ _) | (with_reducible refine Kd.C_drewN ?_ _) | (with_reducible refine Kd.C_drew ?_))) HCP.out HH.out).mono ?_
            rintro e w2 ⟨rfl, hb0⟩
            have hb := Drawn0.below hb0
            have n_ := Aside0.mk (below_step (by repeat (first | (with_reducible first | exact HB.out | apply below_alloc | apply pw_below_drewN | apply below_drew1) | exact HB.out)) hb); clear HB; have HB := n_; clear n_ hb
            clear hb0
            go_wp2_with fail
            refine calls_of_args (args' := #[.slice (some ⟨gp, 0, none⟩) p.length cp]) (by rw [HQ.out]) ?_
            refine (cloneInt_c gp cp p _ (by repeat (first | exact (Kd.C_below HP.out HB.out) | (with_reducible refine Kd.C_alloc ?_ _) | (with_reducible refine Kd.C_drewN ?_ _) | (with_reducible refine Kd.C_drew ?_))) (by rw [← HQ.out]; omega)).mono ?_
            rintro e w3 ⟨vo, rfl, ho, hb⟩
            have HO := Aside0.mk (Kd.R_lower ho (show w.heap.size ≤ _ from below_size HB.out))
            have n_ := Aside0.mk (below_step (by repeat (first | (with_reducible first | exact HB.out | apply below_alloc | apply pw_below_drewN | apply below_drew1) | exact HB.out)) hb); clear HB; have HB := n_; clear n_ hb
            clear ho
            have hpl : p.length ≤ 8 := by rw [← HQ.out]; exact hq8
            go_wp2_with ((with_reducible refine gate_builtin (b := .append) (xs := #[.tmp 57, .tmp 59]) rfl ?_); at_builtin; refine Kd.R_append (Kd.int .i64) (w0 := w) w.heap.size rfl (.tmp 57) (.tmp 59) 31 3 (.int .i64 0) 8 rfl Try.underlying31 infoI rfl (by decide) (by omega) vo p (X : Int) [.int .i64 X] (fun _ => True) (fun _ => False) rfl rfl ?aP (fun _ hk => hk.elim) ?aF ?aO ?aB ?aS ?aL ?_; (case aP => exact rfl); (case aB => exact (by repeat (first | (with_reducible first | exact HB.out | apply below_alloc | apply pw_below_drewN | apply below_drew1) | exact HB.out))); (case aF => exact (fun _ _ => trivial)); (case aO => exact (by (with_reducible repeat (first | apply Kd.R_alloc | apply Kd.R_drewN | apply Kd.R_drew)); exact HO.out)); (case aS => exact (below_size (by repeat (first | (with_reducible first | exact HB.out | apply below_alloc | apply pw_below_drewN | apply below_drew1) | exact HB.out)))); (case aL => omega); intro v1 w1 ho hb hg hat)
            obtain ⟨P2, hP2⟩ : ∃ P2, P2 = p ++ [(X : Int)] := ⟨_, rfl⟩
            rw [← hP2] at ho
            have hfx := HFX.out
            rw [← hP2] at hfx
            have hl2 : P2.length = p.length + 1 := by rw [hP2]; simp
            have hm2 : ∀ z ∈ P2, 0 ≤ z ∧ z < (m : Int) := fun z hz => by
              rw [hP2] at hz
              rcases List.mem_append.mp hz with q1 | q1
              · exact HPM.out z q1
              · rw [List.mem_singleton.mp q1]; omega
            obtain ⟨g2, cap2, hv2, _, _, _⟩ := Kd.R_form ho (by omega)
            subst hv2
            have HO2 := Aside0.mk ho
            have HB2 := Aside0.mk hb
            have HM2 := Aside0.mk hm2
            have HL2 := Aside0.mk (show 0 < P2.length ∧ P2.length + d = len from by have := HD.out; omega)
            have HFX2 := Aside0.mk hfx
            clear ho hb hg hat hP2 hfx hl2 hm2 hpl HFX HO HB hs he
            refine calls_of_args (args' := #[.slice (some ⟨gt, 0, none⟩) m capt, .int .i64 len, .slice (some ⟨g2, 0, none⟩) P2.length cap2]) rfl ?_
            refine (ih P2 g2 cap2 _ (HG.out.below (by repeat (first | (with_reducible first | exact HB2.out | apply below_alloc | apply pw_below_drewN | apply below_drew1) | exact HB2.out))) HL2.out.1 HM2.out HL2.out.2 (by repeat (first | exact (R_C HO2.out) | (with_reducible refine Kd.C_alloc ?_ _) | (with_reducible refine Kd.C_drewN ?_ _) | (with_reducible refine Kd.C_drew ?_))) (R_cap HO2.out) (Nat.le_trans HBW.out (Kd.R_base HO2.out _ rfl)) (Nat.le_trans HBW.out (below_size (by repeat (first | (with_reducible first | exact HB2.out | apply below_alloc | apply pw_below_drewN | apply below_drew1) | exact HB2.out))))).mono ?_
            have hfx := HFX2.out
            rintro e w4 ⟨⟨hc, rfl⟩ | ⟨ad, cf, lf, hc, rfl, hcf, hlf, hba⟩, hb⟩
            · have HB4 := Aside0.mk (below_step (by repeat (first | (with_reducible first | exact HB2.out | apply below_alloc | apply pw_below_drewN | apply below_drew1) | exact HB2.out)) hb)
              rw [hc] at hfx
              have hrs := HRS1.out
              rw [tryN_miss hfx] at hrs
              have HRS2 := Aside0.mk hrs
              clear hrs hfx hc hb HB2 HO2 HFX2
              go_wp2
              go_roundw
              case rel => exact ⟨X + 1, by go_num, ⟨hX⟩, HRS2, ⟨(by repeat (first | (with_reducible first | exact HB4.out | apply below_alloc | apply pw_below_drewN | apply below_drew1) | exact HB4.out))⟩⟩
              case measure => simp [intOf]; omega
            · have HB4 := Aside0.mk (below_step (by repeat (first | (with_reducible first | exact HB2.out | apply below_alloc | apply pw_below_drewN | apply below_drew1) | exact HB2.out)) hb)
              rw [hc] at hfx
              have hrs := HRS1.out
              rw [tryN_hit hfx] at hrs
              have HRS2 := Aside0.mk hrs
              have HBA := Aside0.mk hba
              clear hba
              have HCF := Aside0.mk hcf
              have HLF := Aside0.mk hlf
              clear hrs hfx hc hcf hlf hb HB2 HO2 HFX2
              go_wp2
              go_ret
              exact ⟨.inr ⟨ad, cf, lf, HRS2.out.symm, rfl, HCF.out, HLF.out, HBA.out⟩, HB4.out⟩
      · obtain rfl : m = X := by have := HXM.out; omega
        have ci : decide (m < m) = false := decide_eq_false (by omega)
        have hrs := HRS.out
        rw [Nat.sub_self, tryN] at hrs
        clear HRS
        subst hrs
        go_wp2
        go_ret
        exact ⟨by first | exact .inl ⟨rfl, rfl⟩ | rfl, (by repeat (first | (with_reducible first | exact HB.out | apply below_alloc | apply pw_below_drewN | apply below_drew1) | exact HB.out))⟩
set_option maxHeartbeats 8000000 in
set_option maxRecDepth 100000 in
theorem firstI_c (base gt capt : Nat) (LL : List (Option (Nat × Nat))) (bb cc : Nat → Nat) (M : Nat → List Int) (m : Nat) (F : Nat → Nat → Int) (hF : ∀ i j, i < m → j < m → (M i).getD j 0 = F i j) (m1 : 2 ≤ m) (m2 : m ≤ 8) (w : World) (hG : Grid w base gt capt m m LL bb cc M) :
    Calls Try.prog 69 #[.slice (some ⟨gt, 0, none⟩) m capt] w fun e w' => ((firstC F m = none ∧ e = .returned (.slice none 0 0)) ∨ ∃ ad c l, firstC F m = some l ∧ e = .returned (.slice (some ad) (l : List Int).length c) ∧ (Kd.int .i64).C w' (some ad) l.length l ∧ l.length ≤ c ∧ w.heap.size ≤ ad.block) ∧ Below w.heap.size w w' := by
  have HG := Aside0.mk hG
  have HFF := Aside0.mk hF
  obtain ⟨RES, hR⟩ : ∃ R, R = firstC F m := ⟨_, rfl⟩
  have HRS := Aside0.mk (show firstL F m (m + 1 - 2) 2 = RES from by rw [hR]; rfl)
  rw [← hR]
  clear hG hF hR
  have q2 := fun a l c w => run_neq_slice_nil (P := Try.prog) w 31 3 a l c Try.underlying31
  go_enter Try.func69, Try.ntmps69
  go_wp2
  go_loopw [3] (fun v5 wr => ∃ L : Nat, v5 = .int .i64 L ∧ Aside0 (2 ≤ L ∧ L ≤ m + 1) ∧ Aside0 (firstL F m (m + 1 - L) L = RES) ∧ Aside0 (Below w.heap.size w wr)) (fun v5 _ => m + 1 - (intOf v5).toNat)
  case atStart => exact ⟨2, rfl, ⟨⟨Nat.le_refl 2, by omega⟩⟩, HRS, ⟨Below.refl _ _⟩⟩
  case round =>
    clear HRS
    obtain ⟨L, rfl, HL, HRS, HB⟩ := hrel
    have hL2 := HL.out.1
    by_cases hLm : L ≤ m
    · have cL : decide (L ≤ m) = true := decide_eq_true hLm
      have hrs := HRS.out
      rw [show m + 1 - L = (m + 1 - (L + 1)) + 1 from by omega, firstL] at hrs
      obtain ⟨f, hf⟩ : ∃ f : Int → Option (List Int), f = fun x => cycD F m (L - 1) [x] := ⟨_, rfl⟩
      rw [← hf] at hrs
      obtain ⟨TR, hTR⟩ : ∃ R, R = tryN f m 0 := ⟨_, rfl⟩
      rw [← hTR] at hrs
      have HRS1 := Aside0.mk hrs
      have HTR := Aside0.mk hTR.symm
      have HFE := Aside0.mk hf
      clear hrs hTR hf
      go_wp2
      go_loopw [14] (fun v6 wr => ∃ i : Nat, v6 = .int .i64 i ∧ Aside0 (i ≤ m) ∧ Aside0 (tryN f (m - i) (i : Int) = TR) ∧ Aside0 (Below w.heap.size w wr)) (fun v6 _ => m - (intOf v6).toNat)
      case atStart => exact ⟨0, rfl, ⟨Nat.zero_le _⟩, HTR, HB⟩
      case round =>
        clear HTR HB
        obtain ⟨i, rfl, HI, HTR, HB⟩ := hrel
        by_cases him : i < m
        · have ci : decide (i < m) = true := decide_eq_true him
          have htr := HTR.out
          rw [show m - i = (m - (i + 1)) + 1 from by omega] at htr
          have HTR1 := Aside0.mk htr
          have HFX := Aside0.mk (show f (i : Int) = cycD F m (L - 1) [(i : Int)] from by rw [HFE.out])
          clear htr
          go_wp2_with ((with_reducible refine gate_dst (N := 20) rfl ?_); refine Kd.R_lit (Kd.int .i64) w.heap.size 3 (w0 := w) ?hg (N := 20) ?hd (xs := ([(i : Int)] : List Int)) (inner := [.int .i64 (i : Int)]) (ok := fun _ => True) (okp := fun _ => True) ?hr ?hp (fun _ hk => hk) trivial (by repeat (first | (with_reducible first | exact HB.out | apply below_alloc | apply pw_below_drewN | apply below_drew1) | exact HB.out)) (below_size (by repeat (first | (with_reducible first | exact HB.out | apply below_alloc | apply pw_below_drewN | apply below_drew1) | exact HB.out))) (by simp) ?_; (case hd => rfl); (case hg => rfl); (case hr => first | (go_simp; done) | (go_simp; rfl)); (case hp => exact (Reps.one (show Kd.M (Kd.int .i64) _ _ _ (i : Int) [.int .i64 (i : Int)] from rfl) (Reps.none _ _))); intro v1 w1 ho hb hgr hnw)
          obtain ⟨P2, hP2⟩ : ∃ P2, P2 = [(i : Int)] := ⟨_, rfl⟩
          have hfx := HFX.out
          rw [← hP2] at ho hfx
          have hl2 : P2.length = 1 := by rw [hP2]; rfl
          have hm2 : ∀ z ∈ P2, 0 ≤ z ∧ z < (m : Int) := fun z hz => by rw [hP2] at hz; rw [List.mem_singleton.mp hz]; omega
          obtain ⟨g2, cap2, hv2, _, _, _⟩ := Kd.R_form ho (by omega)
          subst hv2
          have HO2 := Aside0.mk ho
          have HB2 := Aside0.mk hb
          have HM2 := Aside0.mk hm2
          have HL2 := Aside0.mk (show 0 < P2.length ∧ P2.length + (L - 1) = L from by omega)
          have HFX2 := Aside0.mk hfx
          clear ho hb hgr hnw hP2 hfx hl2 hm2 HFX HB
          refine (cycI_c base gt capt LL bb cc M m L F HFF.out m1 m2 hLm w.heap.size (L - 1) P2 g2 cap2 _ (HG.out.below (by repeat (first | (with_reducible first | exact HB2.out | apply below_alloc | apply pw_below_drewN | apply below_drew1) | exact HB2.out))) HL2.out.1 HM2.out HL2.out.2 (by repeat (first | exact (R_C HO2.out) | (with_reducible refine Kd.C_alloc ?_ _) | (with_reducible refine Kd.C_drewN ?_ _) | (with_reducible refine Kd.C_drew ?_))) (R_cap HO2.out) (Kd.R_base HO2.out _ rfl) (below_size (by repeat (first | (with_reducible first | exact HB2.out | apply below_alloc | apply pw_below_drewN | apply below_drew1) | exact HB2.out)))).mono ?_
          have hfx := HFX2.out
          rintro e w4 ⟨⟨hc, rfl⟩ | ⟨ad, cf, lf, hc, rfl, hcf, hlf, hba⟩, hb⟩
          · have HB4 := Aside0.mk (below_step (by repeat (first | (with_reducible first | exact HB2.out | apply below_alloc | apply pw_below_drewN | apply below_drew1) | exact HB2.out)) hb)
            rw [hc] at hfx
            have hrs := HTR1.out
            rw [tryN_miss hfx] at hrs
            have HRS2 := Aside0.mk hrs
            clear hrs hfx hc hb HB2 HO2 HFX2
            go_wp2
            go_roundw
            case rel => exact ⟨i + 1, by go_num, ⟨him⟩, HRS2, ⟨(by repeat (first | (with_reducible first | exact HB4.out | apply below_alloc | apply pw_below_drewN | apply below_drew1) | exact HB4.out))⟩⟩
            case measure => simp [intOf]; omega
          · have HB4 := Aside0.mk (below_step (by repeat (first | (with_reducible first | exact HB2.out | apply below_alloc | apply pw_below_drewN | apply below_drew1) | exact HB2.out)) hb)
            rw [hc] at hfx
            have hrs := HTR1.out
            rw [tryN_hit hfx] at hrs
            have hres := HRS1.out
            rw [← hrs] at hres
            have HRS2 := Aside0.mk (show some lf = RES from hres)
            have HBA := Aside0.mk hba
            clear hba
            have HCF := Aside0.mk hcf
            have HLF := Aside0.mk hlf
            clear hrs hfx hc hcf hlf hb HB2 HO2 HFX2 hres
            go_wp2
            go_ret
            exact ⟨.inr ⟨ad, cf, lf, HRS2.out.symm, rfl, HCF.out, HLF.out, HBA.out⟩, HB4.out⟩
        · obtain rfl : m = i := by have := HI.out; omega
          have ci : decide (m < m) = false := decide_eq_false (by omega)
          have htr := HTR.out
          rw [Nat.sub_self, tryN] at htr
          have hres := HRS1.out
          rw [← htr] at hres
          have HRS2 := Aside0.mk (show firstL F m (m + 1 - (L + 1)) (L + 1) = RES from hres)
          clear htr hres
          go_wp2
          go_roundw
          case rel => exact ⟨L + 1, by go_num, ⟨by omega⟩, HRS2, HB⟩
          case measure => simp [intOf]; omega
    · have cL : decide (L ≤ m) = false := decide_eq_false hLm
      have hrs := HRS.out
      rw [show m + 1 - L = 0 from by omega, firstL] at hrs
      clear HRS
      subst hrs
      go_wp2
      go_ret
      exact ⟨by first | exact .inl ⟨rfl, rfl⟩ | rfl, (by repeat (first | (with_reducible first | exact HB.out | apply below_alloc | apply pw_below_drewN | apply below_drew1) | exact HB.out))⟩
theorem infoR : (Try.prog.info? 31).map (fun i => (i.zero, i.size, i.bytes)) = some (some (.slice none 0 0), 1, 24) := by kernel_rfl
set_option maxHeartbeats 8000000 in
set_option maxRecDepth 100000 in
theorem owedNet_c (A0 : Option Addr) (c0 : Nat) (xs : List S54) (m : Nat) (w : World) (hr0 : Kd.C k54 w A0 xs.length xs) (hc0 : xs.length ≤ c0) (hm : 2 ≤ m ∧ m ≤ 8) (hn : xs.length ≤ 20) (hok : ∀ a ∈ xs, okC m a) (hsum : sumC xs ≤ 1000000000) :
    Calls Try.prog 55 #[.slice A0 xs.length c0, .int .i64 m] w fun e w' => ∃ g cap L b c M, e = .returned (.slice (some ⟨g, 0, none⟩) m cap) ∧ Grid w' w.heap.size g cap m m L b c M ∧ (∀ i j, i < m → j < m → (M i).getD j 0 = nt xs i j) ∧ w.heap.size ≤ g ∧ Below w.heap.size w w' := by
  have HR0 := Aside0.mk hr0
  have HC0 := Aside0.mk hc0
  have HOK := Aside0.mk hok
  have HSUM := Aside0.mk hsum
  have m1 := hm.1
  have m2 := hm.2
  clear hr0 hc0 hok hm hsum
  go_enter Try.func55, Try.ntmps55
  go_wp2_with (((with_reducible refine gate_dst (N := 13) rfl ?_); refine Kd.R_make (kO m) w.heap.size 31 rfl (N := 13) rfl 64 _ _ rfl (m : Int) rfl rfl Try.underlying64 (.slice none 0 0) 24 infoR rfl (by first | decide | exact Nat.one_pos) (by omega) none (ok := fun _ => True) (okp := fun _ => True) rfl (fun _ hk => hk) trivial (by omega) (by omega) (by repeat (first | (with_reducible first | exact (Below.refl w.heap.size w) | apply below_alloc | apply pw_below_drewN | apply below_drew1) | exact (Below.refl w.heap.size w))) (below_size (by repeat (first | (with_reducible first | exact (Below.refl w.heap.size w) | apply below_alloc | apply pw_below_drewN | apply below_drew1) | exact (Below.refl w.heap.size w)))) ?_; intro v1 w1 ho hb hgr hnw); rw [Int.toNat_natCast] at ho; obtain ⟨g, cap, hv, hg1, hg2, cells, hg3⟩ := Kd.R_form ho (by rw [List.length_replicate]; omega); rw [List.length_replicate] at hv; subst hv)
  have HG : Aside0 (Grid w1 w.heap.size g cap m 0 (List.replicate m none) (fun _ => 0) (fun _ => 0) (fun _ => List.replicate m 0)) := ⟨⟨R_flat (fun _ _ _ _ _ _ h => h) ho (fun k hk => by simpa [Value.ownBlock] using hk.symm), fun i hi => absurd hi (Nat.not_lt_zero i), fun i hi => absurd hi (Nat.not_lt_zero i), fun i hi => absurd hi (Nat.not_lt_zero i), fun i j hi => absurd hi (Nat.not_lt_zero i)⟩⟩
  have HB := Aside0.mk hb
  clear ho hb hg2 hg3 cells hgr hnw
  go_loopw [16] (fun v16 wr => ∃ (i : Nat) (L : List (Option (Nat × Nat))) (b c : Nat → Nat) (M : Nat → List Int), v16 = .int .i64 i ∧ Aside0 (i ≤ m) ∧ Aside0 (Grid wr w.heap.size g cap m i L b c M) ∧ Aside0 (∀ j, j < i → M j = List.replicate m 0) ∧ Aside0 (Below w.heap.size w wr)) (fun v16 _ => m - (intOf v16).toNat)
  case atStart => exact ⟨0, _, _, _, _, rfl, ⟨Nat.zero_le _⟩, HG, ⟨fun _ _ => rfl⟩, HB⟩
  case round =>
    clear HG HB
    obtain ⟨i, L, b, c, M, rfl, HI, HG, HMZ, HB⟩ := hrel
    by_cases him : i < m
    · have hin : (i : Int) < (m : Int) := by omega
      have ci : decide (i < m) = true := decide_eq_true him
      have HIM := Aside0.mk him
      clear him
      have hLl : L.length = m := Kd.C_len (R_C HG.out.out)
      go_wp2_with (((with_reducible refine gate_dst (N := 22) rfl ?_); refine Kd.R_make (Kd.int .i64) w.heap.size 3 rfl (N := 22) rfl 31 _ _ rfl (m : Int) rfl rfl Try.underlying31 (.int .i64 0) 8 infoI rfl (by first | decide | exact Nat.one_pos) (by omega) 0 (ok := fun _ => True) (okp := fun _ => True) rfl (fun _ hk => hk) trivial (by omega) (by omega) (by repeat (first | (with_reducible first | exact HB.out | apply below_alloc | apply pw_below_drewN | apply below_drew1) | exact HB.out)) (below_size (by repeat (first | (with_reducible first | exact HB.out | apply below_alloc | apply pw_below_drewN | apply below_drew1) | exact HB.out))) ?_; intro v1 w1 ho hb hgr hnw); rw [Int.toNat_natCast] at ho; obtain ⟨bn, cn, hv, hb1, hb2, cells, hb3⟩ := Kd.R_form ho (by rw [List.length_replicate]; omega); rw [List.length_replicate] at hv; subst hv; obtain ⟨bq, hq1, hq2⟩ := hnw; obtain rfl : bn = bq := (by simpa [Value.ownBlock] using hq1); have HG1 := Aside0.mk (Grid.same (by first | exact HG.out | exact HG.out.drew | exact HG.out.alloc _) hgr); have HRW := Aside0.mk ho; have HBN := Aside0.mk (fun j (hj : j < i) => Nat.ne_of_lt (Nat.lt_of_lt_of_le (HG.out.lt hj) hq2)); have hcg := Kd.R_celln none HG1.out.out (i : Int) (by omega) hin; rw [Int.toNat_natCast] at hcg; obtain ⟨hcg1, hcg2⟩ := hcg; have HGN := Aside0.mk (Nat.ne_of_gt (Nat.lt_of_lt_of_le (Kd.R_lt HG.out.out g rfl) hq2)); have HB1 := Aside0.mk hb; clear HB HG ho hb hgr hq1 hq2 hb1 hb2 hb3 cells)
      have hmz : ∀ j, j < i + 1 → (fun j => if j = i then List.replicate m (0 : Int) else M j) j = List.replicate m 0 := by
        intro j hj
        by_cases e : j = i
        · simp only [if_pos e]
        · simp only [if_neg e]
          exact HMZ.out j (by omega)
      go_roundw
      case rel => exact ⟨i + 1, L.set i (some (bn, cn)), (fun j => if j = i then bn else b j), (fun j => if j = i then cn else c j), (fun j => if j = i then List.replicate m 0 else M j), by go_num, ⟨HIM.out⟩, ⟨Grid.add HG1.out HIM.out HRW.out HBN.out HGN.out⟩, ⟨hmz⟩, ⟨below_set HB1.out hg1⟩⟩
      case measure => simp [intOf]; have := HIM.out; omega
    · obtain rfl : m = i := by have := HI.out; omega
      have ci : decide (m < m) = false := decide_eq_false (by omega)
      have HF := Aside0.mk (show ∀ a q, a < m → q < m → (M a).getD q 0 = gr [] a q from fun a q ha hq => by rw [HMZ.out a ha, List.getD_eq_getElem?_getD, List.getElem?_replicate, if_pos hq]; rfl)
      clear him HMZ HI
      go_wp2
      go_loopw [27] (fun v27 wr => ∃ (pre rest : List S54) (M : Nat → List Int), Aside0 (xs = pre ++ rest) ∧ v27 = .int .i64 pre.length ∧ Aside0 (Grid wr w.heap.size g cap m m L b c M) ∧ Aside0 (∀ a q, a < m → q < m → (M a).getD q 0 = gr pre a q) ∧ Aside0 (Below w.heap.size w wr)) (fun v27 _ => xs.length - (intOf v27).toNat)
      case atStart => exact ⟨[], xs, M, ⟨rfl⟩, rfl, HG, HF, HB⟩
      case round =>
        clear HG HF HB M
        obtain ⟨pre, rest, M, HX, rfl, HG, HF, HB⟩ := hrel
        cases rest with
        | nil =>
          have cc : decide (pre.length < xs.length) = false := decide_eq_false (by have := len_nil HX.out; omega)
          obtain rfl : xs = pre := by simpa using HX.out
          clear HX
          go_wp2
          go_loopw [9, 46] (fun _ v46 wr => ∃ (i : Nat) (M : Nat → List Int), v46 = .int .i64 i ∧ Aside0 (i ≤ m) ∧ Aside0 (Grid wr w.heap.size g cap m m L b c M) ∧ Aside0 (∀ a q, a < m → q < m → (M a).getD q 0 = ntP xs i 0 a q) ∧ Aside0 (Below w.heap.size w wr)) (fun _ v46 _ => m - (intOf v46).toNat)
          case atStart => exact ⟨0, M, rfl, ⟨Nat.zero_le _⟩, HG, ⟨fun a q ha hq => (HF.out a q ha hq).trans (ntP_start xs a q).symm⟩, HB⟩
          case round =>
            clear HG HF HB M
            obtain ⟨i, M, rfl, HI, HG, HF, HB⟩ := hrel
            by_cases him : i < m
            · have ci : decide (i < m) = true := decide_eq_true him
              go_wp2
              go_loopw [50] (fun v50 wr => ∃ (k : Nat) (M : Nat → List Int), v50 = .int .i64 k ∧ Aside0 (k ≤ i) ∧ Aside0 (Grid wr w.heap.size g cap m m L b c M) ∧ Aside0 (∀ a q, a < m → q < m → (M a).getD q 0 = ntP xs i k a q) ∧ Aside0 (Below w.heap.size w wr)) (fun v50 _ => i - (intOf v50).toNat)
              case atStart => exact ⟨0, M, rfl, ⟨Nat.zero_le _⟩, HG, HF, HB⟩
              case round =>
                clear HG HF HB M
                obtain ⟨k, M, rfl, HK, HG, HF, HB⟩ := hrel
                by_cases hki : k < i
                · have ck : decide (k < i) = true := decide_eq_true hki
                  have hkm : k < m := by omega
                  have qi : (i : Int) < (m : Int) := by omega
                  have qk : (k : Int) < (m : Int) := by omega
                  have si := HG.out.slot him him
                  have sk := HG.out.slot hkm hkm
                  have ei := (HG.out.elem him hkm).1
                  have ek := (HG.out.elem hkm him).1
                  have g1 := gr_bd xs HOK.out i k
                  have g2 := gr_bd xs HOK.out k i
                  have g3 := HSUM.out
                  rw [HF.out i k him hkm, (ntP_at xs hki).1] at ei
                  rw [HF.out k i hkm him, (ntP_at xs hki).2] at ek
                  have HST := Aside0.mk (fun a b => ntP_step xs hki a b)
                  have HBI := Aside0.mk (HG.out.base_ him)
                  have HBK := Aside0.mk (HG.out.base_ hkm)
                  have HIM := Aside0.mk him
                  have HKM := Aside0.mk hkm
                  have HKI := Aside0.mk hki
                  obtain ⟨x, hx⟩ : ∃ x, x = gr xs i k := ⟨_, rfl⟩
                  obtain ⟨y, hy⟩ : ∃ y, y = gr xs k i := ⟨_, rfl⟩
                  rw [← hx] at g1 ei
                  rw [← hy] at g2 ek
                  have bx : 0 ≤ x ∧ x ≤ 1000000000 := by omega
                  have by_ : 0 ≤ y ∧ y ≤ 1000000000 := by omega
                  have HXE := Aside0.mk hx
                  have HYE := Aside0.mk hy
                  clear g1 g2 g3 hx hy him hkm hki
                  by_cases c1 : y < x
                  · have hmn : mnI x y = y := by unfold mnI; split <;> omega
                    have HMN := Aside0.mk hmn
                    clear hmn
                    go_upto_region 18 with (fail)
                    go_region
                    have ei1 := Aside0.mk (show (M i).getD k 0 = x from by rw [HF.out i k HIM.out HKM.out, (ntP_at xs HKI.out).1, HXE.out])
                    have ek1 := Aside0.mk (show (M k).getD i 0 = y from by rw [HF.out k i HKM.out HIM.out, (ntP_at xs HKI.out).2, HYE.out])
                    have hi1 := Aside0.mk (show ∀ v, ((if k = i then (M i).set k v else M k)).getD i 0 = y from fun v => by rw [if_neg (fun e => Nat.ne_of_lt HKI.out e)]; exact ek1.out)
                    have fi := (HG.out.elem HIM.out HKM.out).2
                    clear ek sk
                    go_upto_region 20 with (fail)
                    clear si ei fi
                    have HG1 := Aside0.mk (Grid.put HG.out HIM.out k (x - y))
                    have HB1 := Aside0.mk (below_set (j := k) (v := .int .i64 (x - y)) HB.out HBI.out)
                    generalize wr.setCell ⟨b i, k, none⟩ (.int .i64 (x - y)) = w1 at HG1 HB1 ⊢
                    have sk := HG1.out.slot HKM.out HKM.out
                    have ek := HG1.out.elem HKM.out HIM.out
                    rw [hi1.out] at ek
                    obtain ⟨ek, fk⟩ := ek
                    go_wp2
                    have HG2 := Aside0.mk (Grid.put HG1.out HKM.out i 0)
                    have HB2 := Aside0.mk (below_set (j := i) (v := .int .i64 0) HB1.out HBK.out)
                    have HF2 := Aside0.mk (show ∀ a q, a < m → q < m → ((fun a => if a = k then (((fun a => if a = i then (M i).set k (x - y) else M a)) k).set i 0 else (fun a => if a = i then (M i).set k (x - y) else M a) a) a).getD q 0 = ntP xs i (k + 1) a q from fun a q ha hq => by
                      have hki := HKI.out
                      rw [HST.out a q, ← HXE.out, ← HYE.out, HMN.out]
                      show ((if a = k then ((if k = i then (M i).set k (x - y) else M k)).set i 0 else (if a = i then (M i).set k (x - y) else M a)).getD q 0) = _
                      rw [if_neg (show ¬ k = i from by omega)]
                      by_cases e1 : a = k
                      · subst e1
                        rw [if_pos rfl, if_neg (show ¬ (a = i ∧ q = a) from by omega)]
                        by_cases e2 : q = i
                        · subst e2
                          rw [if_pos ⟨rfl, rfl⟩, List.getD_eq_getElem?_getD, List.getElem?_set_self (by rw [HG.out.len HKM.out]; exact HIM.out)]
                          show 0 = y - y
                          omega
                        · rw [if_neg (by omega), List.getD_eq_getElem?_getD, List.getElem?_set_ne (fun q => e2 q.symm), ← List.getD_eq_getElem?_getD, HF.out a q ha hq]
                      · rw [if_neg e1]
                        by_cases e3 : a = i
                        · subst e3
                          rw [if_pos rfl]
                          by_cases e2 : q = k
                          · subst e2
                            rw [if_pos ⟨rfl, rfl⟩, List.getD_eq_getElem?_getD, List.getElem?_set_self (by rw [HG.out.len HIM.out]; exact HKM.out)]
                            show (x - y) = x - y
                            omega
                          · rw [if_neg (by omega), if_neg (by omega), List.getD_eq_getElem?_getD, List.getElem?_set_ne (fun q => e2 q.symm), ← List.getD_eq_getElem?_getD, HF.out a q ha hq]
                        · rw [if_neg e3, if_neg (by omega), if_neg (by omega), HF.out a q ha hq])
                    go_roundw
                    case rel => exact ⟨k + 1, _, by go_num, ⟨by have := HKI.out; omega⟩, ⟨by repeat (first | exact HG2.out | apply Grid.alloc | apply Grid.drewN | apply Grid.drew)⟩, HF2, ⟨(by repeat (first | (with_reducible first | exact HB2.out | apply below_alloc | apply pw_below_drewN | apply below_drew1) | exact HB2.out))⟩⟩
                    case measure => simp [intOf]; have := HKI.out; omega
                  · have hmn : mnI x y = x := by unfold mnI; split <;> omega
                    have HMN := Aside0.mk hmn
                    clear hmn
                    go_upto_region 18 with (fail)
                    go_region
                    have ei1 := Aside0.mk (show (M i).getD k 0 = x from by rw [HF.out i k HIM.out HKM.out, (ntP_at xs HKI.out).1, HXE.out])
                    have ek1 := Aside0.mk (show (M k).getD i 0 = y from by rw [HF.out k i HKM.out HIM.out, (ntP_at xs HKI.out).2, HYE.out])
                    have hi1 := Aside0.mk (show ∀ v, ((if k = i then (M i).set k v else M k)).getD i 0 = y from fun v => by rw [if_neg (fun e => Nat.ne_of_lt HKI.out e)]; exact ek1.out)
                    have fi := (HG.out.elem HIM.out HKM.out).2
                    clear ek sk
                    go_upto_region 20 with (fail)
                    clear si ei fi
                    have HG1 := Aside0.mk (Grid.put HG.out HIM.out k 0)
                    have HB1 := Aside0.mk (below_set (j := k) (v := .int .i64 0) HB.out HBI.out)
                    generalize wr.setCell ⟨b i, k, none⟩ (.int .i64 0) = w1 at HG1 HB1 ⊢
                    have sk := HG1.out.slot HKM.out HKM.out
                    have ek := HG1.out.elem HKM.out HIM.out
                    rw [hi1.out] at ek
                    obtain ⟨ek, fk⟩ := ek
                    go_wp2
                    have HG2 := Aside0.mk (Grid.put HG1.out HKM.out i (y - x))
                    have HB2 := Aside0.mk (below_set (j := i) (v := .int .i64 (y - x)) HB1.out HBK.out)
                    have HF2 := Aside0.mk (show ∀ a q, a < m → q < m → ((fun a => if a = k then (((fun a => if a = i then (M i).set k 0 else M a)) k).set i (y - x) else (fun a => if a = i then (M i).set k 0 else M a) a) a).getD q 0 = ntP xs i (k + 1) a q from fun a q ha hq => by
                      have hki := HKI.out
                      rw [HST.out a q, ← HXE.out, ← HYE.out, HMN.out]
                      show ((if a = k then ((if k = i then (M i).set k 0 else M k)).set i (y - x) else (if a = i then (M i).set k 0 else M a)).getD q 0) = _
                      rw [if_neg (show ¬ k = i from by omega)]
                      by_cases e1 : a = k
                      · subst e1
                        rw [if_pos rfl, if_neg (show ¬ (a = i ∧ q = a) from by omega)]
                        by_cases e2 : q = i
                        · subst e2
                          rw [if_pos ⟨rfl, rfl⟩, List.getD_eq_getElem?_getD, List.getElem?_set_self (by rw [HG.out.len HKM.out]; exact HIM.out)]
                          show (y - x) = y - x
                          omega
                        · rw [if_neg (by omega), List.getD_eq_getElem?_getD, List.getElem?_set_ne (fun q => e2 q.symm), ← List.getD_eq_getElem?_getD, HF.out a q ha hq]
                      · rw [if_neg e1]
                        by_cases e3 : a = i
                        · subst e3
                          rw [if_pos rfl]
                          by_cases e2 : q = k
                          · subst e2
                            rw [if_pos ⟨rfl, rfl⟩, List.getD_eq_getElem?_getD, List.getElem?_set_self (by rw [HG.out.len HIM.out]; exact HKM.out)]
                            show 0 = x - x
                            omega
                          · rw [if_neg (by omega), if_neg (by omega), List.getD_eq_getElem?_getD, List.getElem?_set_ne (fun q => e2 q.symm), ← List.getD_eq_getElem?_getD, HF.out a q ha hq]
                        · rw [if_neg e3, if_neg (by omega), if_neg (by omega), HF.out a q ha hq])
                    go_roundw
                    case rel => exact ⟨k + 1, _, by go_num, ⟨by have := HKI.out; omega⟩, ⟨by repeat (first | exact HG2.out | apply Grid.alloc | apply Grid.drewN | apply Grid.drew)⟩, HF2, ⟨(by repeat (first | (with_reducible first | exact HB2.out | apply below_alloc | apply pw_below_drewN | apply below_drew1) | exact HB2.out))⟩⟩
                    case measure => simp [intOf]; have := HKI.out; omega
                · obtain rfl : i = k := by have := HK.out; omega
                  have ck : decide (i < i) = false := decide_eq_false (by omega)
                  go_wp2
                  go_roundw
                  case rel => exact ⟨i + 1, M, by go_num, ⟨by omega⟩, HG, ⟨fun a q ha hq => (HF.out a q ha hq).trans (ntP_next xs HOK.out i a q)⟩, HB⟩
                  case measure => simp [intOf]; omega
            · obtain rfl : m = i := by have := HI.out; omega
              have ci : decide (m < m) = false := decide_eq_false (by omega)
              go_wp2
              go_ret
              exact ⟨g, cap, L, b, c, M, rfl, HG.out, fun a q ha hq => (HF.out a q ha hq).trans (ntP_end xs ha hq), hg1, HB.out⟩
        | cons a t =>
          have hlt := len_cons HX.out
          have hpl : (pre.length : Int) < xs.length := by omega
          have ha := HOK.out a (by rw [HX.out]; simp)
          obtain ⟨ad, e0, hx0, hx1, hx2⟩ := at_T54 HR0.out (pre.length : Int) (by omega) hpl
          rw [rd_T54_at HX.out rfl] at hx0 hx1 hx2
          simp only [Int.toNat_natCast] at hx0 hx1 hx2
          cases e0
          have hgr1 := gr_bd pre (fun x hx => HOK.out x (by rw [HX.out]; simp [hx]))
          have hsm := HSUM.out
          have hsp : sumC xs = sumC pre + (a.f2 + sumC t) := by rw [HX.out, sumC_append]; rfl
          have hst := (sumC_bd t (fun x hx => HOK.out x (by rw [HX.out]; simp [hx]))).1
          have HNX := Aside0.mk (fun i j => gr_snoc pre a i j)
          have HSN := Aside0.mk (snoc HX.out)
          have HLN := Aside0.mk (len_snoc pre a)
          obtain ⟨f0, f1, f2⟩ := a
          obtain ⟨x, hx⟩ := Int.eq_ofNat_of_zero_le ha.1.1
          obtain ⟨y, hy⟩ := Int.eq_ofNat_of_zero_le ha.2.1.1
          simp only at hx hy
          subst hx hy
          have x1 : x < m := by have := ha.1.2; simp only at this; omega
          have y1 : y < m := by have := ha.2.1.2; simp only at this; omega
          have a1 : 1 ≤ f2 ∧ f2 ≤ 1000000000 := ha.2.2.2
          have xi : (x : Int) < (m : Int) := by omega
          have yi : (y : Int) < (m : Int) := by omega
          simp only at hx0 hx1 hx2 hsp
          have gx := hgr1 x y
          have hw : -9223372036854775808 ≤ gr pre x y + f2 ∧ gr pre x y + f2 ≤ 9223372036854775807 := by omega
          clear hgr1 hsm hsp hst ha gx
          replace hx0 := (HB.out.cell (World.block_lt_of_cell? w _ hx0)).trans hx0
          replace hx1 := (HB.out.cell (World.block_lt_of_cell? w _ hx1)).trans hx1
          replace hx2 := (HB.out.cell (World.block_lt_of_cell? w _ hx2)).trans hx2
          have cc : decide (pre.length < xs.length) = true := decide_eq_true (by omega)
          have hs : ∀ O, (wr.alloc O).cell? ⟨g, x, none⟩ = some (.slice (some ⟨b x, 0, none⟩) m (c x)) := fun O => (HG.out.alloc O).slot x1 x1
          have he : ∀ O, (wr.alloc O).cell? ⟨b x, y, none⟩ = some (.int .i64 (gr pre x y)) := fun O => by rw [← HF.out x y x1 y1]; exact ((HG.out.alloc O).elem x1 y1).1
          have hf : ∀ O, (wr.alloc O).frozen? ⟨b x, y, none⟩ = false := fun O => ((HG.out.alloc O).elem x1 y1).2
          clear hlt
          have HX1 := Aside0.mk x1
          have HY1 := Aside0.mk y1
          have HB9 := Aside0.mk (HG.out.base_ x1)
          clear x1 y1 HX
          go_upto_region 10 with (fail)
          go_region
          go_wp2
          have HG2 := Aside0.mk (fun O => Grid.put (HG.out.alloc O) HX1.out y (gr pre x y + f2))
          have HF2 := Aside0.mk (show ∀ a q, a < m → q < m → ((fun a => if a = x then (M x).set y (gr pre x y + f2) else M a) a).getD q 0 = gr (pre ++ [(⟨x, y, f2⟩ : S54)]) a q from fun a q ha hq => by
            rw [HNX.out a q]
            by_cases e1 : a = x
            · subst e1
              show ((if a = a then (M a).set y (gr pre a y + f2) else M a).getD q 0) = _
              rw [if_pos rfl]
              by_cases e2 : q = y
              · subst e2
                rw [if_pos ⟨rfl, rfl⟩, List.getD_eq_getElem?_getD, List.getElem?_set_self (by rw [HG.out.len HX1.out]; exact HY1.out)]
                rfl
              · rw [if_neg (by show ¬ ((a : Int) = (a : Int) ∧ (y : Int) = (q : Int)); omega), List.getD_eq_getElem?_getD, List.getElem?_set_ne (fun q => e2 q.symm), ← List.getD_eq_getElem?_getD, HF.out a q ha hq]
                omega
            · simp only [if_neg e1]
              rw [if_neg (by show ¬ ((x : Int) = (a : Int) ∧ (y : Int) = (q : Int)); omega), HF.out a q ha hq]
              omega)
          go_roundw
          case rel => exact ⟨pre ++ [⟨x, y, f2⟩], t, _, HSN, by rw [HLN.out], ⟨by repeat (first | exact HG2.out _ | apply Grid.alloc | apply Grid.drewN | apply Grid.drew)⟩, HF2, ⟨by repeat (first | exact HB.out | apply below_alloc | apply pw_below_drewN | apply below_drew1 | refine below_set ?_ HB9.out)⟩⟩
          case measure => simp [intOf]; omega
/-- What firstCycle answers. -/
def CycV (F : Nat → Nat → Int) (m : Nat) (b : Nat → Nat) (w : World) (v : Value) : Prop :=
  (firstC F m = none ∧ v = .slice none 0 0) ∨ ∃ ad c l, firstC F m = some l ∧ v = .slice (some ad) (l : List Int).length c ∧ (Kd.int .i64).C w (some ad) l.length l ∧ l.length ≤ c ∧ ∀ i, i < m → ad.block ≠ b i
theorem cycV_of {F : Nat → Nat → Int} {m base g cap : Nat} {L : List (Option (Nat × Nat))} {b c : Nat → Nat} {M : Nat → List Int} {w w' : World} {e : Ending} (hG : Grid w base g cap m m L b c M) (h : (firstC F m = none ∧ e = .returned (.slice none 0 0)) ∨ ∃ ad c l, firstC F m = some l ∧ e = .returned (.slice (some ad) (l : List Int).length c) ∧ (Kd.int .i64).C w' (some ad) l.length l ∧ l.length ≤ c ∧ w.heap.size ≤ ad.block) : ∃ v, e = .returned v ∧ CycV F m b w' v := by
  rcases h with ⟨h1, h2⟩ | ⟨ad, c, l, h1, h2, h3, h4, h5⟩
  · exact ⟨_, h2, .inl ⟨h1, rfl⟩⟩
  · exact ⟨_, h2, .inr ⟨ad, c, l, h1, rfl, h3, h4, fun i hi => Nat.ne_of_gt (Nat.lt_of_lt_of_le (hG.lt hi) h5)⟩⟩
set_option maxHeartbeats 8000000 in
set_option maxRecDepth 100000 in
theorem impl_c (A0 : Option Addr) (c0 : Nat) (xs : List S54) (p : Int) (w : World) (hr0 : Kd.C k54 w A0 xs.length xs) (hc0 : xs.length ≤ c0) (ha0 : 0 < xs.length → ∃ b, A0 = some ⟨b, 0, none⟩) (hn : xs.length ≤ 1048576) :
    Calls Try.prog 39 #[.slice A0 xs.length c0, .int .i64 p] w fun e w' => ∃ v, e = .returned (.tuple #[v, .bool (canA xs p).2]) ∧ Kd.R k54 54 w' w.heap.size (fun _ => True) v (canA xs p).1 ∧ Below w.heap.size w w' := by
  obtain ⟨kv, hv⟩ := roundsOf (implValidC_ev xs p hn)
  by_cases g : goodC xs p = true
  · rw [g] at hv
    have gg := of_decide_eq_true g
    obtain ⟨⟨p1, p2⟩, hx20, hok, hsum⟩ := gg
    obtain ⟨m, rfl⟩ := Int.eq_ofNat_of_zero_le (show 0 ≤ p from by omega)
    have hfin : canA xs m = (clAll (canT xs m) m 0 m, true) := by unfold canA; rw [if_pos g, Int.toNat_natCast]
    rw [hfin]
    obtain ⟨RES, hR⟩ : ∃ R, R = canT xs m := ⟨_, rfl⟩
    obtain ⟨K, hK⟩ : ∃ K, K = (total (nt xs) m).toNat + 1 := ⟨_, rfl⟩
    have HRS := Aside0.mk (show InvF (nt xs) ∧ total (nt xs) m < (K : Int) ∧ cancF m K (nt xs) = RES from ⟨fun i j => nt_bd xs hok hsum i j, by omega, by rw [hR, hK]; rfl⟩)
    rw [← hR]
    have HV := Aside0.mk hv
    have HR0 := Aside0.mk hr0
    have HC0 := Aside0.mk hc0
    have HOK := Aside0.mk hok
    have HSUM := Aside0.mk hsum
    have m1 : 2 ≤ m := by omega
    have m2 : m ≤ 8 := by omega
    have HX := Aside0.mk hx20
    clear hv hr0 hc0 hok hx20 g hfin hsum ha0 p1 p2 hR hK
    have q2 := fun a l c w => run_neq_slice_nil (P := Try.prog) w 31 3 a l c Try.underlying31
    go_enter Try.func39, Try.ntmps39
    go_wp2_with fail
    refine (impl_IsValidClaims.calls kv _ _ xs _ true _ HR0.out HC0.out HV.out).mono ?_
    rintro e w1 ⟨rfl, hb⟩
    have HB := Aside0.mk hb
    clear hb
    go_wp2_with fail
    refine (owedNet_c _ _ xs m _ (by repeat (first | exact (Kd.C_below HR0.out HB.out) | (with_reducible refine Kd.C_alloc ?_ _) | (with_reducible refine Kd.C_drewN ?_ _) | (with_reducible refine Kd.C_drew ?_))) HC0.out ⟨m1, m2⟩ HX.out HOK.out HSUM.out).mono ?_
    rintro e w2 ⟨g, cap, L, b, c, M, rfl, hG, hMF, _, hb⟩
    have HG := Aside0.mk (hG.lower (show w.heap.size ≤ _ from below_size HB.out))
    have HMF := Aside0.mk hMF
    have HB2 := Aside0.mk (below_step (by repeat (first | (with_reducible first | exact HB.out | apply below_alloc | apply pw_below_drewN | apply below_drew1) | exact HB.out)) hb)
    clear hb HB hMF hG
    go_wp2_with fail
    have HGD : Aside0 (Grid _ w.heap.size g cap m m L b c M) := ⟨by repeat (first | exact HG.out | apply Grid.alloc | apply Grid.drewN | apply Grid.drew)⟩
    refine (firstI_c w.heap.size g cap L b c M m (nt xs) HMF.out m1 m2 _ HGD.out).mono ?_
    rintro e w3 ⟨hcy, hb⟩
    obtain ⟨v0, rfl, hcv⟩ := cycV_of HGD.out hcy
    have HCV := Aside0.mk hcv
    have HG3 := Aside0.mk (HGD.out.below hb)
    have HB3 := Aside0.mk (below_step (by repeat (first | (with_reducible first | exact HB2.out | apply below_alloc | apply pw_below_drewN | apply below_drew1) | exact HB2.out)) hb)
    clear hcy hcv hb HGD HG HB2
    go_wp2
    go_loopg [7] K (fun kq v7 wr => ∃ (F : Nat → Nat → Int) (M : Nat → List Int), Aside0 (InvF F ∧ total F m < (kq : Int) ∧ cancF m kq F = RES) ∧ Aside0 (∀ i j, i < m → j < m → (M i).getD j 0 = F i j) ∧ Aside0 (CycV F m b wr v7) ∧ Aside0 (Grid wr w.heap.size g cap m m L b c M) ∧ Aside0 (Below w.heap.size w wr))
    case atStart => exact ⟨nt xs, M, HRS, HMF, HCV, HG3, HB3⟩
    case round =>
      clear HRS HMF HCV HG3 HB3
      obtain ⟨F, M2, HI, HMF, HCV, HG, HB⟩ := hrel
      rcases HCV.out with ⟨hf, rfl⟩ | ⟨ad, cf, lf, hf, rfl, hcf, hlf, hba⟩
      · clear HCV
        have hI := HI.out
        rw [canc_end hf] at hI
        obtain ⟨_, _, rfl⟩ := hI
        obtain ⟨kc, hk⟩ := roundsOf (implClaims_ev M2 m F m2 (fun i hi => HG.out.len hi) HMF.out)
        have hrd := HG.out.reads (by omega)
        have hcap := R_cap HG.out.out
        obtain ⟨RW, hRW⟩ : ∃ R, R = (List.range m).map M2 := ⟨_, rfl⟩
        have hRl : RW.length = m := by rw [hRW]; simp
        rw [← hRW] at hk hrd
        have HK := Aside0.mk hk
        have HRD := Aside0.mk hrd
        have HCP := Aside0.mk hcap
        have HRL := Aside0.mk hRl
        clear hk hrd hRW hcap hf HI hRl
        go_wp2_with fail
        refine calls_of_args (args' := #[.slice (some ⟨g, 0, none⟩) RW.length cap]) (by rw [HRL.out]) ?_
        refine (impl_claimsIn.calls kc _ _ RW _ _ (by rw [HRL.out]; exact (by repeat (first | exact HRD.out | (with_reducible refine Kd.C_alloc ?_ _) | (with_reducible refine Kd.C_drewN ?_ _) | (with_reducible refine Kd.C_drew ?_)))) (by rw [HRL.out]; exact HCP.out) HK.out).mono ?_
        rintro e w3 ⟨v3, rfl, ho, hb⟩
        have HB3 := Aside0.mk (below_step (by repeat (first | (with_reducible first | exact HB.out | apply below_alloc | apply pw_below_drewN | apply below_drew1) | exact HB.out)) hb)
        have HO3 := Aside0.mk (Kd.R_lower ho (show w.heap.size ≤ _ from below_size HB.out))
        go_wp2
        go_ret2
        exact ⟨_, rfl, (by (with_reducible repeat (first | apply Kd.R_alloc | apply Kd.R_drewN | apply Kd.R_drew)); exact HO3.out), (by repeat (first | (with_reducible first | exact HB3.out | apply below_alloc | apply pw_below_drewN | apply below_drew1) | exact HB3.out))⟩
      · clear HCV
        have hI := HI.out
        obtain ⟨k', hkk, hI1, hI2, hI3, hcy⟩ := canc_step hI.1 m1 hf hI.2.1
        have HI' := Aside0.mk (show InvF (cutC F lf (leastC F lf lf.length) lf.length) ∧ total (cutC F lf (leastC F lf lf.length) lf.length) m < (k' : Int) ∧ cancF m k' (cutC F lf (leastC F lf lf.length) lf.length) = RES from ⟨hI3, hI2, by rw [← hI1]; exact hI.2.2⟩)
        have HINV := Aside0.mk hI.1
        have HCY := Aside0.mk hcy
        have hl2 := hcy.2.1
        have hl8 : lf.length ≤ 8 := Nat.le_trans hcy.2.2.1 m2
        have hl0 : 0 < lf.length := by omega
        have HCF := Aside0.mk hcf
        have HLF := Aside0.mk hlf
        have HBA := Aside0.mk hba
        clear hf hcf hlf hba HI hI hI1 hI2 hI3 hcy
        go_wp2
        go_loopw [8, 9, 10, 28] (fun v8 _ _ v28 wr => ∃ i : Nat, v8 = .int .i64 (leastC F lf i) ∧ v28 = .int .i64 i ∧ Aside0 (i ≤ lf.length) ∧ Aside0 ((Kd.int .i64).C wr (some ad) lf.length lf) ∧ Aside0 (Grid wr w.heap.size g cap m m L b c M2) ∧ Aside0 (Below w.heap.size w wr)) (fun _ _ _ v28 _ => lf.length - (intOf v28).toNat)
        case atStart => exact ⟨0, rfl, rfl, ⟨Nat.zero_le _⟩, HCF, HG, HB⟩
        case round =>
          clear HCF HG HB
          obtain ⟨i, rfl, rfl, HIL, HCF, HG, HB⟩ := hrel
          by_cases hil : i < lf.length
          · have ci : decide (i < lf.length) = true := decide_eq_true hil
            obtain ⟨x1, y1, hx, hy⟩ := cyc_lt HCY.out hil
            have cx := cellsA HCF.out hil
            have cyy := cellsA HCF.out (j := (i + 1) % lf.length) (Nat.mod_lt _ hl0)
            have hmo := modw (i := i) hl0
            rw [hx] at cx
            rw [hy] at cyy
            obtain ⟨x, ha⟩ : ∃ a, a = eA lf i := ⟨_, rfl⟩
            obtain ⟨y, hbb⟩ : ∃ b, b = eB lf i := ⟨_, rfl⟩
            obtain ⟨j, hj⟩ : ∃ j, j = (i + 1) % lf.length := ⟨_, rfl⟩
            have hjl : j < lf.length := by rw [hj]; exact Nat.mod_lt _ hl0
            rw [← ha] at x1 cx
            rw [← hbb] at y1 cyy
            rw [← hj] at cyy hmo
            have hs := HG.out.slot x1 x1
            have he := (HG.out.elem x1 y1).1
            obtain ⟨V, hV⟩ : ∃ V, V = F x y := ⟨_, rfl⟩
            rw [HMF.out x y x1 y1, ← hV] at he
            have hstep : leastC F lf (i + 1) = mnI (leastC F lf i) V := by rw [leastC, ← ha, ← hbb, ← hV]
            obtain ⟨LL, hL⟩ : ∃ L, L = leastC F lf i := ⟨_, rfl⟩
            rw [← hL] at hstep ⊢
            have HST := Aside0.mk hstep
            clear hx hy ha hbb hj hV hstep hL
            by_cases c1 : V < LL
            · have hmn : mnI LL V = V := by unfold mnI; split <;> omega
              have HMN := Aside0.mk (HST.out.trans hmn)
              clear hmn
              go_upto_region 11 with (fail)
              go_region
              go_wp2
              go_roundw
              case rel => exact ⟨i + 1, by rw [HMN.out], by go_num, ⟨hil⟩, ⟨(by repeat (first | exact HCF.out | (with_reducible refine Kd.C_alloc ?_ _) | (with_reducible refine Kd.C_drewN ?_ _) | (with_reducible refine Kd.C_drew ?_)))⟩, ⟨by repeat (first | exact HG.out | apply Grid.alloc | apply Grid.drewN | apply Grid.drew)⟩, ⟨(by repeat (first | (with_reducible first | exact HB.out | apply below_alloc | apply pw_below_drewN | apply below_drew1) | exact HB.out))⟩⟩
              case measure => simp [intOf]; omega
            · have hmn : mnI LL V = LL := by unfold mnI; split <;> omega
              have HMN := Aside0.mk (HST.out.trans hmn)
              clear hmn
              go_upto_region 11 with (fail)
              go_region
              go_wp2
              go_roundw
              case rel => exact ⟨i + 1, by rw [HMN.out], by go_num, ⟨hil⟩, ⟨(by repeat (first | exact HCF.out | (with_reducible refine Kd.C_alloc ?_ _) | (with_reducible refine Kd.C_drewN ?_ _) | (with_reducible refine Kd.C_drew ?_)))⟩, ⟨by repeat (first | exact HG.out | apply Grid.alloc | apply Grid.drewN | apply Grid.drew)⟩, ⟨(by repeat (first | (with_reducible first | exact HB.out | apply below_alloc | apply pw_below_drewN | apply below_drew1) | exact HB.out))⟩⟩
              case measure => simp [intOf]; omega
          · obtain rfl : i = lf.length := by have := HIL.out; omega
            have ci : decide (lf.length < lf.length) = false := decide_eq_false (by omega)
            have HLV := Aside0.mk (leastC_bd HINV.out lf lf.length)
            have HLL := Aside0.mk (fun k hk => leastC_le F lf lf.length k hk)
            have HCN := Aside0.mk (fun k hk => cutC_new (k := k) HCY.out (leastC F lf lf.length) hk)
            obtain ⟨LV, hLV⟩ : ∃ L, L = leastC F lf lf.length := ⟨_, rfl⟩
            rw [← hLV] at HI' HLV HLL HCN ⊢
            clear hLV HIL
            go_wp2
            go_loopw [11, 12, 52] (fun _ _ v52 wr => ∃ (i : Nat) (M : Nat → List Int), v52 = .int .i64 i ∧ Aside0 (i ≤ lf.length) ∧ Aside0 (∀ a b, a < m → b < m → (M a).getD b 0 = cutC F lf LV i a b) ∧ Aside0 ((Kd.int .i64).C wr (some ad) lf.length lf) ∧ Aside0 (Grid wr w.heap.size g cap m m L b c M) ∧ Aside0 (Below w.heap.size w wr)) (fun _ _ v52 _ => lf.length - (intOf v52).toNat)
            case atStart => exact ⟨0, M2, rfl, ⟨Nat.zero_le _⟩, HMF, HCF, HG, HB⟩
            case round =>
              clear HCF HG HB HMF
              obtain ⟨i, M3, rfl, HIL, HMF, HCF, HG, HB⟩ := hrel
              by_cases hil : i < lf.length
              · have ci : decide (i < lf.length) = true := decide_eq_true hil
                obtain ⟨x1, y1, hx, hy⟩ := cyc_lt HCY.out hil
                have cx := cellsA HCF.out hil
                have cyy := cellsA HCF.out (j := (i + 1) % lf.length) (Nat.mod_lt _ hl0)
                have hmo := modw (i := i) hl0
                rw [hx] at cx
                rw [hy] at cyy
                have hv := HCN.out i hil
                have hvb := HINV.out (eA lf i) (eB lf i)
                have hvl := HLL.out i hil
                have hlv := HLV.out
                have HCS := Aside0.mk (fun a b => cutC_succ F lf LV i a b)
                obtain ⟨x, ha⟩ : ∃ a, a = eA lf i := ⟨_, rfl⟩
                obtain ⟨y, hbb⟩ : ∃ b, b = eB lf i := ⟨_, rfl⟩
                obtain ⟨j, hj⟩ : ∃ j, j = (i + 1) % lf.length := ⟨_, rfl⟩
                have hjl : j < lf.length := by rw [hj]; exact Nat.mod_lt _ hl0
                rw [← ha] at x1 cx
                rw [← hbb] at y1 cyy
                rw [← ha, ← hbb] at hv hvb hvl HCS
                rw [← hj] at cyy hmo
                obtain ⟨V, hV⟩ : ∃ V, V = F x y := ⟨_, rfl⟩
                rw [← hV] at hv hvb hvl
                have hs := HG.out.slot x1 x1
                obtain ⟨he, hf⟩ := HG.out.elem x1 y1
                have hTV : (M3 x).getD y 0 = V := (HMF.out x y x1 y1).trans hv
                rw [hTV] at he
                have hbx := HG.out.base_ x1
                have HX1 := Aside0.mk x1
                have HY1 := Aside0.mk y1
                have HV := Aside0.mk hv
                clear hx hy ha hbb hj hV hv hTV
                have xi : (x : Int) < (m : Int) := by omega
                have yi : (y : Int) < (m : Int) := by omega
                clear x1 y1
                go_upto_region 16 with (fail)
                go_region
                go_wp2
                have HG2 := Aside0.mk (Grid.put HG.out HX1.out y (V - LV))
                go_roundw
                case rel =>
                  refine ⟨i + 1, _, by go_num, ⟨hil⟩, ⟨fun i' j' hi' hj' => ?_⟩, ⟨(by repeat (first | exact (C_put HCF.out (fun ad' e => by cases e; exact HBA.out x HX1.out)) | (with_reducible refine Kd.C_alloc ?_ _) | (with_reducible refine Kd.C_drewN ?_ _) | (with_reducible refine Kd.C_drew ?_)))⟩, ⟨by repeat (first | exact HG2.out | apply Grid.alloc | apply Grid.drewN | apply Grid.drew)⟩, ⟨(by repeat (first | (with_reducible first | exact (below_set HB.out hbx) | apply below_alloc | apply pw_below_drewN | apply below_drew1) | exact (below_set HB.out hbx)))⟩⟩
                  rw [HCS.out i' j']
                  by_cases e1 : i' = x
                  · subst e1
                    show ((if i' = i' then (M3 i').set y (V - LV) else M3 i').getD j' 0) = _
                    rw [if_pos rfl]
                    by_cases e2 : j' = y
                    · subst e2
                      rw [if_pos ⟨rfl, rfl⟩, List.getD_eq_getElem?_getD, List.getElem?_set_self (by rw [HG.out.len HX1.out]; exact HY1.out), HV.out]
                      rfl
                    · rw [if_neg (fun q => e2 q.2), List.getD_eq_getElem?_getD, List.getElem?_set_ne (fun q => e2 q.symm), ← List.getD_eq_getElem?_getD, HMF.out i' j' hi' hj']
                  · simp only [if_neg e1]
                    rw [if_neg (fun q => e1 q.1), HMF.out i' j' hi' hj']
                case measure => simp [intOf]; omega
              · obtain rfl : i = lf.length := by have := HIL.out; omega
                have ci : decide (lf.length < lf.length) = false := decide_eq_false (by omega)
                clear HIL HCN HLL HLV
                go_wp2_with fail
                have HGD : Aside0 (Grid _ w.heap.size g cap m m L b c M3) := ⟨by repeat (first | exact HG.out | apply Grid.alloc | apply Grid.drewN | apply Grid.drew)⟩
                refine (firstI_c w.heap.size g cap L b c M3 m _ HMF.out m1 m2 _ HGD.out).mono ?_
                rintro e w3 ⟨hcy, hb⟩
                obtain ⟨v0, rfl, hcv⟩ := cycV_of HGD.out hcy
                have HCV := Aside0.mk hcv
                have HG3 := Aside0.mk (HGD.out.below hb)
                have HB3 := Aside0.mk (below_step (by repeat (first | (with_reducible first | exact HB.out | apply below_alloc | apply pw_below_drewN | apply below_drew1) | exact HB.out)) hb)
                clear hcy hcv hb HGD HG HB
                go_wp2
                go_roundg k'
                case rel => exact ⟨_, _, HI', HMF, HCV, HG3, HB3⟩
                case measure => omega
  · have g' : goodC xs p = false := by simpa using g
    rw [g'] at hv
    have hfin : canA xs p = ([], false) := by unfold canA; rw [if_neg g]
    rw [hfin]
    have HV := Aside0.mk hv
    have HR0 := Aside0.mk hr0
    have HC0 := Aside0.mk hc0
    clear hv hr0 hc0 hfin g g' ha0
    go_enter Try.func39, Try.ntmps39
    go_wp2_with fail
    refine (impl_IsValidClaims.calls kv _ _ xs _ false _ HR0.out HC0.out HV.out).mono ?_
    rintro e w1 ⟨rfl, hb⟩
    have HB := Aside0.mk hb
    clear hb
    go_wp2
    go_ret2
    exact ⟨_, rfl, Kd.R_nil _ _ _ _ _, HB.out⟩
theorem flat_Claim (w : World) (b : Nat) (p q : Nat → Prop) (x : S54) (cs : List Value) (h : k54.M w b p x cs) : k54.M w b q x cs := by
  obtain rfl := k54_openM h
  exact k54_mkM w b q x

set_option maxHeartbeats 16000000 in
set_option maxRecDepth 100000 in
theorem law_c (A0 : Option Addr) (c0 : Nat) (l0 : List S56) (a1 : Int) (w : World) (hr0 : Kd.C k56 w A0 l0.length l0) (hc0 : l0.length ≤ c0) (hi1 : -9223372036854775808 ≤ a1 ∧ a1 ≤ 9223372036854775807) (he0 : ∀ y ∈ l0, (KReads.InI y.f0 ∧ KReads.InI y.f1 ∧ KReads.InI y.f2)) :
    Calls Try.prog 11 #[.slice A0 l0.length c0, .int .i64 a1] w fun e w' => e = .returned (.bool true) ∧ Below w.heap.size w w' := by
  have HR0 := Aside0.mk hr0
  have HC0 := Aside0.mk hc0
  have HM0 := Aside0.mk (Kd.C_max hr0)
  clear hr0 hc0
  by_cases hn0 : l0.length ≤ 1048576
  rotate_left
  · have hn_ := hn0
    have E0 := Aside0.mk ((szClaimS_eq l0 HM0.out).trans (congrArg some (if_neg hn0)))
    clear hn_
    go_enter Try.func11, Try.ntmps11
    go_wp2_with (go_at_call 13; refine (laws_szClaimS.calls _ _ l0 1048576 _ _ (by repeat (first | exact HR0.out | (with_reducible refine Kd.C_alloc ?_ _) | (with_reducible refine Kd.C_drewN ?_ _) | (with_reducible refine Kd.C_drew ?_))) HC0.out E0.out).mono ?_; rintro e w0_ ⟨rfl, ⟨q, rfl⟩⟩)
    go_ret
    exact ⟨rfl, (by repeat (first | (with_reducible first | exact Below.refl _ _ | apply below_alloc | apply pw_below_drewN | apply below_drew1) | exact Below.refl _ _))⟩
  have E0 := Aside0.mk ((szClaimS_eq l0 HM0.out).trans (congrArg some (if_pos hn0)))
  have cs0 : decide (1048576 - (l0.length : Int) < 0) = false := decide_eq_false (by omega)
  obtain ⟨L0, eL0⟩ : ∃ L_ : List S54, L_ = l0.map cv_Claim := ⟨_, rfl⟩
  have hv0 : L0.length ≤ 1048576 := by rw [eL0]; simpa using hn0
  have EL0 := Aside0.mk eL0
  clear eL0
  have HL0 := Aside0.mk (show ((canA L0 a1).1).length ≤ 1048576 from by have h_ := canA_len L0 a1; omega)
  have HB0 := Aside0.mk (Below.refl w.heap.size w)
  obtain ⟨kX0, hX0⟩ := roundsOf (toClaimS_ev l0 hn0)
  rw [← EL0.out] at hX0
  have X0 := Aside0.mk hX0
  clear hX0
  obtain ⟨kX1, hX1⟩ := roundsOf (eqClaimS_ev (canA L0 a1).1 (by have h_ := HL0.out; omega))
  have X1 := Aside0.mk hX1
  clear hX1
  obtain ⟨kX2, hX2⟩ := roundsOf (eqClaimS_ev L0 (by have h_ := hv0; omega))
  have X2 := Aside0.mk hX2
  clear hX2
  obtain ⟨kX3, hX3⟩ := roundsOf (markClaimS_ev L0 1 (by omega) (by have h_ := hv0; omega) (by have h_ := hv0; omega))
  obtain ⟨mX3, eX3⟩ : ∃ m_ : Int, m_ = 1 + 3 * ((L0).length : Int) := ⟨_, rfl⟩
  rw [← eX3] at hX3
  obtain ⟨UX3, uX3⟩ : ∃ U_ : List S54, U_ = upS_Claim (L0).length 1 := ⟨_, rfl⟩
  rw [← uX3] at hX3
  have VX3 := Aside0.mk (show UX3.length = (L0).length from by rw [uX3, upS_Claim_length])
  have ZX3 := Aside0.mk uX3
  clear uX3
  have cX3 : decide (mX3 < 0) = false := decide_eq_false (by omega)
  have PX3 := Aside0.mk (show 0 ≤ mX3 ∧ mX3 ≤ 1 + 8388608 from by have h_ := hv0; omega)
  have MX3 := Aside0.mk eX3
  clear eX3
  have X3 := Aside0.mk hX3
  clear hX3
  obtain ⟨kX4, hX4⟩ := roundsOf (markClaimS_ev (canA L0 a1).1 1 (by omega) (by have h_ := HL0.out; omega) (by have h_ := HL0.out; omega))
  obtain ⟨mX4, eX4⟩ : ∃ m_ : Int, m_ = 1 + 3 * (((canA L0 a1).1).length : Int) := ⟨_, rfl⟩
  rw [← eX4] at hX4
  obtain ⟨UX4, uX4⟩ : ∃ U_ : List S54, U_ = upS_Claim ((canA L0 a1).1).length 1 := ⟨_, rfl⟩
  rw [← uX4] at hX4
  have VX4 := Aside0.mk (show UX4.length = ((canA L0 a1).1).length from by rw [uX4, upS_Claim_length])
  have ZX4 := Aside0.mk uX4
  clear uX4
  have cX4 : decide (mX4 < 0) = false := decide_eq_false (by omega)
  have PX4 := Aside0.mk (show 0 ≤ mX4 ∧ mX4 ≤ 1 + 8388608 from by have h_ := HL0.out; omega)
  have MX4 := Aside0.mk eX4
  clear eX4
  have X4 := Aside0.mk hX4
  clear hX4
  obtain ⟨kX5, hX5⟩ := roundsOf (heldClaimS_ev ((canA L0 a1).1).length 1 (by omega) (by have h_ := HL0.out; omega) (by have h_ := HL0.out; omega))
  rw [← MX4.out, ← ZX4.out] at hX5
  have X5 := Aside0.mk hX5
  clear hX5
  go_enter Try.func11, Try.ntmps11
  go_wp2_with (go_at_call 13; refine (laws_szClaimS.calls _ _ l0 1048576 _ _ (by repeat (first | exact HR0.out | (with_reducible refine Kd.C_alloc ?_ _) | (with_reducible refine Kd.C_drewN ?_ _) | (with_reducible refine Kd.C_drew ?_))) HC0.out E0.out).mono ?_; rintro e w0_ ⟨rfl, ⟨q, rfl⟩⟩)
  refine (laws_toClaimS.calls kX0 _ _ l0 _ _ (by repeat (first | exact (Kd.C_below HR0.out HB0.out) | (with_reducible refine Kd.C_alloc ?_ _) | (with_reducible refine Kd.C_drewN ?_ _) | (with_reducible refine Kd.C_drew ?_))) HC0.out X0.out).mono ?_
  rintro e w1 ⟨v, rfl, ho, hb⟩
  have HB1 := Aside0.mk (below_step (by repeat (first | (with_reducible first | exact HB0.out | apply below_alloc | apply pw_below_drewN | apply below_drew1) | exact HB0.out)) hb)
  have SZ1 := Aside0.mk (show w.heap.size ≤ w1.heap.size from below_size (below_step (by repeat (first | (with_reducible first | exact Below.refl _ _ | apply below_alloc | apply pw_below_drewN | apply below_drew1) | exact Below.refl _ _)) hb))
  have HOt1 := Aside0.mk (R_ivw (a := w.heap.size) (b := w.heap.size) ho (below_size (by repeat (first | (with_reducible first | exact Below.refl _ _ | apply below_alloc | apply pw_below_drewN | apply below_drew1) | exact Below.refl _ _))) (below_size (by repeat (first | (with_reducible first | exact HB0.out | apply below_alloc | apply pw_below_drewN | apply below_drew1) | exact HB0.out))))
  obtain ⟨Art1, crt1, ert1⟩ := Kd.R_slice HOt1.out
  subst ert1
  clear ho hb
  go_wp2_with fail
  refine (spec_c _ _ L0 a1 _ (by repeat (first | exact (Kd.R_reads' HOt1.out).2.2 | (with_reducible refine Kd.C_alloc ?_ _) | (with_reducible refine Kd.C_drewN ?_ _) | (with_reducible refine Kd.C_drew ?_))) (Kd.R_reads' HOt1.out).2.1 (fun hp => R_head HOt1.out hp) hv0 ).mono ?_
  rintro e w2 ⟨v, rfl, ho, hb⟩
  have n_ := Aside0.mk (Kd.R_below (by (with_reducible repeat (first | apply Kd.R_alloc | apply Kd.R_drewN | apply Kd.R_drew)); exact HOt1.out) hb); clear HOt1; have HOt1 := n_; clear n_
  have HB2 := Aside0.mk (below_step (by repeat (first | (with_reducible first | exact HB1.out | apply below_alloc | apply pw_below_drewN | apply below_drew1) | exact HB1.out)) hb)
  have SZ2 := Aside0.mk (show w1.heap.size ≤ w2.heap.size from below_size (below_step (by repeat (first | (with_reducible first | exact Below.refl _ _ | apply below_alloc | apply pw_below_drewN | apply below_drew1) | exact Below.refl _ _)) hb))
  have HOw0 := Aside0.mk (R_ivw (a := w1.heap.size) (b := w.heap.size) ho (below_size (by repeat (first | (with_reducible first | exact Below.refl _ _ | apply below_alloc | apply pw_below_drewN | apply below_drew1) | exact Below.refl _ _))) (below_size (by repeat (first | (with_reducible first | exact HB1.out | apply below_alloc | apply pw_below_drewN | apply below_drew1) | exact HB1.out))))
  obtain ⟨Arw0, crw0, erw0⟩ := Kd.R_slice HOw0.out
  subst erw0
  clear ho hb
  go_wp2_with fail
  refine (laws_toClaimS.calls kX0 _ _ l0 _ _ (by repeat (first | exact (Kd.C_below HR0.out HB2.out) | (with_reducible refine Kd.C_alloc ?_ _) | (with_reducible refine Kd.C_drewN ?_ _) | (with_reducible refine Kd.C_drew ?_))) HC0.out X0.out).mono ?_
  rintro e w3 ⟨v, rfl, ho, hb⟩
  have n_ := Aside0.mk (Kd.R_below (by (with_reducible repeat (first | apply Kd.R_alloc | apply Kd.R_drewN | apply Kd.R_drew)); exact HOw0.out) hb); clear HOw0; have HOw0 := n_; clear n_
  have HB3 := Aside0.mk (below_step (by repeat (first | (with_reducible first | exact HB2.out | apply below_alloc | apply pw_below_drewN | apply below_drew1) | exact HB2.out)) hb)
  have SZ3 := Aside0.mk (show w2.heap.size ≤ w3.heap.size from below_size (below_step (by repeat (first | (with_reducible first | exact Below.refl _ _ | apply below_alloc | apply pw_below_drewN | apply below_drew1) | exact Below.refl _ _)) hb))
  have HOx0 := Aside0.mk (R_ivw (a := w2.heap.size) (b := w.heap.size) ho (below_size (by repeat (first | (with_reducible first | exact Below.refl _ _ | apply below_alloc | apply pw_below_drewN | apply below_drew1) | exact Below.refl _ _))) (below_size (by repeat (first | (with_reducible first | exact HB2.out | apply below_alloc | apply pw_below_drewN | apply below_drew1) | exact HB2.out))))
  obtain ⟨Arx0, crx0, erx0⟩ := Kd.R_slice HOx0.out
  subst erx0
  clear ho hb
  go_wp2_with fail
  refine (impl_c _ _ L0 a1 _ (by repeat (first | exact (Kd.R_reads' HOx0.out).2.2 | (with_reducible refine Kd.C_alloc ?_ _) | (with_reducible refine Kd.C_drewN ?_ _) | (with_reducible refine Kd.C_drew ?_))) (Kd.R_reads' HOx0.out).2.1 (fun hp => R_head HOx0.out hp) hv0 ).mono ?_
  rintro e w4 ⟨v, rfl, ho, hb⟩
  have n_ := Aside0.mk (Kd.R_below (by (with_reducible repeat (first | apply Kd.R_alloc | apply Kd.R_drewN | apply Kd.R_drew)); exact HOw0.out) hb); clear HOw0; have HOw0 := n_; clear n_
  have n_ := Aside0.mk (Kd.R_below (by (with_reducible repeat (first | apply Kd.R_alloc | apply Kd.R_drewN | apply Kd.R_drew)); exact HOx0.out) hb); clear HOx0; have HOx0 := n_; clear n_
  have HB4 := Aside0.mk (below_step (by repeat (first | (with_reducible first | exact HB3.out | apply below_alloc | apply pw_below_drewN | apply below_drew1) | exact HB3.out)) hb)
  have SZ4 := Aside0.mk (show w3.heap.size ≤ w4.heap.size from below_size (below_step (by repeat (first | (with_reducible first | exact Below.refl _ _ | apply below_alloc | apply pw_below_drewN | apply below_drew1) | exact Below.refl _ _)) hb))
  have HOg0 := Aside0.mk (R_ivw (a := w3.heap.size) (b := w.heap.size) ho (below_size (by repeat (first | (with_reducible first | exact Below.refl _ _ | apply below_alloc | apply pw_below_drewN | apply below_drew1) | exact Below.refl _ _))) (below_size (by repeat (first | (with_reducible first | exact HB3.out | apply below_alloc | apply pw_below_drewN | apply below_drew1) | exact HB3.out))))
  obtain ⟨Arg0, crg0, erg0⟩ := Kd.R_slice HOg0.out
  subst erg0
  clear ho hb
  go_wp2_with fail
  refine (laws_eqClaimS.calls kX1 _ _ (canA L0 a1).1 _ _ (canA L0 a1).1 true _ (by repeat (first | exact (Kd.R_reads' HOg0.out).2.2 | (with_reducible refine Kd.C_alloc ?_ _) | (with_reducible refine Kd.C_drewN ?_ _) | (with_reducible refine Kd.C_drew ?_))) (Kd.R_reads' HOg0.out).2.1 (by repeat (first | exact (Kd.R_reads' HOw0.out).2.2 | (with_reducible refine Kd.C_alloc ?_ _) | (with_reducible refine Kd.C_drewN ?_ _) | (with_reducible refine Kd.C_drew ?_))) (Kd.R_reads' HOw0.out).2.1 X1.out).mono ?_
  rintro e w5 ⟨rfl, hb⟩
  have n_ := Aside0.mk (Kd.R_below (by (with_reducible repeat (first | apply Kd.R_alloc | apply Kd.R_drewN | apply Kd.R_drew)); exact HOw0.out) hb); clear HOw0; have HOw0 := n_; clear n_
  have n_ := Aside0.mk (Kd.R_below (by (with_reducible repeat (first | apply Kd.R_alloc | apply Kd.R_drewN | apply Kd.R_drew)); exact HOx0.out) hb); clear HOx0; have HOx0 := n_; clear n_
  have n_ := Aside0.mk (Kd.R_below (by (with_reducible repeat (first | apply Kd.R_alloc | apply Kd.R_drewN | apply Kd.R_drew)); exact HOg0.out) hb); clear HOg0; have HOg0 := n_; clear n_
  have HB5 := Aside0.mk (below_step (by repeat (first | (with_reducible first | exact HB4.out | apply below_alloc | apply pw_below_drewN | apply below_drew1) | exact HB4.out)) hb)
  have SZ5 := Aside0.mk (show w4.heap.size ≤ w5.heap.size from below_size (below_step (by repeat (first | (with_reducible first | exact Below.refl _ _ | apply below_alloc | apply pw_below_drewN | apply below_drew1) | exact Below.refl _ _)) hb))
  clear hb
  go_wp2_with fail
  refine (laws_toClaimS.calls kX0 _ _ l0 _ _ (by repeat (first | exact (Kd.C_below HR0.out HB5.out) | (with_reducible refine Kd.C_alloc ?_ _) | (with_reducible refine Kd.C_drewN ?_ _) | (with_reducible refine Kd.C_drew ?_))) HC0.out X0.out).mono ?_
  rintro e w6 ⟨v, rfl, ho, hb⟩
  have n_ := Aside0.mk (Kd.R_below (by (with_reducible repeat (first | apply Kd.R_alloc | apply Kd.R_drewN | apply Kd.R_drew)); exact HOw0.out) hb); clear HOw0; have HOw0 := n_; clear n_
  have n_ := Aside0.mk (Kd.R_below (by (with_reducible repeat (first | apply Kd.R_alloc | apply Kd.R_drewN | apply Kd.R_drew)); exact HOx0.out) hb); clear HOx0; have HOx0 := n_; clear n_
  have n_ := Aside0.mk (Kd.R_below (by (with_reducible repeat (first | apply Kd.R_alloc | apply Kd.R_drewN | apply Kd.R_drew)); exact HOg0.out) hb); clear HOg0; have HOg0 := n_; clear n_
  have HB6 := Aside0.mk (below_step (by repeat (first | (with_reducible first | exact HB5.out | apply below_alloc | apply pw_below_drewN | apply below_drew1) | exact HB5.out)) hb)
  have SZ6 := Aside0.mk (show w5.heap.size ≤ w6.heap.size from below_size (below_step (by repeat (first | (with_reducible first | exact Below.refl _ _ | apply below_alloc | apply pw_below_drewN | apply below_drew1) | exact Below.refl _ _)) hb))
  have HOt2 := Aside0.mk (R_ivw (a := w5.heap.size) (b := w.heap.size) ho (below_size (by repeat (first | (with_reducible first | exact Below.refl _ _ | apply below_alloc | apply pw_below_drewN | apply below_drew1) | exact Below.refl _ _))) (below_size (by repeat (first | (with_reducible first | exact HB5.out | apply below_alloc | apply pw_below_drewN | apply below_drew1) | exact HB5.out))))
  obtain ⟨Art2, crt2, ert2⟩ := Kd.R_slice HOt2.out
  subst ert2
  clear ho hb
  go_wp2_with fail
  refine (laws_eqClaimS.calls kX2 _ _ L0 _ _ L0 true _ (by repeat (first | exact (Kd.R_reads' HOx0.out).2.2 | (with_reducible refine Kd.C_alloc ?_ _) | (with_reducible refine Kd.C_drewN ?_ _) | (with_reducible refine Kd.C_drew ?_))) (Kd.R_reads' HOx0.out).2.1 (by repeat (first | exact (Kd.R_reads' HOt2.out).2.2 | (with_reducible refine Kd.C_alloc ?_ _) | (with_reducible refine Kd.C_drewN ?_ _) | (with_reducible refine Kd.C_drew ?_))) (Kd.R_reads' HOt2.out).2.1 X2.out).mono ?_
  rintro e w7 ⟨rfl, hb⟩
  have n_ := Aside0.mk (Kd.R_below (by (with_reducible repeat (first | apply Kd.R_alloc | apply Kd.R_drewN | apply Kd.R_drew)); exact HOw0.out) hb); clear HOw0; have HOw0 := n_; clear n_
  have n_ := Aside0.mk (Kd.R_below (by (with_reducible repeat (first | apply Kd.R_alloc | apply Kd.R_drewN | apply Kd.R_drew)); exact HOx0.out) hb); clear HOx0; have HOx0 := n_; clear n_
  have n_ := Aside0.mk (Kd.R_below (by (with_reducible repeat (first | apply Kd.R_alloc | apply Kd.R_drewN | apply Kd.R_drew)); exact HOg0.out) hb); clear HOg0; have HOg0 := n_; clear n_
  have n_ := Aside0.mk (Kd.R_below (by (with_reducible repeat (first | apply Kd.R_alloc | apply Kd.R_drewN | apply Kd.R_drew)); exact HOt2.out) hb); clear HOt2; have HOt2 := n_; clear n_
  have HB7 := Aside0.mk (below_step (by repeat (first | (with_reducible first | exact HB6.out | apply below_alloc | apply pw_below_drewN | apply below_drew1) | exact HB6.out)) hb)
  have SZ7 := Aside0.mk (show w6.heap.size ≤ w7.heap.size from below_size (below_step (by repeat (first | (with_reducible first | exact Below.refl _ _ | apply below_alloc | apply pw_below_drewN | apply below_drew1) | exact Below.refl _ _)) hb))
  clear hb
  go_wp2_with fail
  refine (laws_markClaimS.calls kX3 (Iv w2.heap.size w3.heap.size) _ L0 1 _ _ w _ (by repeat (first | (with_reducible first | exact HB7.out | apply below_alloc | apply pw_below_drewN | apply below_drew1) | exact HB7.out)) (by (with_reducible repeat (first | apply Kd.R_alloc | apply Kd.R_drewN | apply Kd.R_drew)); exact HOx0.out) X3.out).mono ?_
  rintro e w8 ⟨rfl, ho, hb, hk⟩
  have n_ := Aside0.mk (Kd.R_kept (by (with_reducible repeat (first | apply Kd.R_alloc | apply Kd.R_drewN | apply Kd.R_drew)); exact HOw0.out) hk (fun k h1_ h2_ => by have a_ := h1_.1; have b_ := h1_.2; have c_ := h2_.1; have d_ := h2_.2; have SZ1_ := SZ1.out; have SZ2_ := SZ2.out; have SZ3_ := SZ3.out; have SZ4_ := SZ4.out; have SZ5_ := SZ5.out; have SZ6_ := SZ6.out; have SZ7_ := SZ7.out; omega)); clear HOw0; have HOw0 := n_; clear n_
  have n_ := Aside0.mk (Kd.R_kept (by (with_reducible repeat (first | apply Kd.R_alloc | apply Kd.R_drewN | apply Kd.R_drew)); exact HOg0.out) hk (fun k h1_ h2_ => by have a_ := h1_.1; have b_ := h1_.2; have c_ := h2_.1; have d_ := h2_.2; have SZ1_ := SZ1.out; have SZ2_ := SZ2.out; have SZ3_ := SZ3.out; have SZ4_ := SZ4.out; have SZ5_ := SZ5.out; have SZ6_ := SZ6.out; have SZ7_ := SZ7.out; omega)); clear HOg0; have HOg0 := n_; clear n_
  have HB8 := Aside0.mk hb
  have SZ8 := Aside0.mk (show w7.heap.size ≤ w8.heap.size from hk.1)
  have n_ := Aside0.mk (R_flat flat_Claim ho HOx0.out.1); clear HOx0; have HOx0 := n_; clear n_
  clear ho hb hk
  go_wp2_with fail
  refine (laws_eqClaimS.calls kX1 _ _ (canA L0 a1).1 _ _ (canA L0 a1).1 true _ (by repeat (first | exact (Kd.R_reads' HOg0.out).2.2 | (with_reducible refine Kd.C_alloc ?_ _) | (with_reducible refine Kd.C_drewN ?_ _) | (with_reducible refine Kd.C_drew ?_))) (Kd.R_reads' HOg0.out).2.1 (by repeat (first | exact (Kd.R_reads' HOw0.out).2.2 | (with_reducible refine Kd.C_alloc ?_ _) | (with_reducible refine Kd.C_drewN ?_ _) | (with_reducible refine Kd.C_drew ?_))) (Kd.R_reads' HOw0.out).2.1 X1.out).mono ?_
  rintro e w9 ⟨rfl, hb⟩
  have n_ := Aside0.mk (Kd.R_below (by (with_reducible repeat (first | apply Kd.R_alloc | apply Kd.R_drewN | apply Kd.R_drew)); exact HOw0.out) hb); clear HOw0; have HOw0 := n_; clear n_
  have n_ := Aside0.mk (Kd.R_below (by (with_reducible repeat (first | apply Kd.R_alloc | apply Kd.R_drewN | apply Kd.R_drew)); exact HOx0.out) hb); clear HOx0; have HOx0 := n_; clear n_
  have n_ := Aside0.mk (Kd.R_below (by (with_reducible repeat (first | apply Kd.R_alloc | apply Kd.R_drewN | apply Kd.R_drew)); exact HOg0.out) hb); clear HOg0; have HOg0 := n_; clear n_
  have HB9 := Aside0.mk (below_step (by repeat (first | (with_reducible first | exact HB8.out | apply below_alloc | apply pw_below_drewN | apply below_drew1) | exact HB8.out)) hb)
  have SZ9 := Aside0.mk (show w8.heap.size ≤ w9.heap.size from below_size (below_step (by repeat (first | (with_reducible first | exact Below.refl _ _ | apply below_alloc | apply pw_below_drewN | apply below_drew1) | exact Below.refl _ _)) hb))
  clear hb
  go_wp2_with fail
  refine (laws_markClaimS.calls kX4 (Iv w3.heap.size w4.heap.size) _ (canA L0 a1).1 1 _ _ w _ (by repeat (first | (with_reducible first | exact HB9.out | apply below_alloc | apply pw_below_drewN | apply below_drew1) | exact HB9.out)) (by (with_reducible repeat (first | apply Kd.R_alloc | apply Kd.R_drewN | apply Kd.R_drew)); exact HOg0.out) X4.out).mono ?_
  rintro e w10 ⟨rfl, ho, hb, hk⟩
  have n_ := Aside0.mk (Kd.R_kept (by (with_reducible repeat (first | apply Kd.R_alloc | apply Kd.R_drewN | apply Kd.R_drew)); exact HOw0.out) hk (fun k h1_ h2_ => by have a_ := h1_.1; have b_ := h1_.2; have c_ := h2_.1; have d_ := h2_.2; have SZ1_ := SZ1.out; have SZ2_ := SZ2.out; have SZ3_ := SZ3.out; have SZ4_ := SZ4.out; have SZ5_ := SZ5.out; have SZ6_ := SZ6.out; have SZ7_ := SZ7.out; have SZ8_ := SZ8.out; have SZ9_ := SZ9.out; omega)); clear HOw0; have HOw0 := n_; clear n_
  have n_ := Aside0.mk (Kd.R_kept (by (with_reducible repeat (first | apply Kd.R_alloc | apply Kd.R_drewN | apply Kd.R_drew)); exact HOx0.out) hk (fun k h1_ h2_ => by have a_ := h1_.1; have b_ := h1_.2; have c_ := h2_.1; have d_ := h2_.2; have SZ1_ := SZ1.out; have SZ2_ := SZ2.out; have SZ3_ := SZ3.out; have SZ4_ := SZ4.out; have SZ5_ := SZ5.out; have SZ6_ := SZ6.out; have SZ7_ := SZ7.out; have SZ8_ := SZ8.out; have SZ9_ := SZ9.out; omega)); clear HOx0; have HOx0 := n_; clear n_
  have HB10 := Aside0.mk hb
  have SZ10 := Aside0.mk (show w9.heap.size ≤ w10.heap.size from hk.1)
  have n_ := Aside0.mk (R_flat flat_Claim ho HOg0.out.1); clear HOg0; have HOg0 := n_; clear n_
  clear ho hb hk
  go_wp2_with fail
  refine calls_of_args (args' := #[.slice Arg0 UX4.length crg0, .int .i64 1]) (by rw [VX4.out]) ?_
  refine (laws_heldClaimS.calls kX5 _ _ UX4 1 _ _ (by repeat (first | exact (Kd.R_reads' HOg0.out).2.2 | (with_reducible refine Kd.C_alloc ?_ _) | (with_reducible refine Kd.C_drewN ?_ _) | (with_reducible refine Kd.C_drew ?_))) (by rw [VX4.out]; exact (Kd.R_reads' HOg0.out).2.1) X5.out).mono ?_
  rintro e w11 ⟨rfl, hb0⟩
  have hb := Drawn0.below hb0
  clear hb0
  have n_ := Aside0.mk (Kd.R_below (by (with_reducible repeat (first | apply Kd.R_alloc | apply Kd.R_drewN | apply Kd.R_drew)); exact HOw0.out) hb); clear HOw0; have HOw0 := n_; clear n_
  have n_ := Aside0.mk (Kd.R_below (by (with_reducible repeat (first | apply Kd.R_alloc | apply Kd.R_drewN | apply Kd.R_drew)); exact HOx0.out) hb); clear HOx0; have HOx0 := n_; clear n_
  have n_ := Aside0.mk (Kd.R_below (by (with_reducible repeat (first | apply Kd.R_alloc | apply Kd.R_drewN | apply Kd.R_drew)); exact HOg0.out) hb); clear HOg0; have HOg0 := n_; clear n_
  have HB11 := Aside0.mk (below_step (by repeat (first | (with_reducible first | exact HB10.out | apply below_alloc | apply pw_below_drewN | apply below_drew1) | exact HB10.out)) hb)
  have SZ11 := Aside0.mk (show w10.heap.size ≤ w11.heap.size from below_size (below_step (by repeat (first | (with_reducible first | exact Below.refl _ _ | apply below_alloc | apply pw_below_drewN | apply below_drew1) | exact Below.refl _ _)) hb))
  clear hb
  go_wp2_with fail
  refine (laws_toClaimS.calls kX0 _ _ l0 _ _ (by repeat (first | exact (Kd.C_below HR0.out HB11.out) | (with_reducible refine Kd.C_alloc ?_ _) | (with_reducible refine Kd.C_drewN ?_ _) | (with_reducible refine Kd.C_drew ?_))) HC0.out X0.out).mono ?_
  rintro e w12 ⟨v, rfl, ho, hb⟩
  have n_ := Aside0.mk (Kd.R_below (by (with_reducible repeat (first | apply Kd.R_alloc | apply Kd.R_drewN | apply Kd.R_drew)); exact HOw0.out) hb); clear HOw0; have HOw0 := n_; clear n_
  have n_ := Aside0.mk (Kd.R_below (by (with_reducible repeat (first | apply Kd.R_alloc | apply Kd.R_drewN | apply Kd.R_drew)); exact HOx0.out) hb); clear HOx0; have HOx0 := n_; clear n_
  have n_ := Aside0.mk (Kd.R_below (by (with_reducible repeat (first | apply Kd.R_alloc | apply Kd.R_drewN | apply Kd.R_drew)); exact HOg0.out) hb); clear HOg0; have HOg0 := n_; clear n_
  have HB12 := Aside0.mk (below_step (by repeat (first | (with_reducible first | exact HB11.out | apply below_alloc | apply pw_below_drewN | apply below_drew1) | exact HB11.out)) hb)
  have SZ12 := Aside0.mk (show w11.heap.size ≤ w12.heap.size from below_size (below_step (by repeat (first | (with_reducible first | exact Below.refl _ _ | apply below_alloc | apply pw_below_drewN | apply below_drew1) | exact Below.refl _ _)) hb))
  have HOt3 := Aside0.mk (R_ivw (a := w11.heap.size) (b := w.heap.size) ho (below_size (by repeat (first | (with_reducible first | exact Below.refl _ _ | apply below_alloc | apply pw_below_drewN | apply below_drew1) | exact Below.refl _ _))) (below_size (by repeat (first | (with_reducible first | exact HB11.out | apply below_alloc | apply pw_below_drewN | apply below_drew1) | exact HB11.out))))
  obtain ⟨Art3, crt3, ert3⟩ := Kd.R_slice HOt3.out
  subst ert3
  clear ho hb
  go_wp2_with fail
  refine (impl_c _ _ L0 a1 _ (by repeat (first | exact (Kd.R_reads' HOt3.out).2.2 | (with_reducible refine Kd.C_alloc ?_ _) | (with_reducible refine Kd.C_drewN ?_ _) | (with_reducible refine Kd.C_drew ?_))) (Kd.R_reads' HOt3.out).2.1 (fun hp => R_head HOt3.out hp) hv0 ).mono ?_
  rintro e w13 ⟨v, rfl, ho, hb⟩
  have n_ := Aside0.mk (Kd.R_below (by (with_reducible repeat (first | apply Kd.R_alloc | apply Kd.R_drewN | apply Kd.R_drew)); exact HOw0.out) hb); clear HOw0; have HOw0 := n_; clear n_
  have n_ := Aside0.mk (Kd.R_below (by (with_reducible repeat (first | apply Kd.R_alloc | apply Kd.R_drewN | apply Kd.R_drew)); exact HOx0.out) hb); clear HOx0; have HOx0 := n_; clear n_
  have n_ := Aside0.mk (Kd.R_below (by (with_reducible repeat (first | apply Kd.R_alloc | apply Kd.R_drewN | apply Kd.R_drew)); exact HOg0.out) hb); clear HOg0; have HOg0 := n_; clear n_
  have n_ := Aside0.mk (Kd.R_below (by (with_reducible repeat (first | apply Kd.R_alloc | apply Kd.R_drewN | apply Kd.R_drew)); exact HOt3.out) hb); clear HOt3; have HOt3 := n_; clear n_
  have HB13 := Aside0.mk (below_step (by repeat (first | (with_reducible first | exact HB12.out | apply below_alloc | apply pw_below_drewN | apply below_drew1) | exact HB12.out)) hb)
  have SZ13 := Aside0.mk (show w12.heap.size ≤ w13.heap.size from below_size (below_step (by repeat (first | (with_reducible first | exact Below.refl _ _ | apply below_alloc | apply pw_below_drewN | apply below_drew1) | exact Below.refl _ _)) hb))
  have HOh0 := Aside0.mk (R_ivw (a := w12.heap.size) (b := w.heap.size) ho (below_size (by repeat (first | (with_reducible first | exact Below.refl _ _ | apply below_alloc | apply pw_below_drewN | apply below_drew1) | exact Below.refl _ _))) (below_size (by repeat (first | (with_reducible first | exact HB12.out | apply below_alloc | apply pw_below_drewN | apply below_drew1) | exact HB12.out))))
  obtain ⟨Arh0, crh0, erh0⟩ := Kd.R_slice HOh0.out
  subst erh0
  clear ho hb
  go_wp2_with fail
  refine (laws_eqClaimS.calls kX1 _ _ (canA L0 a1).1 _ _ (canA L0 a1).1 true _ (by repeat (first | exact (Kd.R_reads' HOh0.out).2.2 | (with_reducible refine Kd.C_alloc ?_ _) | (with_reducible refine Kd.C_drewN ?_ _) | (with_reducible refine Kd.C_drew ?_))) (Kd.R_reads' HOh0.out).2.1 (by repeat (first | exact (Kd.R_reads' HOw0.out).2.2 | (with_reducible refine Kd.C_alloc ?_ _) | (with_reducible refine Kd.C_drewN ?_ _) | (with_reducible refine Kd.C_drew ?_))) (Kd.R_reads' HOw0.out).2.1 X1.out).mono ?_
  rintro e w14 ⟨rfl, hb⟩
  have n_ := Aside0.mk (Kd.R_below (by (with_reducible repeat (first | apply Kd.R_alloc | apply Kd.R_drewN | apply Kd.R_drew)); exact HOw0.out) hb); clear HOw0; have HOw0 := n_; clear n_
  have n_ := Aside0.mk (Kd.R_below (by (with_reducible repeat (first | apply Kd.R_alloc | apply Kd.R_drewN | apply Kd.R_drew)); exact HOx0.out) hb); clear HOx0; have HOx0 := n_; clear n_
  have n_ := Aside0.mk (Kd.R_below (by (with_reducible repeat (first | apply Kd.R_alloc | apply Kd.R_drewN | apply Kd.R_drew)); exact HOg0.out) hb); clear HOg0; have HOg0 := n_; clear n_
  have n_ := Aside0.mk (Kd.R_below (by (with_reducible repeat (first | apply Kd.R_alloc | apply Kd.R_drewN | apply Kd.R_drew)); exact HOh0.out) hb); clear HOh0; have HOh0 := n_; clear n_
  have HB14 := Aside0.mk (below_step (by repeat (first | (with_reducible first | exact HB13.out | apply below_alloc | apply pw_below_drewN | apply below_drew1) | exact HB13.out)) hb)
  have SZ14 := Aside0.mk (show w13.heap.size ≤ w14.heap.size from below_size (below_step (by repeat (first | (with_reducible first | exact Below.refl _ _ | apply below_alloc | apply pw_below_drewN | apply below_drew1) | exact Below.refl _ _)) hb))
  clear hb
  go_wp2_with fail
  refine calls_of_args (args' := #[.slice Arg0 UX4.length crg0, .int .i64 1]) (by rw [VX4.out]) ?_
  refine (laws_heldClaimS.calls kX5 _ _ UX4 1 _ _ (by repeat (first | exact (Kd.R_reads' HOg0.out).2.2 | (with_reducible refine Kd.C_alloc ?_ _) | (with_reducible refine Kd.C_drewN ?_ _) | (with_reducible refine Kd.C_drew ?_))) (by rw [VX4.out]; exact (Kd.R_reads' HOg0.out).2.1) X5.out).mono ?_
  rintro e w15 ⟨rfl, hb0⟩
  have hb := Drawn0.below hb0
  clear hb0
  have n_ := Aside0.mk (Kd.R_below (by (with_reducible repeat (first | apply Kd.R_alloc | apply Kd.R_drewN | apply Kd.R_drew)); exact HOw0.out) hb); clear HOw0; have HOw0 := n_; clear n_
  have n_ := Aside0.mk (Kd.R_below (by (with_reducible repeat (first | apply Kd.R_alloc | apply Kd.R_drewN | apply Kd.R_drew)); exact HOx0.out) hb); clear HOx0; have HOx0 := n_; clear n_
  have n_ := Aside0.mk (Kd.R_below (by (with_reducible repeat (first | apply Kd.R_alloc | apply Kd.R_drewN | apply Kd.R_drew)); exact HOg0.out) hb); clear HOg0; have HOg0 := n_; clear n_
  have n_ := Aside0.mk (Kd.R_below (by (with_reducible repeat (first | apply Kd.R_alloc | apply Kd.R_drewN | apply Kd.R_drew)); exact HOh0.out) hb); clear HOh0; have HOh0 := n_; clear n_
  have HB15 := Aside0.mk (below_step (by repeat (first | (with_reducible first | exact HB14.out | apply below_alloc | apply pw_below_drewN | apply below_drew1) | exact HB14.out)) hb)
  have SZ15 := Aside0.mk (show w14.heap.size ≤ w15.heap.size from below_size (below_step (by repeat (first | (with_reducible first | exact Below.refl _ _ | apply below_alloc | apply pw_below_drewN | apply below_drew1) | exact Below.refl _ _)) hb))
  clear hb
  go_wp2
  go_ret
  exact ⟨rfl, (by repeat (first | (with_reducible first | exact HB15.out | apply below_alloc | apply pw_below_drewN | apply below_drew1) | exact HB15.out))⟩
end Go.Proofs.Ytaobdjdmmhglaaa.O
