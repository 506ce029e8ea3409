/- Walks of our own, a part of those for the law FnConcentration: each function's contract in plain Lean. No condition beyond the bounds that each contract names. -/
import Derived.Test.YtiaakolalhdelaaPureFnConcentration
import Derived.Test.YtiaakolalhdelaaOFnConcentrationa
import Derived.Test.YtiaakolalhdelaaOFnConcentrationb
namespace Go.Proofs.Ytiaakolalhdelaa.O
open Go.RowKit Go.Proofs.YtiaakolalhdelaaW.PrintWords Go.Proofs.YtiaakolalhdelaaW.PrintLast Go.Proofs.YtiaakolalhdelaaW.PrintMore Go.Proofs.Ytiaakolalhdelaa.PL17C Go.Proofs.Ytiaakolalhdelaa.EvKit Go.Proofs.Ytiaakolalhdelaa.Pure
set_option linter.unusedVariables false
set_option linter.unusedSimpArgs false
attribute [local go_sem] max2_int min2_int max_two min_two max_three min_three max_four min_four
set_option maxHeartbeats 16000000 in
set_option maxRecDepth 100000 in
theorem concI_c (A0 : Option Addr) (c0 : Nat) (xs : List S51) (lim : Int) (w : World) (hr0 : Kd.C k51 w A0 xs.length xs) (hc0 : xs.length ≤ c0) (hn : xs.length ≤ 1048576) :
    Calls Try.prog 32 #[.slice A0 xs.length c0, .int .i64 lim] w fun e w' => ∃ v, e = .returned (.tuple #[v, .bool (excessA xs lim).2]) ∧ (Kd.int .i64).R 3 w' w.heap.size (fun _ => True) v (excessA xs lim).1 ∧ Below w.heap.size w w' := by
  have HB := am_ (Below.refl w.heap.size w)
  have HR0 := am_ hr0
  have HC0 := am_ hc0
  obtain ⟨kv, hv⟩ := roundsOf (implValid_ev xs hn)
  have hw := within_eq lim 0 1000
  clear hr0 hc0
  by_cases g : goodA xs = true
  rotate_left
  · rw [show goodA xs = false from by simpa using g] at hv
    have HV := am_ hv
    have HNO := am_ (excess_no (l := lim) (fun q => g q.1))
    clear hv hw g
    go_enter Try.func32, Try.ntmps32
    go_wp2_with fail
    refine (impl_IsValidAssets.calls kv A0 c0 xs false _ (by repeat first | exact (Kd.C_below HR0.out HB.out) | with_reducible refine ca_ ?_ _ | with_reducible refine cn_ ?_ _ | with_reducible refine cd_ ?_) HC0.out HV.out).mono ?_
    rintro e w1 ⟨rfl, hb⟩
    replace HB := am_ (below_step (by repeat first | (with_reducible first | exact HB.out | apply ba_ | apply bn_ | apply bd_) | exact HB.out) hb); clear hb
    go_wp2
    go_ret2
    exact ⟨_, by rw [HNO.out]; rfl, by rw [HNO.out]; exact Kd.R_nil _ _ _ _ _, (by repeat first | (with_reducible first | exact HB.out | apply ba_ | apply bn_ | apply bd_) | exact HB.out)⟩
  rw [g] at hv
  have HV := am_ hv
  by_cases hl : 0 ≤ lim ∧ lim ≤ 1000
  rotate_left
  · rw [decide_eq_false hl] at hw
    have HW := am_ hw
    have HNO := am_ (excess_no (xs := xs) (l := lim) (fun q => hl q.2))
    clear hv hw g hl
    go_enter Try.func32, Try.ntmps32
    go_wp2_with fail
    refine (impl_IsValidAssets.calls kv A0 c0 xs true _ (by repeat first | exact (Kd.C_below HR0.out HB.out) | with_reducible refine ca_ ?_ _ | with_reducible refine cn_ ?_ _ | with_reducible refine cd_ ?_) HC0.out HV.out).mono ?_
    rintro e w1 ⟨rfl, hb⟩
    replace HB := am_ (below_step (by repeat first | (with_reducible first | exact HB.out | apply ba_ | apply bn_ | apply bd_) | exact HB.out) hb); clear hb
    go_wp2_with fail
    refine (impl_within.calls lim 0 1000 false _ HW.out).mono ?_
    rintro e w2 ⟨rfl, ⟨q2, rfl⟩⟩
    go_wp2
    go_ret2
    exact ⟨_, by rw [HNO.out]; rfl, by rw [HNO.out]; exact Kd.R_nil _ _ _ _ _, (by repeat first | (with_reducible first | exact HB.out | apply ba_ | apply bn_ | apply bd_) | exact HB.out)⟩
  rw [decide_eq_true hl] at hw
  have HW := am_ hw
  obtain ⟨OUT, AL, hO, hAL, hex, hlen, hox, hsum, ⟨s0, s1⟩, ⟨m0, m1⟩, ⟨al0, al1⟩⟩ := excess_yes g hl
  obtain ⟨S, hS⟩ : ∃ S, S = sumA xs := ⟨_, rfl⟩
  rw [← hS] at hAL hsum s0 s1 m0 m1
  have HEX := am_ hex
  have HOX := am_ hox
  have HFO := am_ hO
  have HS := am_ hS
  have HAL := am_ hAL
  have HOL := am_ hlen
  have HOK := am_ (of_decide_eq_true g).1
  have HLN := am_ (of_decide_eq_true g).2.1
  have HSUM := am_ hsum
  have hn20 := (of_decide_eq_true g).2.1
  clear hv hw g hex hox hO hS hlen hsum
  go_enter Try.func32, Try.ntmps32
  go_wp2_with fail
  refine (impl_IsValidAssets.calls kv A0 c0 xs true _ (by repeat first | exact (Kd.C_below HR0.out HB.out) | with_reducible refine ca_ ?_ _ | with_reducible refine cn_ ?_ _ | with_reducible refine cd_ ?_) HC0.out HV.out).mono ?_
  rintro e w1 ⟨rfl, hb⟩
  replace HB := am_ (below_step (by repeat first | (with_reducible first | exact HB.out | apply ba_ | apply bn_ | apply bd_) | exact HB.out) hb); clear hb
  go_wp2_with fail
  refine (impl_within.calls lim 0 1000 true _ HW.out).mono ?_
  rintro e w2 ⟨rfl, ⟨q2, rfl⟩⟩
  go_wp2_with ((with_reducible refine gate_dst (N := 19) rfl ?_); refine Kd.R_make (Kd.int .i64) w.heap.size 3 rfl (N := 19) rfl 39 _ _ rfl (10 : Int) rfl rfl Try.underlying39 (.int .i64 0) 8 infoI rfl (by decide) (by omega) 0 (ok := fun _ => True) (okp := fun _ => True) rfl (fun _ hk => hk) trivial (by omega) (by omega) (by repeat first | (with_reducible first | exact HB.out | apply ba_ | apply bn_ | apply bd_) | exact HB.out) (below_size (by repeat first | (with_reducible first | exact HB.out | apply ba_ | apply bn_ | apply bd_) | exact HB.out)) ?_; intro v1 w1 ho hb _ _)
  obtain ⟨g, cap, hv, hg1, hg2, cells, hg3⟩ := Kd.R_form ho (by decide)
  obtain rfl : v1 = .slice (some ⟨g, 0, none⟩) 10 cap := hv
  have HO := am_ (show (Kd.int .i64).R 3 w1 w.heap.size (fun _ => True) (.slice (some ⟨g, 0, none⟩) 10 cap) (List.replicate 10 0) from ho)
  have HG1 := am_ hg1
  clear HB
  have HB := am_ hb
  clear ho hb hg2 hg3 cells hg1
  go_loopw [22] (fun v22 wr => ∃ (pre rest : List S51) (out : List Int), v22 = .int .i64 pre.length ∧ Aside0 (xs = pre ++ rest) ∧ Aside0 (out.length = 10) ∧ Aside0 (foldK out rest = OUT) ∧ Aside0 (isSums out (sumA pre)) ∧ Aside0 ((Kd.int .i64).R 3 wr w.heap.size (fun _ => True) (.slice (some ⟨g, 0, none⟩) 10 cap) out) ∧ Aside0 (Below w.heap.size w wr)) (fun v22 _ => xs.length - (intOf v22).toNat)
  case atStart => exact ⟨[], xs, List.replicate 10 0, rfl, ⟨rfl⟩, ⟨List.length_replicate⟩, ⟨HFO.out.symm⟩, ⟨by simp, (fun x hx => by rw [List.eq_of_mem_replicate hx]; decide), by decide⟩, ⟨(by (with_reducible repeat first | apply ra_ | apply rn_ | apply rd_); exact HO.out)⟩, ⟨(by repeat first | (with_reducible first | exact HB.out | apply ba_ | apply bn_ | apply bd_) | exact HB.out)⟩⟩
  case round =>
    clear HO HB
    obtain ⟨pre, rest, out, rfl, HX, HL, HP, HI, HO, HB⟩ := hrel
    cases rest with
    | nil =>
      have c : decide (pre.length < xs.length) = false := decide_eq_false (by have := len_nil HX.out; omega)
      have hxp : xs = pre := by simpa using HX.out
      have HO2 := am_ (show (Kd.int .i64).R 3 wr w.heap.size (fun _ => True) (.slice (some ⟨g, 0, none⟩) 10 cap) OUT from by rw [← HP.out]; exact HO.out)
      clear HX hxp HP HI HL HO
      go_wp2_with fail
      have hcc_ := R_C HO2.out
      rw [← HOL.out] at hcc_
      have HCC_ := am_ hcc_
      clear hcc_
      refine (sumOf_c (some ⟨g, 0, none⟩) 10 cap OUT _ HOL.out.symm (by repeat first | exact HCC_.out | with_reducible refine ca_ ?_ _ | with_reducible refine cn_ ?_ _ | with_reducible refine cd_ ?_) (by rw [HOL.out]; exact R_cap HO2.out) HOX.out (by rw [HOL.out]; omega)).mono ?_
      rw [HSUM.out]
      rintro e w3 ⟨rfl, ⟨q3, rfl⟩⟩
      clear HCC_
      go_wp2_with fail
      go_loopw [43] (fun v43 wz => ∃ (k : Nat) (cur : List Int), v43 = .int .i64 k ∧ Aside0 (k ≤ 10) ∧ Aside0 (cur.length = 10 ∧ cur = (OUT.take k).map (fun x => max0 (x - AL)) ++ OUT.drop k) ∧ Aside0 ((Kd.int .i64).R 3 wz w.heap.size (fun _ => True) (.slice (some ⟨g, 0, none⟩) 10 cap) cur) ∧ Aside0 (Below w.heap.size w wz)) (fun v43 _ => 10 - (intOf v43).toNat)
      case atStart => exact ⟨0, OUT, rfl, ⟨by omega⟩, ⟨HOL.out, by simp⟩, ⟨(by (with_reducible repeat first | apply ra_ | apply rn_ | apply rd_); exact HO2.out)⟩, ⟨(by repeat first | (with_reducible first | exact HB.out | apply ba_ | apply bn_ | apply bd_) | exact HB.out)⟩⟩
      case round =>
        clear HO2 HB
        obtain ⟨k, cur, rfl, HK, HCU, HO, HB⟩ := hrel
        by_cases hk : k < 10
        · have c2 : decide ((k : Int) < 10) = true := decide_eq_true (by omega)
          have c3 : decide (k < 10) = true := decide_eq_true hk
          have hko : k < OUT.length := by rw [HOL.out]; exact hk
          have q0 : (0 : Int) ≤ (k : Int) := by omega
          have q1 : (k : Int) < 10 := by omega
          have tn : (k : Int).toNat = k := Int.toNat_natCast k
          obtain ⟨x, hx⟩ : ∃ x, x = OUT[k] := ⟨_, rfl⟩
          have hcx : rdOf 0 cur (k : Int) = x := by
            rw [rdOf, tn, HCU.out.2, List.getD_eq_getElem?_getD, List.getElem?_append_right (by rw [List.length_map, List.length_take]; omega), List.length_map, List.length_take, Nat.min_eq_left (Nat.le_of_lt hko), Nat.sub_self, List.getElem?_drop, Nat.add_zero, List.getElem?_eq_getElem hko, hx]; rfl
          obtain ⟨hy, hf⟩ := Kd.R_celln 0 HO.out (k : Int) q0 q1
          rw [hcx, tn] at hy
          rw [tn] at hf
          have hxb := HOX.out x (by rw [hx]; exact List.getElem_mem hko)
          have x0 := hxb.1
          have x1 := hxb.2
          obtain ⟨MX, hMX⟩ : ∃ M, M = max0 (x - AL) := ⟨_, rfl⟩
          have HMX := am_ (show (if (S * lim).tdiv 1000 < x then x - (S * lim).tdiv 1000 else 0) = MX from by rw [← HAL.out, hMX]; unfold max0; split <;> split <;> omega)
          have HST := am_ (show (cur.set k MX).length = 10 ∧ cur.set k MX = (OUT.take (k + 1)).map (fun x => max0 (x - AL)) ++ OUT.drop (k + 1) from ⟨by rw [List.length_set]; exact HCU.out.1, by
            rw [HCU.out.2, List.set_append_right k _ (by rw [List.length_map, List.length_take]; omega), List.length_map, List.length_take, Nat.min_eq_left (Nat.le_of_lt hko), Nat.sub_self, List.drop_eq_getElem_cons hko, List.set_cons_zero, List.take_succ_eq_append_getElem hko, List.map_append, hMX, hx, List.append_assoc]; rfl⟩)
          clear hcx hx hxb hko hMX
          go_upto_region 14 with (fail)
          -- HERE3
          rw [HMX.out]
          have HO3 := am_ (Kd.R_putn HO.out (k : Int) MX)
          have HB3 := am_ (below_set (j := k) (v := .int .i64 MX) HB.out HG1.out)
          rw [tn] at HO3
          clear HO HB hy hf
          go_wp2
          go_roundw
          case rel => exact ⟨k + 1, cur.set k MX, by go_num, ⟨by omega⟩, HST, ⟨(by (with_reducible repeat first | apply ra_ | apply rn_ | apply rd_); exact HO3.out)⟩, ⟨(by repeat first | (with_reducible first | exact HB3.out | apply ba_ | apply bn_ | apply bd_) | exact HB3.out)⟩⟩
          case measure => simp [intOf]; omega
        · have c2 : decide ((k : Int) < 10) = false := decide_eq_false (by omega)
          have c3 : decide (k < 10) = false := decide_eq_false hk
          have HD := am_ (show (Kd.int .i64).R 3 wr w.heap.size (fun _ => True) (.slice (some ⟨g, 0, none⟩) 10 cap) (OUT.map (fun x => max0 (x - AL))) from by
            have h := HO.out
            rw [HCU.out.2, List.take_of_length_le (by rw [HOL.out]; omega), List.drop_eq_nil_of_le (by rw [HOL.out]; omega), List.append_nil] at h
            exact h)
          clear hk
          go_wp2
          go_ret2
          exact ⟨_, by rw [HEX.out]; rfl, by rw [HEX.out]; exact (by (with_reducible repeat first | apply ra_ | apply rn_ | apply rd_); exact HD.out), (by repeat first | (with_reducible first | exact HB.out | apply ba_ | apply bn_ | apply bd_) | exact HB.out)⟩
    | cons a t =>
      have hlt := len_cons HX.out
      have hpl : (pre.length : Int) < xs.length := by omega
      have ha := HOK.out a (by rw [HX.out]; simp)
      have p0 := ha.1.1
      have p9 : a.f0 < 10 := by have := ha.1.2; omega
      have v0 := ha.2.1.1
      have v1_ := ha.2.1.2
      obtain ⟨hs', hr⟩ := isSums_add HI.out ha
      have hpb := sumA_bd pre (fun b hb => HOK.out b (by rw [HX.out]; simp [hb]))
      obtain ⟨ad, e0, hx0, hx1, hx2⟩ := at_T51 HR0.out (pre.length : Int) (by omega) hpl
      rw [rd_T51_at HX.out rfl] at hx0 hx1 hx2
      simp only [Int.toNat_natCast] at hx0 hx1 hx2
      cases e0
      replace hx0 := (HB.out.cell (World.block_lt_of_cell? w _ hx0)).trans hx0
      replace hx1 := (HB.out.cell (World.block_lt_of_cell? w _ hx1)).trans hx1
      replace hx2 := (HB.out.cell (World.block_lt_of_cell? w _ hx2)).trans hx2
      have c : decide (pre.length < xs.length) = true := decide_eq_true (by omega)
      have c' : pre.length < xs.length := by omega
      have tn : (pre.length : Int).toNat = pre.length := Int.toNat_natCast _
      have q0 : (0 : Int) ≤ (pre.length : Int) := by omega
      obtain ⟨V, hV⟩ : ∃ V, V = rd out a.f0 := ⟨_, rfl⟩
      rw [← hV] at hr
      have r0 := hr.1
      have r1 : V ≤ 20000000000 := by have := hr.2; have := hpb.2; have : pre.length ≤ 20 := by omega
                                      omega
      have HADD := am_ (show addK out a = out.set a.f0.toNat (V + a.f1) from by rw [addK, hV])
      have HI2 := am_ hs'
      have HF2 := am_ (show foldK (addK out a) t = OUT from HP.out)
      have HSX := am_ (snoc HX.out)
      have HSA := am_ (sumA_snoc pre a)
      have HV2 := am_ hV
      clear hlt ha hs' hr hV hpb HP HI
      go_upto_region 7 with (fail)
      clear hx0 hx1 hx2
      obtain ⟨W1, hW1⟩ : ∃ W1, W1 = wr.alloc (.cells #[.int .i64 a.f0, .int .i64 a.f1, .int .i64 a.f2] 51) := ⟨_, rfl⟩
      have BK := am_ (show W1.heap[wr.heap.size]? = some (.cells #[.int .i64 a.f0, .int .i64 a.f1, .int .i64 a.f2] 51 (0, 0)) from by rw [hW1]; exact blk_new wr _)
      have HO1 := am_ (show (Kd.int .i64).R 3 W1 w.heap.size (fun _ => True) (.slice (some ⟨g, 0, none⟩) 10 cap) out from by rw [hW1]; exact Kd.R_alloc HO.out _)
      have HB1 := am_ (show Below w.heap.size w W1 from by rw [hW1]; exact below_alloc HB.out _)
      rw [← hW1]
      clear hW1 HO HB
      generalize wr.heap.size = G at BK ⊢
      have hk0 := (blk_cell BK.out 0).trans rfl
      have hk1 := (blk_cell BK.out 1).trans rfl
      have hy : W1.cell? ⟨g, a.f0.toNat, none⟩ = some (.int .i64 V) := by rw [HV2.out]; exact (Kd.R_celln 0 HO1.out a.f0 p0 p9).1
      have hf := (Kd.R_celln 0 HO1.out a.f0 p0 p9).2
      go_region
      clear hy hf hk0 hk1
      have HO2 := am_ (Kd.R_drew (Kd.R_putn HO1.out a.f0 (V + a.f1)))
      have HB2 := am_ (below_drew (below_set (j := a.f0.toNat) (v := .int .i64 (V + a.f1)) HB1.out HG1.out))
      clear HO1 HB1 BK
      generalize (W1.setCell ⟨g, a.f0.toNat, none⟩ (.int .i64 (V + a.f1))).drew = wr1 at HO2 HB2 ⊢
      go_wp2
      go_roundw
      case rel => exact ⟨pre ++ [a], t, addK out a, by rw [len_snoc], HSX, ⟨by rw [HADD.out, List.length_set]; exact HL.out⟩, HF2, ⟨by rw [HSA.out]; exact HI2.out⟩, ⟨by rw [HADD.out]; exact (by (with_reducible repeat first | apply ra_ | apply rn_ | apply rd_); exact HO2.out)⟩, ⟨(by repeat first | (with_reducible first | exact HB2.out | apply ba_ | apply bn_ | apply bd_) | exact HB2.out)⟩⟩
      case measure => simp [intOf]; omega
theorem own_ne {α : Type} {k : Kd α} {e base : Nat} {w : World} {ok : Nat → Prop} {v : Value} {xs : List α} (h : k.R e w base ok v xs) {g t : Nat} {cs : Array Value} (hb : w.heap[g]? = some (.cells cs t (0, 0))) (ht : e ≠ t) : some g ≠ v.ownBlock := by
  intro he
  obtain ⟨inner, ho⟩ := Kd.R_own h
  obtain ⟨cells, hc⟩ := own_typed ho g he.symm
  rw [hb] at hc
  injection hc with h1
  injection h1 with _ h2
  exact ht h2.symm
/-- The cursor of the draws, in its box at g: the code that it reads came in, its place is at most B. -/
def Cur (w0 w : World) (g : Nat) (code : List Int) (B : Int) : Prop :=
  w0.heap.size ≤ g ∧ (∀ x ∈ code, 0 ≤ x ∧ x ≤ 255) ∧ ∃ (A : Option Addr) (c : Nat) (p s : Int), w.heap[g]? = some (.cells #[.slice A code.length c, .int .i64 p, .int .u64 s] 78 (0, 0)) ∧ (Kd.int .u8).C w0 A code.length code ∧ 0 ≤ p ∧ p ≤ B
theorem Cur.blk {w0 w : World} {g : Nat} {code : List Int} {B : Int} (h : Cur w0 w g code B) : ∃ cs, w.heap[g]? = some (.cells cs 78 (0, 0)) := by
  obtain ⟨_, _, A, c, p, s, h1, _⟩ := h
  exact ⟨_, h1⟩
theorem Cur.ge {w0 w : World} {g : Nat} {code : List Int} {B : Int} (h : Cur w0 w g code B) : w0.heap.size ≤ g := h.1
theorem Cur.lt {w0 w : World} {g : Nat} {code : List Int} {B : Int} (h : Cur w0 w g code B) : g < w.heap.size := by
  obtain ⟨cs, h1⟩ := h.blk
  exact blk_lt h1
theorem Cur.step {w0 w w1 : World} {g : Nat} {code : List Int} {B B' : Int} (h : Cur w0 w g code B) (hg : w1.heap[g]? = w.heap[g]?) (hb : B ≤ B') : Cur w0 w1 g code B' := by
  obtain ⟨h0, h1, A, c, p, s, h2, h3, h4, h5⟩ := h
  exact ⟨h0, h1, A, c, p, s, by rw [hg]; exact h2, h3, h4, by omega⟩
theorem Cur.below {w0 w w1 : World} {g : Nat} {code : List Int} {B : Int} (h : Cur w0 w g code B) (hb : Below w.heap.size w w1) : Cur w0 w1 g code B := by
  obtain ⟨h0, h1, A, c, p, s, h2, h3⟩ := h
  exact ⟨h0, h1, A, c, p, s, blk_below h2 hb, h3⟩
theorem Cur.drew {w0 w : World} {g : Nat} {code : List Int} {B : Int} (h : Cur w0 w g code B) : Cur w0 w.drew g code B := h
theorem Cur.drewN {w0 w : World} {g : Nat} {code : List Int} {B : Int} (h : Cur w0 w g code B) (n : Nat) : Cur w0 (w.drewN n) g code B := h
theorem Cur.alloc {w0 w : World} {g : Nat} {code : List Int} {B : Int} (h : Cur w0 w g code B) (o : Obj) : Cur w0 (w.alloc o) g code B := h.below (below_alloc (Below.refl _ _) o)
theorem Cur.new {w0 w : World} {A : Option Addr} {c : Nat} {code : List Int} (hb : Below w0.heap.size w0 w) (hc : (Kd.int .u8).C w0 A code.length code) (hx : ∀ x ∈ code, 0 ≤ x ∧ x ≤ 255) : Cur w0 (w.alloc (.cells #[.slice A code.length c, .int .i64 0, .int .u64 0] 78 (0, 0))) w.heap.size code 0 := ⟨below_size hb, hx, A, c, 0, 0, blk_new w _, hc, by decide, by decide⟩
/-- A row of one's own keeps what it holds while the cursor goes on. -/
theorem R_draw {α : Type} {d : Kd α} {e base : Nat} {w0 w w1 : World} {v : Value} {xs : List α} {g : Nat} {code : List Int} {B : Int} {ok : Nat → Prop} (hf : ∀ (w : World) (b : Nat) (p q : Nat → Prop) x cs, d.M w b p x cs → d.M w b q x cs) (h : d.R e w base ok v xs) (hI : Cur w0 w g code B) (ht : e ≠ 78) (hk : KeepBut w w1 g none) : d.R e w1 base (fun _ => True) v xs := by
  obtain ⟨cs, hb⟩ := hI.blk
  have h1 : d.R e w base (fun k => k ≠ g) v xs := R_flat hf h (fun k hk he => own_ne h hb ht (by rw [hk, he]))
  exact Kd.R_mono (Kd.R_keep h1 hk (fun _ h => h)) (fun _ _ => trivial)
theorem R_ne {α : Type} {d : Kd α} {e base : Nat} {w0 w : World} {A : Option Addr} {n c : Nat} {xs : List α} {g : Nat} {code : List Int} {B : Int} {ok : Nat → Prop} (h : d.R e w base ok (.slice A n c) xs) (hI : Cur w0 w g code B) (ht : e ≠ 78) : ∀ ad, A = some ad → 0 < n → ad.block ≠ g := by
  intro ad he hn hg
  obtain ⟨cs, hb⟩ := hI.blk
  subst he
  obtain ⟨e1, _, _⟩ := Kd.R_reads' h
  obtain ⟨b, cap, e2, _⟩ := Kd.R_form h (by omega)
  injection e2 with e2
  injection e2 with e2
  subst e2
  obtain ⟨cells, hc⟩ := R_block h hn
  rw [show b = g from hg, hb] at hc
  injection hc with h1
  injection h1 with _ h2
  exact ht h2.symm
theorem seed_bd (x : Int) : 0 ≤ Go.bits .and .u64 (IntKind.u64.wrap x / 1099511627776) 255 ∧ Go.bits .and .u64 (IntKind.u64.wrap x / 1099511627776) 255 ≤ 255 := by
  have hw : ∀ n : Int, 0 ≤ n → n < 2 ^ 64 → IntKind.u64.wrap n = n := fun n h1 h2 => by
    have e : IntKind.u64.wrap n = n % 18446744073709551616 := by simp [IntKind.wrap, IntKind.bits, IntKind.signed]
    rw [e]; omega
  have e : IntKind.u64.wrap x = x % 18446744073709551616 := by simp [IntKind.wrap, IntKind.bits, IntKind.signed]
  rw [e]
  obtain ⟨y, hy⟩ : ∃ y, y = x % 18446744073709551616 / 1099511627776 := ⟨_, rfl⟩
  have hb : 0 ≤ y ∧ y < 2 ^ 64 := by omega
  rw [← hy]
  have h := Go.bits_mask .u64 64 (by decide) hw 8 (by decide) y hb.1 hb.2
  have h2 : Go.bits .and .u64 y 255 = y % 256 := h
  rw [h2]; omega
theorem wrap_small (v : Int) (h : 0 ≤ v ∧ v ≤ 255) : IntKind.i64.wrap v = v := IntWalk.i64_in _ (by omega)
set_option maxHeartbeats 8000000 in
set_option maxRecDepth 100000 in
theorem next_c (g : Nat) (code : List Int) (B : Int) (w0 w : World) (hI : Cur w0 w g code B) (hB : Below w0.heap.size w0 w) (hb : B ≤ 1000000000000) :
    Calls Try.prog 75 #[.pointer (some ⟨g, 0, none⟩)] w fun e w' => ∃ v, e = .returned (.int .i64 v) ∧ (0 ≤ v ∧ v ≤ 255) ∧ Cur w0 w' g code (B + 1) ∧ Below w0.heap.size w0 w' ∧ KeepBut w w' g none := by
  obtain ⟨hge, hx, A, c, p, s, hg, hc, hp0, hp1⟩ := hI
  have BKg := am_ hg
  have GEg := am_ hge
  have HX := am_ hx
  have HC := am_ hc
  have HB := am_ hB
  have HK := am_ (KeepBut.refl w g none)
  have hbd : p ≤ 1000000000000 := by omega
  have HP := am_ (show p + 1 ≤ B + 1 from by omega)
  clear hg hge hx hc hB hp1
  by_cases cl : p < code.length
  · have c1 : decide (p < (code.length : Int)) = true := decide_eq_true cl
    have c2 : decide (p + 1 ≤ (code.length : Int)) = true := decide_eq_true (by omega)
    obtain ⟨ad, e1, hcx⟩ := Kd.at_int HC.out p hp0 cl
    cases e1
    replace hcx := HB.out.cell (World.block_lt_of_cell? w0 _ hcx) |>.trans hcx
    obtain ⟨x, hxe⟩ : ∃ x, x = rd code p := ⟨_, rfl⟩
    have hxb : 0 ≤ x ∧ x ≤ 255 := by
      rw [hxe, rd, List.getD_eq_getElem?_getD, List.getElem?_eq_getElem (by omega)]
      exact HX.out _ (List.getElem_mem _)
    rw [← hxe] at hcx
    have hwx := wrap_small x hxb
    have HXB := am_ hxb
    have p1 : (0 ≤ p) = True := eq_true hp0
    have p2 : (p < (code.length : Int)) = True := eq_true cl
    clear hxe hxb
    have yg_0 : w.cell? ⟨g, 0, none⟩ = some (.slice (some ad) code.length c) := (blk_cell BKg.out 0).trans rfl; have fg_0 := blk_frozen BKg.out 0; have yg_1 : w.cell? ⟨g, 1, none⟩ = some (.int .i64 p) := (blk_cell BKg.out 1).trans rfl; have fg_1 := blk_frozen BKg.out 1; have yg_2 : w.cell? ⟨g, 2, none⟩ = some (.int .u64 s) := (blk_cell BKg.out 2).trans rfl; have fg_2 := blk_frozen BKg.out 2
    go_enter Try.func75, Try.ntmps75
    go_wp2
    repeat (go_quiet (fail); try go_wp2)
    go_ret
    exact ⟨x, rfl, HXB.out, ⟨GEg.out, HX.out, some ad, c, p + 1, _, (by (with_reducible repeat first | refine kn_ ?_ _ | refine kd_ ?_ | refine ka_ ?_ _); refine blk_put (cs := #[.slice (some ad) code.length c, .int .i64 (p + 1), .int .u64 s]) ?_ 2 _ rfl; (with_reducible repeat first | refine kn_ ?_ _ | refine kd_ ?_ | refine ka_ ?_ _); refine blk_put (cs := #[.slice (some ad) code.length c, .int .i64 p, .int .u64 s]) ?_ 1 _ rfl; (with_reducible repeat first | refine kn_ ?_ _ | refine kd_ ?_ | refine ka_ ?_ _); exact BKg.out), HC.out, by omega, HP.out⟩, (by repeat first | (with_reducible first | exact HB.out | apply ba_ | apply bn_ | apply bd_ | refine below_set ?_ GEg.out) | exact HB.out), by repeat (first | (with_reducible first | exact HK.out | apply KeepBut.set_ | apply keep_drewN | apply keep_drew | apply keep_alloc) | exact HK.out)⟩
  · have c1 : decide (p < (code.length : Int)) = false := decide_eq_false cl
    have c2 : decide (p + 1 ≤ (code.length : Int)) = false := decide_eq_false (by omega)
    have yg_0 : w.cell? ⟨g, 0, none⟩ = some (.slice A code.length c) := (blk_cell BKg.out 0).trans rfl; have fg_0 := blk_frozen BKg.out 0; have yg_1 : w.cell? ⟨g, 1, none⟩ = some (.int .i64 p) := (blk_cell BKg.out 1).trans rfl; have fg_1 := blk_frozen BKg.out 1; have yg_2 : w.cell? ⟨g, 2, none⟩ = some (.int .u64 s) := (blk_cell BKg.out 2).trans rfl; have fg_2 := blk_frozen BKg.out 2
    go_enter Try.func75, Try.ntmps75
    go_wp2
    repeat (go_quiet (fail); try go_wp2)
    go_ret
    refine ⟨_, rfl, ?_, ⟨GEg.out, HX.out, A, c, p + 1, _, (by (with_reducible repeat first | refine kn_ ?_ _ | refine kd_ ?_ | refine ka_ ?_ _); refine blk_put (cs := #[.slice A code.length c, .int .i64 (p + 1), .int .u64 s]) ?_ 2 _ rfl; (with_reducible repeat first | refine kn_ ?_ _ | refine kd_ ?_ | refine ka_ ?_ _); refine blk_put (cs := #[.slice A code.length c, .int .i64 p, .int .u64 s]) ?_ 1 _ rfl; (with_reducible repeat first | refine kn_ ?_ _ | refine kd_ ?_ | refine ka_ ?_ _); exact BKg.out), HC.out, by omega, HP.out⟩, (by repeat first | (with_reducible first | exact HB.out | apply ba_ | apply bn_ | apply bd_ | refine below_set ?_ GEg.out) | exact HB.out), by repeat (first | (with_reducible first | exact HK.out | apply KeepBut.set_ | apply keep_drewN | apply keep_drew | apply keep_alloc) | exact HK.out)⟩
    have h := seed_bd (IntKind.u64.wrap (IntKind.u64.wrap (s * 6364136223846793005)) + 902902)
    rw [wrapId (by omega)]
    exact h
/-- A row of numbers, as it lies. -/
def numsA (ls : List Int) : Array Value := (ls.map (fun x => Value.int .i64 x)).toArray
theorem C_blk {w : World} {b : Nat} {ls : List Int} (h : w.heap[b]? = some (.cells (numsA ls) 3 (0, 0))) {j : Nat} (hj : j < ls.length) : w.cell? ⟨b, j, none⟩ = some (.int .i64 (ls.getD j 0)) := by
  refine (blk_cell h j).trans ?_
  rw [numsA, List.getElem?_toArray, List.getElem?_map, List.getD_eq_getElem?_getD, List.getElem?_eq_getElem hj]
  rfl
theorem blk_ne {w : World} {b g t t' : Nat} {cs cs' : Array Value} (h : w.heap[b]? = some (.cells cs t (0, 0))) (h' : w.heap[g]? = some (.cells cs' t' (0, 0))) (ht : t ≠ t') : b ≠ g := by
  rintro rfl
  rw [h] at h'
  injection h' with h'
  injection h' with _ h'
  exact ht h'
/-- What a draw leaves: the cursor, what lay before, and all but the cursor's block. -/
def Dr (w0 w w' : World) (g : Nat) (code : List Int) (B : Int) : Prop := Cur w0 w' g code B ∧ Below w0.heap.size w0 w' ∧ KeepBut w w' g none
theorem Dr.refl {w0 w : World} {g : Nat} {code : List Int} {B B' : Int} (h : Cur w0 w g code B) (hb : Below w0.heap.size w0 w) (hB : B ≤ B') : Dr w0 w w g code B' := ⟨h.step rfl hB, hb, KeepBut.refl w g none⟩
theorem Dr.trans {w0 w w1 w2 : World} {g : Nat} {code : List Int} {B B' : Int} (h : Dr w0 w w1 g code B) (k : Dr w0 w1 w2 g code B') : Dr w0 w w2 g code B' := ⟨k.1, k.2.1, h.2.2.trans k.2.2 (.inl rfl)⟩
theorem Dr.more {w0 w w1 : World} {g : Nat} {code : List Int} {B B' : Int} (h : Dr w0 w w1 g code B) (hB : B ≤ B') : Dr w0 w w1 g code B' := ⟨h.1.step rfl hB, h.2⟩
set_option maxHeartbeats 8000000 in
set_option maxRecDepth 100000 in
theorem pick_c (n : Int) (hn : n ≤ 200) (g : Nat) (code : List Int) (B : Int) (w0 w : World) (hI : Cur w0 w g code B) (hB : Below w0.heap.size w0 w) (hb : B ≤ 900000000000) :
    Calls Try.prog 65 #[.pointer (some ⟨g, 0, none⟩), .int .i64 n] w fun e w' => ∃ v, e = .returned (.int .i64 v) ∧ (0 ≤ v ∧ (1 ≤ n → v < n)) ∧ Dr w0 w w' g code (B + 1) := by
  by_cases h1 : n ≤ 1
  · have HD := am_ (Dr.refl hI hB (show B ≤ B + 1 by omega))
    have c1 : decide (n ≤ 1) = true := decide_eq_true h1
    clear hI hB
    go_enter Try.func65, Try.ntmps65
    go_wp2
    go_ret
    exact ⟨0, rfl, ⟨by omega, by omega⟩, HD.out⟩
  · have c1 : decide (n ≤ 1) = false := decide_eq_false h1
    have c2 : decide (200 < n) = false := decide_eq_false (by omega)
    have HN := am_ (next_c g code B w0 w hI hB (by omega))
    have hnz : ¬ n = 0 := by omega
    clear hI hB
    go_enter Try.func65, Try.ntmps65
    go_wp2_with fail
    refine HN.out.mono ?_
    rintro e w1 ⟨x, rfl, hx, hc, hb1, hk⟩
    have HD := am_ (show Dr w0 w w1 g code (B + 1) from ⟨hc, hb1, hk⟩)
    have hme : x.tmod n = x % n := Int.tmod_eq_emod_of_nonneg hx.1
    have hm : 0 ≤ x % n ∧ x % n < n := ⟨Int.emod_nonneg _ hnz, Int.emod_lt_of_pos _ (by omega)⟩
    have HM := am_ hm
    have hw : wrap64 (x % n) = x % n := wrapId (by omega)
    have x0 := hx.1
    clear hc hb1 hk hm
    go_wp2
    go_ret
    exact ⟨_, rfl, ⟨HM.out.1, fun _ => HM.out.2⟩, HD.out⟩
set_option maxHeartbeats 8000000 in
set_option maxRecDepth 100000 in
theorem among_c (ls : List Int) (b n cap : Nat) (hn : 1 ≤ n ∧ n ≤ ls.length ∧ n ≤ 200) (g : Nat) (code : List Int) (B : Int) (w0 w : World) (hI : Cur w0 w g code B) (hB : Below w0.heap.size w0 w) (hb : B ≤ 900000000000) (hl : w.heap[b]? = some (.cells (numsA ls) 3 (0, 0))) :
    Calls Try.prog 64 #[.pointer (some ⟨g, 0, none⟩), .slice (some ⟨b, 0, none⟩) n cap] w fun e w' => ∃ v, e = .returned (.int .i64 v) ∧ v ∈ ls ∧ Dr w0 w w' g code (B + 1) := by
  obtain ⟨cs, hcs⟩ := hI.blk
  have hne := blk_ne hl hcs (by decide)
  have HP := am_ (pick_c (n : Int) (by omega) g code B w0 w hI hB hb)
  have HL := am_ hl
  have n1 := hn.1
  have n2 := hn.2.1
  clear hcs hI hB hl hn
  go_enter Try.func64, Try.ntmps64
  go_wp2_with fail
  refine HP.out.mono ?_
  rintro e w1 ⟨v, rfl, ⟨v0, v1⟩, hd⟩
  have HD := am_ hd
  have v2 := v1 (by omega)
  obtain ⟨k, rfl⟩ : ∃ k : Nat, v = k := ⟨v.toNat, by omega⟩
  have hkn : k < ls.length := by omega
  have hy : w1.cell? ⟨b, k, none⟩ = some (.int .i64 (ls.getD k 0)) := C_blk (hd.2.2.blk HL.out hne (by simp)) hkn
  obtain ⟨x, hx⟩ : ∃ x, x = ls.getD k 0 := ⟨_, rfl⟩
  have HX := am_ (show x ∈ ls from by rw [hx, List.getD_eq_getElem?_getD, List.getElem?_eq_getElem hkn]; exact List.getElem_mem hkn)
  rw [← hx] at hy
  have tk : (k : Int).toNat = k := Int.toNat_natCast k
  clear hd hx v1 hkn
  go_wp2
  go_ret
  exact ⟨x, rfl, HX.out, HD.out⟩
theorem Dr.cur {w0 w w1 : World} {g : Nat} {code : List Int} {B : Int} (h : Dr w0 w w1 g code B) : Cur w0 w1 g code B := h.1
theorem Dr.below {w0 w w1 : World} {g : Nat} {code : List Int} {B : Int} (h : Dr w0 w w1 g code B) : Below w0.heap.size w0 w1 := h.2.1
theorem Dr.drew {w0 w w1 : World} {g : Nat} {code : List Int} {B : Int} (h : Dr w0 w w1 g code B) : Dr w0 w w1.drew g code B := ⟨h.1, below_drew1 h.2.1, keep_drew h.2.2⟩
theorem Dr.drewN {w0 w w1 : World} {g : Nat} {code : List Int} {B : Int} (h : Dr w0 w w1 g code B) (n : Nat) : Dr w0 w (w1.drewN n) g code B := ⟨h.1, pw_below_drewN h.2.1 n, keep_drewN h.2.2 n⟩
theorem Dr.alloc {w0 w w1 : World} {g : Nat} {code : List Int} {B : Int} (h : Dr w0 w w1 g code B) (o : Obj) : Dr w0 w (w1.alloc o) g code B := ⟨h.1.alloc o, below_alloc h.2.1 o, keep_alloc h.2.2 o⟩
/-- A row's block is none that lay in w. -/
def Late (w : World) (v : Value) : Prop := ∀ k, v.ownBlock = some k → w.heap.size ≤ k
theorem Late.lit {w w1 : World} {v : Value} (hs : w.heap.size ≤ w1.heap.size) (hn : ∃ b, v.ownBlock = some b ∧ w1.heap.size ≤ b) : Late w v := by
  obtain ⟨b, e, hb⟩ := hn
  intro k hk
  rw [e] at hk
  injection hk with hk
  omega
theorem Late.app {w w1 : World} {v v1 : Value} (h : Late w v) (hs : w.heap.size ≤ w1.heap.size) (hat : v1.ownBlock = v.ownBlock ∨ ∃ b, v1.ownBlock = some b ∧ w1.heap.size ≤ b) : Late w v1 := by
  rcases hat with e | hn
  · intro k hk; exact h k (e ▸ hk)
  · exact Late.lit hs hn
theorem Dr.grown {w0 w w1 w2 : World} {g : Nat} {code : List Int} {B : Int} {v : Value} (h : Dr w0 w w1 g code B) (hg : w1.grownBy w2 v.ownBlock) (hl : Late w v) (hb : Below w0.heap.size w0 w2) (hne : some g ≠ v.ownBlock) : Dr w0 w w2 g code B :=
  ⟨h.1.step (hg.block g h.1.lt hne) (Int.le_refl _), hb, ⟨Nat.le_trans h.2.2.1 hg.size, fun i hi hgi hr => (hg.block i (Nat.lt_of_lt_of_le hi h.2.2.1) (fun e => by have := hl i e.symm; omega)).trans (h.2.2.2 i hi hgi hr)⟩⟩
theorem Dr.lit {w0 w w1 w2 : World} {g : Nat} {code : List Int} {B : Int} (h : Dr w0 w w1 g code B) (hg : w1.grownBy w2 none) (hb : Below w0.heap.size w0 w2) : Dr w0 w w2 g code B :=
  ⟨h.1.step (hg.block g h.1.lt (by simp)) (Int.le_refl _), hb, ⟨Nat.le_trans h.2.2.1 hg.size, fun i hi hgi hr => (hg.block i (Nat.lt_of_lt_of_le hi h.2.2.1) (by simp)).trans (h.2.2.2 i hi hgi hr)⟩⟩
theorem Dr.size {w0 w w1 : World} {g : Nat} {code : List Int} {B : Int} (h : Dr w0 w w1 g code B) : w.heap.size ≤ w1.heap.size := h.2.2.1
/-- A row of one's own behind a draw. -/
theorem R_dr {α : Type} {d : Kd α} {e base : Nat} {w0 w w1 : World} {v : Value} {xs : List α} {g : Nat} {code : List Int} {B B' : Int} (hf : ∀ (w : World) (b : Nat) (p q : Nat → Prop) x cs, d.M w b p x cs → d.M w b q x cs) (h : d.R e w base (fun _ => True) v xs) (hI : Cur w0 w g code B) (ht : e ≠ 78) (hd : Dr w0 w w1 g code B') : d.R e w1 base (fun _ => True) v xs := R_draw hf h hI ht hd.2.2
theorem own_cur {α : Type} {d : Kd α} {e base : Nat} {ok : Nat → Prop} {w0 w : World} {v : Value} {xs : List α} {g : Nat} {code : List Int} {B : Int} (h : d.R e w base ok v xs) (hI : Cur w0 w g code B) (ht : e ≠ 78) : some g ≠ v.ownBlock := by
  obtain ⟨cs, hb⟩ := hI.blk
  exact own_ne h hb ht
def lenOfA : Value → Nat
  | .slice _ n _ => n
  | _ => 0
theorem flat_Asset (w : World) (b : Nat) (p q : Nat → Prop) (x : S51) (cs : List Value) (h : k51.M w b p x cs) : k51.M w b q x cs := by
  obtain rfl := k51_openM h
  exact k51_mkM w b q x

theorem infoA : (Try.prog.info? 51).map (fun i => (i.zero, i.size, i.bytes)) = some (some (.agg #[(.int .i64 0), (.int .i64 0), (.int .i64 0)]), 3, 24) := by kernel_rfl
set_option maxHeartbeats 16000000 in
set_option maxRecDepth 100000 in
theorem assets_c (most : Int) (hmost : 0 ≤ most ∧ most ≤ 10) (g : Nat) (code : List Int) (B : Int) (w wa : World) (hI : Cur w wa g code B) (hB : Below w.heap.size w wa) (hb : B ≤ 800000000000) :
    Calls Try.prog 63 #[.pointer (some ⟨g, 0, none⟩), .int .i64 most] wa fun e w' => ∃ v xs, e = .returned v ∧ Kd.R k51 51 w' w.heap.size (fun _ => True) v xs ∧ xs.length ≤ 100 ∧ Dr w wa w' g code (B + 1000) := by
  have HD := am_ (Dr.refl hI hB (Int.le_refl B))
  have HB := am_ hB
  obtain ⟨m0, m1⟩ := hmost
  clear hI hB
  go_enter Try.func63, Try.ntmps63
  go_wp2_with (((with_reducible refine gate_dst (N := 7) rfl ?_); refine Kd.R_lit k51 w.heap.size 51 (w0 := w) ?hg (N := 7) ?hd (xs := []) (inner := []) (ok := fun _ => True) (okp := fun _ => True) ?hr ?hp (fun _ hk => hk) trivial (by repeat first | (with_reducible first | exact HB.out | apply ba_ | apply bn_ | apply bd_) | exact HB.out) (below_size (by repeat first | (with_reducible first | exact HB.out | apply ba_ | apply bn_ | apply bd_) | exact HB.out)) (by simp) ?_; (case hd => rfl); (case hg => rfl); (case hr => first | (go_simp; done) | (go_simp; rfl)); (case hp => exact (Reps.none _ _)); intro v1 w1 ho hb hgr hnw); have HO := am_ ho; have HL := am_ (Late.lit HD.out.size hnw); have n_ := am_ (HD.out.lit hgr hb); clear HB HD; have HD := n_; have HB := am_ hb; clear n_ ho hb hgr hnw)
  refine (pick_c (most + 1) (by first | decide | omega) g code _ w _ HD.out.cur HB.out (by omega)).mono ?_
  rintro e w2_ ⟨n, rfl, ⟨n0, n1⟩, hd⟩
  have n_HO := am_ (R_dr flat_Asset HO.out HD.out.cur (by decide) hd)
  have k_ := am_ (HD.out.trans hd)
  clear HD HB hd HO
  have HO := n_HO
  clear n_HO
  have HD := k_
  clear k_
  have HB := am_ HD.out.below
  have n7 := n1 (by omega)
  clear n1
  go_wp2_with fail
  go_loopw [5, 6] (fun v5 v6 wr => ∃ (n : Int) (out : List S51), v6 = .int .i64 n ∧ Aside0 (0 ≤ n ∧ n ≤ 10) ∧ Aside0 ((out.length : Int) + n ≤ 10) ∧ Aside0 (Kd.R k51 51 wr w.heap.size (fun _ => True) v5 out) ∧ Aside0 (Late wa v5) ∧ Aside0 (Dr w wa wr g code (B + 50 - 3 * n))) (fun _ v6 _ => (intOf v6).toNat)
  case atStart => exact ⟨n, [], rfl, ⟨by omega⟩, ⟨by simp; omega⟩, ⟨(by (with_reducible repeat first | apply ra_ | apply rn_ | apply rd_); exact HO.out)⟩, HL, ⟨HD.out.more (by omega)⟩⟩
  case round =>
    clear HO HL HD HB n0 n7
    obtain ⟨n, out, rfl, HN, HLN, HO, HL, HD⟩ := hrel
    have HB := am_ HD.out.below
    have n0 := HN.out.1
    have n7 := HN.out.2
    have hol := HLN.out
    by_cases hn : 0 < n
    · have c1 : decide (0 < n) = true := decide_eq_true hn
      go_wp2_with fail
      refine (pick_c 4 (by first | decide | omega) g code _ w _ HD.out.cur HB.out (by omega)).mono ?_
      rintro e w2_ ⟨x0, rfl, ⟨x00, x01⟩, hd⟩
      have n_HO := am_ (R_dr flat_Asset HO.out HD.out.cur (by decide) hd)
      have k_ := am_ (HD.out.trans hd)
      clear HD HB hd HO
      have HO := n_HO
      clear n_HO
      have HD := k_
      clear k_
      have HB := am_ HD.out.below
      have x0b := x01 (by decide)
      clear x01
      go_wp2_with fail
      refine (among_c [0, 1, 50, 100, 100, 333, 12345, 1000000] _ 8 8 (by decide) g code _ w _ (HD.out.alloc _).cur (ba_ HB.out _) (by omega) (blk_new _ _)).mono ?_
      rintro e w2_ ⟨x1, rfl, hx1_, hd⟩
      clear hx1_
      have n_HO := am_ (R_dr flat_Asset (Kd.R_alloc HO.out _) (HD.out.alloc _).cur (by decide) hd)
      have k_ := am_ ((HD.out.alloc _).trans hd)
      clear HD HB hd HO
      have HO := n_HO
      clear n_HO
      have HD := k_
      clear k_
      have HB := am_ HD.out.below
      go_wp2_with fail
      refine (among_c [0, 0, 20, 150, 500, 1000, 7] _ 7 7 (by decide) g code _ w _ (HD.out.alloc _).cur (ba_ HB.out _) (by omega) (blk_new _ _)).mono ?_
      rintro e w2_ ⟨x2, rfl, hx2_, hd⟩
      clear hx2_
      have n_HO := am_ (R_dr flat_Asset (Kd.R_alloc HO.out _) (HD.out.alloc _).cur (by decide) hd)
      have k_ := am_ ((HD.out.alloc _).trans hd)
      clear HD HB hd HO
      have HO := n_HO
      clear n_HO
      have HD := k_
      clear k_
      have HB := am_ HD.out.below
      go_wp2_with (((with_reducible refine gate_builtin (b := .append) (xs := #[.tmp 16, .tmp 26]) rfl ?_); at_builtin; refine Kd.R_append k51 (w0 := w) w.heap.size rfl (.tmp 16) (.tmp 26) 32 51 (.agg #[(.int .i64 0), (.int .i64 0), (.int .i64 0)]) 24 rfl Try.underlying32 infoA rfl (by decide) (by omega) u5 out (⟨x0, x1, x2⟩ : S51) [.int .i64 x0, .int .i64 x1, .int .i64 x2] (fun _ => True) (fun _ => False) rfl rfl ?aP (fun _ hk => hk.elim) ?aF ?aO ?aB ?aS ?aL ?_; (case aP => exact k51_mkM _ _ _ _); (case aB => exact (by repeat first | (with_reducible first | exact HB.out | apply ba_ | apply bn_ | apply bd_) | exact HB.out)); (case aF => exact (fun _ _ => trivial)); (case aO => exact (by (with_reducible repeat first | apply ra_ | apply rn_ | apply rd_); exact HO.out)); (case aS => exact (below_size (by repeat first | (with_reducible first | exact HB.out | apply ba_ | apply bn_ | apply bd_) | exact HB.out))); (case aL => omega); intro v1 w1 ho hb hg hat); have n_ := am_ ho; have l_ := am_ (HL.out.app HD.out.size hat); have k_ := am_ (HD.out.grown hg HL.out hb (own_cur HO.out HD.out.cur (by decide))); clear HO HL HD HB; have HO := n_; have HL := l_; have HD := k_; have HB := am_ hb; clear n_ l_ k_ ho hb hg hat)
      go_roundw
      case rel => exact ⟨n - 1, out ++ [⟨x0, x1, x2⟩], by go_num, ⟨by omega⟩, ⟨by rw [List.length_append, List.length_singleton]; push_cast; omega⟩, ⟨(by (with_reducible repeat first | apply ra_ | apply rn_ | apply rd_); exact HO.out)⟩, HL, ⟨HD.out.more (by omega)⟩⟩
      case measure => simp [intOf]; omega
    · have c1 : decide (0 < n) = false := decide_eq_false hn
      have HOL := am_ (show out.length ≤ 10 from by omega)
      go_wp2_with fail
      refine (pick_c 40 (by first | decide | omega) g code _ w _ HD.out.cur HB.out (by omega)).mono ?_
      rintro e w2_ ⟨v, rfl, ⟨v0, v1⟩, hd⟩
      have n_HO := am_ (R_dr flat_Asset HO.out HD.out.cur (by decide) hd)
      have k_ := am_ (HD.out.trans hd)
      clear HD HB hd HO
      have HO := n_HO
      clear n_HO
      have HD := k_
      clear k_
      have HB := am_ HD.out.below
      have v2 := v1 (by decide)
      clear v1
      have hol2 := HOL.out
      by_cases e0 : v = 0
      · subst e0
        go_wp2_with fail
        refine (among_c [-1, 10, 9] _ 3 3 (by decide) g code _ w _ (HD.out.alloc _).cur (ba_ HB.out _) (by omega) (blk_new _ _)).mono ?_
        rintro e w2_ ⟨x1, rfl, hx1_, hd⟩
        clear hx1_
        have n_HO := am_ (R_dr flat_Asset (Kd.R_alloc HO.out _) (HD.out.alloc _).cur (by decide) hd)
        have k_ := am_ ((HD.out.alloc _).trans hd)
        clear HD HB hd HO
        have HO := n_HO
        clear n_HO
        have HD := k_
        clear k_
        have HB := am_ HD.out.below
        go_wp2_with (((with_reducible refine gate_builtin (b := .append) (xs := #[.tmp 32, .tmp 37]) rfl ?_); at_builtin; refine Kd.R_append k51 (w0 := w) w.heap.size rfl (.tmp 32) (.tmp 37) 32 51 (.agg #[(.int .i64 0), (.int .i64 0), (.int .i64 0)]) 24 rfl Try.underlying32 infoA rfl (by decide) (by omega) u5 out (⟨x1, 1, 0⟩ : S51) [.int .i64 x1, .int .i64 1, .int .i64 0] (fun _ => True) (fun _ => False) rfl rfl ?aP (fun _ hk => hk.elim) ?aF ?aO ?aB ?aS ?aL ?_; (case aP => exact k51_mkM _ _ _ _); (case aB => exact (by repeat first | (with_reducible first | exact HB.out | apply ba_ | apply bn_ | apply bd_) | exact HB.out)); (case aF => exact (fun _ _ => trivial)); (case aO => exact (by (with_reducible repeat first | apply ra_ | apply rn_ | apply rd_); exact HO.out)); (case aS => exact (below_size (by repeat first | (with_reducible first | exact HB.out | apply ba_ | apply bn_ | apply bd_) | exact HB.out))); (case aL => omega); intro v1 w1 ho hb hg hat); have n_ := am_ ho; have l_ := am_ (HL.out.app HD.out.size hat); have k_ := am_ (HD.out.grown hg HL.out hb (own_cur HO.out HD.out.cur (by decide))); clear HO HL HD HB; have HO := n_; have HL := l_; have HD := k_; have HB := am_ hb; clear n_ l_ k_ ho hb hg hat)
        go_ret
        exact ⟨_, _, rfl, (by (with_reducible repeat first | apply ra_ | apply rn_ | apply rd_); exact HO.out), by simp; omega, HD.out.more (by omega)⟩
      · by_cases e1 : v = 1
        · subst e1
          go_wp2_with fail
          refine (among_c [-1, 1000000000, 1000000001] _ 3 3 (by decide) g code _ w _ (HD.out.alloc _).cur (ba_ HB.out _) (by omega) (blk_new _ _)).mono ?_
          rintro e w2_ ⟨x1, rfl, hx1_, hd⟩
          clear hx1_
          have n_HO := am_ (R_dr flat_Asset (Kd.R_alloc HO.out _) (HD.out.alloc _).cur (by decide) hd)
          have k_ := am_ ((HD.out.alloc _).trans hd)
          clear HD HB hd HO
          have HO := n_HO
          clear n_HO
          have HD := k_
          clear k_
          have HB := am_ HD.out.below
          go_wp2_with (((with_reducible refine gate_builtin (b := .append) (xs := #[.tmp 41, .tmp 46]) rfl ?_); at_builtin; refine Kd.R_append k51 (w0 := w) w.heap.size rfl (.tmp 41) (.tmp 46) 32 51 (.agg #[(.int .i64 0), (.int .i64 0), (.int .i64 0)]) 24 rfl Try.underlying32 infoA rfl (by decide) (by omega) u5 out (⟨0, x1, 0⟩ : S51) [.int .i64 0, .int .i64 x1, .int .i64 0] (fun _ => True) (fun _ => False) rfl rfl ?aP (fun _ hk => hk.elim) ?aF ?aO ?aB ?aS ?aL ?_; (case aP => exact k51_mkM _ _ _ _); (case aB => exact (by repeat first | (with_reducible first | exact HB.out | apply ba_ | apply bn_ | apply bd_) | exact HB.out)); (case aF => exact (fun _ _ => trivial)); (case aO => exact (by (with_reducible repeat first | apply ra_ | apply rn_ | apply rd_); exact HO.out)); (case aS => exact (below_size (by repeat first | (with_reducible first | exact HB.out | apply ba_ | apply bn_ | apply bd_) | exact HB.out))); (case aL => omega); intro v1 w1 ho hb hg hat); have n_ := am_ ho; have l_ := am_ (HL.out.app HD.out.size hat); have k_ := am_ (HD.out.grown hg HL.out hb (own_cur HO.out HD.out.cur (by decide))); clear HO HL HD HB; have HO := n_; have HL := l_; have HD := k_; have HB := am_ hb; clear n_ l_ k_ ho hb hg hat)
          go_ret
          exact ⟨_, _, rfl, (by (with_reducible repeat first | apply ra_ | apply rn_ | apply rd_); exact HO.out), by simp; omega, HD.out.more (by omega)⟩
        · by_cases e2 : v = 2
          · subst e2
            go_wp2_with fail
            refine (among_c [-1, 1001] _ 2 2 (by decide) g code _ w _ (HD.out.alloc _).cur (ba_ HB.out _) (by omega) (blk_new _ _)).mono ?_
            rintro e w2_ ⟨x1, rfl, hx1_, hd⟩
            clear hx1_
            have n_HO := am_ (R_dr flat_Asset (Kd.R_alloc HO.out _) (HD.out.alloc _).cur (by decide) hd)
            have k_ := am_ ((HD.out.alloc _).trans hd)
            clear HD HB hd HO
            have HO := n_HO
            clear n_HO
            have HD := k_
            clear k_
            have HB := am_ HD.out.below
            go_wp2_with (((with_reducible refine gate_builtin (b := .append) (xs := #[.tmp 50, .tmp 55]) rfl ?_); at_builtin; refine Kd.R_append k51 (w0 := w) w.heap.size rfl (.tmp 50) (.tmp 55) 32 51 (.agg #[(.int .i64 0), (.int .i64 0), (.int .i64 0)]) 24 rfl Try.underlying32 infoA rfl (by decide) (by omega) u5 out (⟨0, 0, x1⟩ : S51) [.int .i64 0, .int .i64 0, .int .i64 x1] (fun _ => True) (fun _ => False) rfl rfl ?aP (fun _ hk => hk.elim) ?aF ?aO ?aB ?aS ?aL ?_; (case aP => exact k51_mkM _ _ _ _); (case aB => exact (by repeat first | (with_reducible first | exact HB.out | apply ba_ | apply bn_ | apply bd_) | exact HB.out)); (case aF => exact (fun _ _ => trivial)); (case aO => exact (by (with_reducible repeat first | apply ra_ | apply rn_ | apply rd_); exact HO.out)); (case aS => exact (below_size (by repeat first | (with_reducible first | exact HB.out | apply ba_ | apply bn_ | apply bd_) | exact HB.out))); (case aL => omega); intro v1 w1 ho hb hg hat); have n_ := am_ ho; have l_ := am_ (HL.out.app HD.out.size hat); have k_ := am_ (HD.out.grown hg HL.out hb (own_cur HO.out HD.out.cur (by decide))); clear HO HL HD HB; have HO := n_; have HL := l_; have HD := k_; have HB := am_ hb; clear n_ l_ k_ ho hb hg hat)
            go_ret
            exact ⟨_, _, rfl, (by (with_reducible repeat first | apply ra_ | apply rn_ | apply rd_); exact HO.out), by simp; omega, HD.out.more (by omega)⟩
          · have q0 : (v == 0) = false := by simp [e0]
            have q1 : (v == 1) = false := by simp [e1]
            have q2 : (v == 2) = false := by simp [e2]
            by_cases e3 : v = 3
            · subst e3
              clear q0 q1 q2 e0 e1 e2 HLN hol
              go_wp2_with fail
              go_loopw [5] (fun v5 wr => ∃ (out : List S51), Aside0 (out.length ≤ 21) ∧ Aside0 (Kd.R k51 51 wr w.heap.size (fun _ => True) v5 out) ∧ Aside0 (Late wa v5) ∧ Aside0 (Dr w wa wr g code (B + 100 + out.length))) (fun v5 _ => 22 - lenOfA v5)
              case atStart => exact ⟨out, ⟨by omega⟩, ⟨(by (with_reducible repeat first | apply ra_ | apply rn_ | apply rd_); exact HO.out)⟩, HL, ⟨HD.out.more (by omega)⟩⟩
              case round =>
                clear HO HL HD HB hol2 HOL
                obtain ⟨out, HLN, HO, HL, HD⟩ := hrel
                have HB := am_ HD.out.below
                obtain ⟨A3, c3, e3⟩ := Kd.R_slice HO.out
                subst e3
                have hol := HLN.out
                go_wp2_with fail
                refine (pick_c 2 (by first | decide | omega) g code _ w _ HD.out.cur HB.out (by omega)).mono ?_
                rintro e w2_ ⟨p, rfl, ⟨p0, p1⟩, hd⟩
                have n_HO := am_ (R_dr flat_Asset HO.out HD.out.cur (by decide) hd)
                have k_ := am_ (HD.out.trans hd)
                clear HD HB hd HO
                have HO := n_HO
                clear n_HO
                have HD := k_
                clear k_
                have HB := am_ HD.out.below
                have p2 := p1 (by decide)
                clear p1
                by_cases hp : (out.length : Int) < 20 + p
                · have d1 : decide ((out.length : Int) < 20 + p) = true := decide_eq_true hp
                  go_wp2_with (((with_reducible refine gate_builtin (b := .append) (xs := #[.tmp 65, .tmp 67]) rfl ?_); at_builtin; refine Kd.R_append k51 (w0 := w) w.heap.size rfl (.tmp 65) (.tmp 67) 32 51 (.agg #[(.int .i64 0), (.int .i64 0), (.int .i64 0)]) 24 rfl Try.underlying32 infoA rfl (by decide) (by omega) (.slice A3 out.length c3) out (⟨0, 7, 0⟩ : S51) [.int .i64 0, .int .i64 7, .int .i64 0] (fun _ => True) (fun _ => False) rfl rfl ?aP (fun _ hk => hk.elim) ?aF ?aO ?aB ?aS ?aL ?_; (case aP => exact k51_mkM _ _ _ _); (case aB => exact (by repeat first | (with_reducible first | exact HB.out | apply ba_ | apply bn_ | apply bd_) | exact HB.out)); (case aF => exact (fun _ _ => trivial)); (case aO => exact (by (with_reducible repeat first | apply ra_ | apply rn_ | apply rd_); exact HO.out)); (case aS => exact (below_size (by repeat first | (with_reducible first | exact HB.out | apply ba_ | apply bn_ | apply bd_) | exact HB.out))); (case aL => omega); intro v1 w1 ho hb hg hat); have n_ := am_ ho; have l_ := am_ (HL.out.app HD.out.size hat); have k_ := am_ (HD.out.grown hg HL.out hb (own_cur HO.out HD.out.cur (by decide))); clear HO HL HD HB; have HO := n_; have HL := l_; have HD := k_; have HB := am_ hb; clear n_ l_ k_ ho hb hg hat)
                  obtain ⟨A4, c4, e4⟩ := Kd.R_slice HO.out
                  go_roundw
                  case rel => exact ⟨out ++ [⟨0, 7, 0⟩], ⟨by simp; omega⟩, ⟨(by (with_reducible repeat first | apply ra_ | apply rn_ | apply rd_); exact HO.out)⟩, HL, ⟨HD.out.more (by simp; omega)⟩⟩
                  case measure => rw [e4]; simp [lenOfA]; omega
                · have d1 : decide ((out.length : Int) < 20 + p) = false := decide_eq_false hp
                  go_wp2
                  go_ret
                  exact ⟨_, out, rfl, (by (with_reducible repeat first | apply ra_ | apply rn_ | apply rd_); exact HO.out), by omega, HD.out.more (by omega)⟩
            · have q3 : (v == 3) = false := by simp [e3]
              have z0 : decide (v = 0) = false := decide_eq_false e0
              have z1 : decide (v = 1) = false := decide_eq_false e1
              have z2 : decide (v = 2) = false := decide_eq_false e2
              have z3 : decide (v = 3) = false := decide_eq_false e3
              go_wp2
              go_ret
              exact ⟨_, out, rfl, (by (with_reducible repeat first | apply ra_ | apply rn_ | apply rd_); exact HO.out), by omega, HD.out.more (by omega)⟩
set_option maxHeartbeats 16000000 in
set_option maxRecDepth 100000 in
theorem drawConc_c (A : Option Addr) (c : Nat) (code : List Int) (w : World) (hr : (Kd.int .u8).C w A code.length code) (hx : ∀ x ∈ code, 0 ≤ x ∧ x ≤ 255) :
    Calls Try.prog 31 #[.slice A code.length c] w fun e w' => ∃ v lim, e = .returned (.tuple #[v, .int .i64 lim]) ∧ ∃ xs, Kd.R k51 51 w' w.heap.size (fun _ => True) v xs ∧ xs.length ≤ 100 ∧ Below w.heap.size w w' := by
  have HC := am_ (fun hb => Cur.new (w0 := w) (w := w) (c := c) hb hr hx)
  clear hr hx
  go_enter Try.func31, Try.ntmps31
  go_wp2_with fail
  have HC1 := am_ (HC.out (Below.refl _ _))
  have HB1 := am_ (ba_ (Below.refl w.heap.size w) (.cells #[.slice A code.length c, .int .i64 0, .int .u64 0] 78))
  clear HC
  obtain ⟨wa, hwa⟩ : ∃ W, W = w.alloc (.cells #[.slice A code.length c, .int .i64 0, .int .u64 0] 78) := ⟨_, rfl⟩
  rw [← hwa] at HC1 HB1 ⊢
  clear hwa
  generalize w.heap.size = g at HC1 ⊢
  refine (assets_c 8 (by decide) g code 0 w _ HC1.out HB1.out (by omega)).mono ?_
  rintro e w2 ⟨v5, xs, rfl, ho, hl, hd⟩
  have HO := am_ ho
  have HXL := am_ hl
  have HD := am_ hd
  have HB := am_ hd.below
  clear ho hl hd HC1 HB1
  go_wp2_with fail
  refine (pick_c 24 (by decide) g code _ w _ (HD.out.alloc _).cur (ba_ HB.out _) (by omega)).mono ?_
  rintro e w3 ⟨v, rfl, ⟨v0, v1⟩, hd⟩
  have HBK := am_ (hd.2.2.blk (g' := w2.heap.size) (o := .cells (numsA [0, 100, 250, 500, 1000, 333, -1, 1001]) 3 (0, 0)) (blk_new w2 _) (Nat.ne_of_gt (Cur.lt HD.out.cur)) (by simp))
  have v2 := v1 (by decide)
  clear v1
  have n_ := am_ (R_dr flat_Asset (by (with_reducible repeat first | apply ra_ | apply rn_ | apply rd_); exact HO.out) (Dr.cur (by repeat first | exact HD.out | apply Dr.alloc | apply Dr.drewN | apply Dr.drew)) (by decide) hd)
  clear HO
  have HO := n_
  clear n_
  have k_ := am_ (Dr.trans (by repeat first | exact HD.out | apply Dr.alloc | apply Dr.drewN | apply Dr.drew) hd)
  clear hd HD HB
  have HD := k_
  clear k_
  have HB := am_ HD.out.below
  generalize w2.heap.size = b at HBK ⊢
  by_cases c0 : v < 12
  · have q1 : v.tdiv 12 = 0 := by rw [Int.tdiv_eq_ediv_of_nonneg v0]; omega
    have q2 : v / 12 = 0 := by omega
    go_wp2_with fail
    refine (among_c [0, 100, 250, 500, 1000, 333, -1, 1001] b 6 8 (by decide) g code _ w _ HD.out.cur HB.out (by omega) HBK.out).mono ?_
    rintro e w4 ⟨x, rfl, _, hd⟩
    clear q1 q2 v0 v2
    have n_ := am_ (R_dr flat_Asset (by (with_reducible repeat first | apply ra_ | apply rn_ | apply rd_); exact HO.out) (Dr.cur (by repeat first | exact HD.out | apply Dr.alloc | apply Dr.drewN | apply Dr.drew)) (by decide) hd)
    clear HO
    have HO := n_
    clear n_
    have k_ := am_ (Dr.trans (by repeat first | exact HD.out | apply Dr.alloc | apply Dr.drewN | apply Dr.drew) hd)
    clear hd HD HB
    have HD := k_
    clear k_
    have HB := am_ HD.out.below
    clear HBK
    go_wp2
    go_ret2
    exact ⟨v5, x, rfl, xs, (by (with_reducible repeat first | apply ra_ | apply rn_ | apply rd_); exact HO.out), HXL.out, (by repeat first | (with_reducible first | exact HB.out | apply ba_ | apply bn_ | apply bd_) | exact HB.out)⟩
  · have q1 : v.tdiv 12 = 1 := by rw [Int.tdiv_eq_ediv_of_nonneg v0]; omega
    have q2 : v / 12 = 1 := by omega
    go_wp2_with fail
    refine (among_c [0, 100, 250, 500, 1000, 333, -1, 1001] b 7 8 (by decide) g code _ w _ HD.out.cur HB.out (by omega) HBK.out).mono ?_
    rintro e w4 ⟨x, rfl, _, hd⟩
    clear q1 q2 v0 v2
    have n_ := am_ (R_dr flat_Asset (by (with_reducible repeat first | apply ra_ | apply rn_ | apply rd_); exact HO.out) (Dr.cur (by repeat first | exact HD.out | apply Dr.alloc | apply Dr.drewN | apply Dr.drew)) (by decide) hd)
    clear HO
    have HO := n_
    clear n_
    have k_ := am_ (Dr.trans (by repeat first | exact HD.out | apply Dr.alloc | apply Dr.drewN | apply Dr.drew) hd)
    clear hd HD HB
    have HD := k_
    clear k_
    have HB := am_ HD.out.below
    clear HBK
    go_wp2
    go_ret2
    exact ⟨v5, x, rfl, xs, (by (with_reducible repeat first | apply ra_ | apply rn_ | apply rd_); exact HO.out), HXL.out, (by repeat first | (with_reducible first | exact HB.out | apply ba_ | apply bn_ | apply bd_) | exact HB.out)⟩
end Go.Proofs.Ytiaakolalhdelaa.O
