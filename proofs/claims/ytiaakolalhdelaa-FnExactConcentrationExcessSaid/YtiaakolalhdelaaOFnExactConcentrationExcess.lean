/- The program's ConcentrationExcess, and the reference's, answer as one plain function does. No other condition. -/
import Derived.Test.YtiaakolalhdelaaPureFnExactConcentrationExcess
import Derived.Test.YtiaakolalhdelaaOFnExactConcentrationExcessa
import Derived.Test.YtiaakolalhdelaaOFnExactConcentrationExcessb
namespace Go.Proofs.Ytiaakolalhdelaa.O
open Go.RowKit Go.Proofs.YtiaakolalhdelaaW.PrintWords Go.Proofs.YtiaakolalhdelaaW.PrintLast Go.Proofs.YtiaakolalhdelaaW.PrintMore Go.Proofs.Ytiaakolalhdelaa.PL17C Go.Proofs.Ytiaakolalhdelaa.EvKit Go.Proofs.Ytiaakolalhdelaa.Pure
set_option linter.unusedVariables false
set_option linter.unusedSimpArgs false
attribute [local go_sem] max2_int min2_int max_two min_two max_three min_three max_four min_four
set_option maxHeartbeats 16000000 in
set_option maxRecDepth 100000 in
theorem concI_c (A0 : Option Addr) (c0 : Nat) (xs : List S51) (lim : Int) (w : World) (hr0 : Kd.C k51 w A0 xs.length xs) (hc0 : xs.length ≤ c0) (hn : xs.length ≤ 1048576) :
    Calls Try.prog 32 #[.slice A0 xs.length c0, .int .i64 lim] w fun e w' => ∃ v, e = .returned (.tuple #[v, .bool (excessA xs lim).2]) ∧ (Kd.int .i64).R 3 w' w.heap.size (fun _ => True) v (excessA xs lim).1 ∧ Below w.heap.size w w' := by
  have HB := am_ (Below.refl w.heap.size w)
  have HR0 := am_ hr0
  have HC0 := am_ hc0
  obtain ⟨kv, hv⟩ := roundsOf (implValid_ev xs hn)
  have hw := within_eq lim 0 1000
  clear hr0 hc0
  by_cases g : goodA xs = true
  rotate_left
  · rw [show goodA xs = false from by simpa using g] at hv
    have HV := am_ hv
    have HNO := am_ (excess_no (l := lim) (fun q => g q.1))
    clear hv hw g
    go_enter Try.func32, Try.ntmps32
    go_wp2_with fail
    refine (impl_IsValidAssets.calls kv A0 c0 xs false _ (by repeat first | exact (Kd.C_below HR0.out HB.out) | with_reducible refine ca_ ?_ _ | with_reducible refine cn_ ?_ _ | with_reducible refine cd_ ?_) HC0.out HV.out).mono ?_
    rintro e w1 ⟨rfl, hb⟩
    replace HB := am_ (below_step (by repeat first | (with_reducible first | exact HB.out | apply ba_ | apply bn_ | apply bd_) | exact HB.out) hb); clear hb
    go_wp2
    go_ret2
    exact ⟨_, by rw [HNO.out]; rfl, by rw [HNO.out]; exact Kd.R_nil _ _ _ _ _, (by repeat first | (with_reducible first | exact HB.out | apply ba_ | apply bn_ | apply bd_) | exact HB.out)⟩
  rw [g] at hv
  have HV := am_ hv
  by_cases hl : 0 ≤ lim ∧ lim ≤ 1000
  rotate_left
  · rw [decide_eq_false hl] at hw
    have HW := am_ hw
    have HNO := am_ (excess_no (xs := xs) (l := lim) (fun q => hl q.2))
    clear hv hw g hl
    go_enter Try.func32, Try.ntmps32
    go_wp2_with fail
    refine (impl_IsValidAssets.calls kv A0 c0 xs true _ (by repeat first | exact (Kd.C_below HR0.out HB.out) | with_reducible refine ca_ ?_ _ | with_reducible refine cn_ ?_ _ | with_reducible refine cd_ ?_) HC0.out HV.out).mono ?_
    rintro e w1 ⟨rfl, hb⟩
    replace HB := am_ (below_step (by repeat first | (with_reducible first | exact HB.out | apply ba_ | apply bn_ | apply bd_) | exact HB.out) hb); clear hb
    go_wp2_with fail
    refine (impl_within.calls lim 0 1000 false _ HW.out).mono ?_
    rintro e w2 ⟨rfl, ⟨q2, rfl⟩⟩
    go_wp2
    go_ret2
    exact ⟨_, by rw [HNO.out]; rfl, by rw [HNO.out]; exact Kd.R_nil _ _ _ _ _, (by repeat first | (with_reducible first | exact HB.out | apply ba_ | apply bn_ | apply bd_) | exact HB.out)⟩
  rw [decide_eq_true hl] at hw
  have HW := am_ hw
  obtain ⟨OUT, AL, hO, hAL, hex, hlen, hox, hsum, ⟨s0, s1⟩, ⟨m0, m1⟩, ⟨al0, al1⟩⟩ := excess_yes g hl
  obtain ⟨S, hS⟩ : ∃ S, S = sumA xs := ⟨_, rfl⟩
  rw [← hS] at hAL hsum s0 s1 m0 m1
  have HEX := am_ hex
  have HOX := am_ hox
  have HFO := am_ hO
  have HS := am_ hS
  have HAL := am_ hAL
  have HOL := am_ hlen
  have HOK := am_ (of_decide_eq_true g).1
  have HLN := am_ (of_decide_eq_true g).2.1
  have HSUM := am_ hsum
  have hn20 := (of_decide_eq_true g).2.1
  clear hv hw g hex hox hO hS hlen hsum
  go_enter Try.func32, Try.ntmps32
  go_wp2_with fail
  refine (impl_IsValidAssets.calls kv A0 c0 xs true _ (by repeat first | exact (Kd.C_below HR0.out HB.out) | with_reducible refine ca_ ?_ _ | with_reducible refine cn_ ?_ _ | with_reducible refine cd_ ?_) HC0.out HV.out).mono ?_
  rintro e w1 ⟨rfl, hb⟩
  replace HB := am_ (below_step (by repeat first | (with_reducible first | exact HB.out | apply ba_ | apply bn_ | apply bd_) | exact HB.out) hb); clear hb
  go_wp2_with fail
  refine (impl_within.calls lim 0 1000 true _ HW.out).mono ?_
  rintro e w2 ⟨rfl, ⟨q2, rfl⟩⟩
  go_wp2_with ((with_reducible refine gate_dst (N := 19) rfl ?_); refine Kd.R_make (Kd.int .i64) w.heap.size 3 rfl (N := 19) rfl 39 _ _ rfl (10 : Int) rfl rfl Try.underlying39 (.int .i64 0) 8 infoI rfl (by decide) (by omega) 0 (ok := fun _ => True) (okp := fun _ => True) rfl (fun _ hk => hk) trivial (by omega) (by omega) (by repeat first | (with_reducible first | exact HB.out | apply ba_ | apply bn_ | apply bd_) | exact HB.out) (below_size (by repeat first | (with_reducible first | exact HB.out | apply ba_ | apply bn_ | apply bd_) | exact HB.out)) ?_; intro v1 w1 ho hb _ _)
  obtain ⟨g, cap, hv, hg1, hg2, cells, hg3⟩ := Kd.R_form ho (by decide)
  obtain rfl : v1 = .slice (some ⟨g, 0, none⟩) 10 cap := hv
  have HO := am_ (show (Kd.int .i64).R 3 w1 w.heap.size (fun _ => True) (.slice (some ⟨g, 0, none⟩) 10 cap) (List.replicate 10 0) from ho)
  have HG1 := am_ hg1
  clear HB
  have HB := am_ hb
  clear ho hb hg2 hg3 cells hg1
  go_loopw [22] (fun v22 wr => ∃ (pre rest : List S51) (out : List Int), v22 = .int .i64 pre.length ∧ Aside0 (xs = pre ++ rest) ∧ Aside0 (out.length = 10) ∧ Aside0 (foldK out rest = OUT) ∧ Aside0 (isSums out (sumA pre)) ∧ Aside0 ((Kd.int .i64).R 3 wr w.heap.size (fun _ => True) (.slice (some ⟨g, 0, none⟩) 10 cap) out) ∧ Aside0 (Below w.heap.size w wr)) (fun v22 _ => xs.length - (intOf v22).toNat)
  case atStart => exact ⟨[], xs, List.replicate 10 0, rfl, ⟨rfl⟩, ⟨List.length_replicate⟩, ⟨HFO.out.symm⟩, ⟨by simp, (fun x hx => by rw [List.eq_of_mem_replicate hx]; decide), by decide⟩, ⟨(by (with_reducible repeat first | apply ra_ | apply rn_ | apply rd_); exact HO.out)⟩, ⟨(by repeat first | (with_reducible first | exact HB.out | apply ba_ | apply bn_ | apply bd_) | exact HB.out)⟩⟩
  case round =>
    clear HO HB
    obtain ⟨pre, rest, out, rfl, HX, HL, HP, HI, HO, HB⟩ := hrel
    cases rest with
    | nil =>
      have c : decide (pre.length < xs.length) = false := decide_eq_false (by have := len_nil HX.out; omega)
      have hxp : xs = pre := by simpa using HX.out
      have HO2 := am_ (show (Kd.int .i64).R 3 wr w.heap.size (fun _ => True) (.slice (some ⟨g, 0, none⟩) 10 cap) OUT from by rw [← HP.out]; exact HO.out)
      clear HX hxp HP HI HL HO
      go_wp2_with fail
      have hcc_ := R_C HO2.out
      rw [← HOL.out] at hcc_
      have HCC_ := am_ hcc_
      clear hcc_
      refine (sumOf_c (some ⟨g, 0, none⟩) 10 cap OUT _ HOL.out.symm (by repeat first | exact HCC_.out | with_reducible refine ca_ ?_ _ | with_reducible refine cn_ ?_ _ | with_reducible refine cd_ ?_) (by rw [HOL.out]; exact R_cap HO2.out) HOX.out (by rw [HOL.out]; omega)).mono ?_
      rw [HSUM.out]
      rintro e w3 ⟨rfl, ⟨q3, rfl⟩⟩
      clear HCC_
      go_wp2_with fail
      go_loopw [43] (fun v43 wz => ∃ (k : Nat) (cur : List Int), v43 = .int .i64 k ∧ Aside0 (k ≤ 10) ∧ Aside0 (cur.length = 10 ∧ cur = (OUT.take k).map (fun x => max0 (x - AL)) ++ OUT.drop k) ∧ Aside0 ((Kd.int .i64).R 3 wz w.heap.size (fun _ => True) (.slice (some ⟨g, 0, none⟩) 10 cap) cur) ∧ Aside0 (Below w.heap.size w wz)) (fun v43 _ => 10 - (intOf v43).toNat)
      case atStart => exact ⟨0, OUT, rfl, ⟨by omega⟩, ⟨HOL.out, by simp⟩, ⟨(by (with_reducible repeat first | apply ra_ | apply rn_ | apply rd_); exact HO2.out)⟩, ⟨(by repeat first | (with_reducible first | exact HB.out | apply ba_ | apply bn_ | apply bd_) | exact HB.out)⟩⟩
      case round =>
        clear HO2 HB
        obtain ⟨k, cur, rfl, HK, HCU, HO, HB⟩ := hrel
        by_cases hk : k < 10
        · have c2 : decide ((k : Int) < 10) = true := decide_eq_true (by omega)
          have c3 : decide (k < 10) = true := decide_eq_true hk
          have hko : k < OUT.length := by rw [HOL.out]; exact hk
          have q0 : (0 : Int) ≤ (k : Int) := by omega
          have q1 : (k : Int) < 10 := by omega
          have tn : (k : Int).toNat = k := Int.toNat_natCast k
          obtain ⟨x, hx⟩ : ∃ x, x = OUT[k] := ⟨_, rfl⟩
          have hcx : rdOf 0 cur (k : Int) = x := by
            rw [rdOf, tn, HCU.out.2, List.getD_eq_getElem?_getD, List.getElem?_append_right (by rw [List.length_map, List.length_take]; omega), List.length_map, List.length_take, Nat.min_eq_left (Nat.le_of_lt hko), Nat.sub_self, List.getElem?_drop, Nat.add_zero, List.getElem?_eq_getElem hko, hx]; rfl
          obtain ⟨hy, hf⟩ := Kd.R_celln 0 HO.out (k : Int) q0 q1
          rw [hcx, tn] at hy
          rw [tn] at hf
          have hxb := HOX.out x (by rw [hx]; exact List.getElem_mem hko)
          have x0 := hxb.1
          have x1 := hxb.2
          obtain ⟨MX, hMX⟩ : ∃ M, M = max0 (x - AL) := ⟨_, rfl⟩
          have HMX := am_ (show (if (S * lim).tdiv 1000 < x then x - (S * lim).tdiv 1000 else 0) = MX from by rw [← HAL.out, hMX]; unfold max0; split <;> split <;> omega)
          have HST := am_ (show (cur.set k MX).length = 10 ∧ cur.set k MX = (OUT.take (k + 1)).map (fun x => max0 (x - AL)) ++ OUT.drop (k + 1) from ⟨by rw [List.length_set]; exact HCU.out.1, by
            rw [HCU.out.2, List.set_append_right k _ (by rw [List.length_map, List.length_take]; omega), List.length_map, List.length_take, Nat.min_eq_left (Nat.le_of_lt hko), Nat.sub_self, List.drop_eq_getElem_cons hko, List.set_cons_zero, List.take_succ_eq_append_getElem hko, List.map_append, hMX, hx, List.append_assoc]; rfl⟩)
          clear hcx hx hxb hko hMX
          go_upto_region 14 with (fail)
          -- HERE3
          rw [HMX.out]
          have HO3 := am_ (Kd.R_putn HO.out (k : Int) MX)
          have HB3 := am_ (below_set (j := k) (v := .int .i64 MX) HB.out HG1.out)
          rw [tn] at HO3
          clear HO HB hy hf
          go_wp2
          go_roundw
          case rel => exact ⟨k + 1, cur.set k MX, by go_num, ⟨by omega⟩, HST, ⟨(by (with_reducible repeat first | apply ra_ | apply rn_ | apply rd_); exact HO3.out)⟩, ⟨(by repeat first | (with_reducible first | exact HB3.out | apply ba_ | apply bn_ | apply bd_) | exact HB3.out)⟩⟩
          case measure => simp [intOf]; omega
        · have c2 : decide ((k : Int) < 10) = false := decide_eq_false (by omega)
          have c3 : decide (k < 10) = false := decide_eq_false hk
          have HD := am_ (show (Kd.int .i64).R 3 wr w.heap.size (fun _ => True) (.slice (some ⟨g, 0, none⟩) 10 cap) (OUT.map (fun x => max0 (x - AL))) from by
            have h := HO.out
            rw [HCU.out.2, List.take_of_length_le (by rw [HOL.out]; omega), List.drop_eq_nil_of_le (by rw [HOL.out]; omega), List.append_nil] at h
            exact h)
          clear hk
          go_wp2
          go_ret2
          exact ⟨_, by rw [HEX.out]; rfl, by rw [HEX.out]; exact (by (with_reducible repeat first | apply ra_ | apply rn_ | apply rd_); exact HD.out), (by repeat first | (with_reducible first | exact HB.out | apply ba_ | apply bn_ | apply bd_) | exact HB.out)⟩
    | cons a t =>
      have hlt := len_cons HX.out
      have hpl : (pre.length : Int) < xs.length := by omega
      have ha := HOK.out a (by rw [HX.out]; simp)
      have p0 := ha.1.1
      have p9 : a.f0 < 10 := by have := ha.1.2; omega
      have v0 := ha.2.1.1
      have v1_ := ha.2.1.2
      obtain ⟨hs', hr⟩ := isSums_add HI.out ha
      have hpb := sumA_bd pre (fun b hb => HOK.out b (by rw [HX.out]; simp [hb]))
      obtain ⟨ad, e0, hx0, hx1, hx2⟩ := at_T51 HR0.out (pre.length : Int) (by omega) hpl
      rw [rd_T51_at HX.out rfl] at hx0 hx1 hx2
      simp only [Int.toNat_natCast] at hx0 hx1 hx2
      cases e0
      replace hx0 := (HB.out.cell (World.block_lt_of_cell? w _ hx0)).trans hx0
      replace hx1 := (HB.out.cell (World.block_lt_of_cell? w _ hx1)).trans hx1
      replace hx2 := (HB.out.cell (World.block_lt_of_cell? w _ hx2)).trans hx2
      have c : decide (pre.length < xs.length) = true := decide_eq_true (by omega)
      have c' : pre.length < xs.length := by omega
      have tn : (pre.length : Int).toNat = pre.length := Int.toNat_natCast _
      have q0 : (0 : Int) ≤ (pre.length : Int) := by omega
      obtain ⟨V, hV⟩ : ∃ V, V = rd out a.f0 := ⟨_, rfl⟩
      rw [← hV] at hr
      have r0 := hr.1
      have r1 : V ≤ 20000000000 := by have := hr.2; have := hpb.2; have : pre.length ≤ 20 := by omega
                                      omega
      have HADD := am_ (show addK out a = out.set a.f0.toNat (V + a.f1) from by rw [addK, hV])
      have HI2 := am_ hs'
      have HF2 := am_ (show foldK (addK out a) t = OUT from HP.out)
      have HSX := am_ (snoc HX.out)
      have HSA := am_ (sumA_snoc pre a)
      have HV2 := am_ hV
      clear hlt ha hs' hr hV hpb HP HI
      go_upto_region 7 with (fail)
      clear hx0 hx1 hx2
      obtain ⟨W1, hW1⟩ : ∃ W1, W1 = wr.alloc (.cells #[.int .i64 a.f0, .int .i64 a.f1, .int .i64 a.f2] 51) := ⟨_, rfl⟩
      have BK := am_ (show W1.heap[wr.heap.size]? = some (.cells #[.int .i64 a.f0, .int .i64 a.f1, .int .i64 a.f2] 51 (0, 0)) from by rw [hW1]; exact blk_new wr _)
      have HO1 := am_ (show (Kd.int .i64).R 3 W1 w.heap.size (fun _ => True) (.slice (some ⟨g, 0, none⟩) 10 cap) out from by rw [hW1]; exact Kd.R_alloc HO.out _)
      have HB1 := am_ (show Below w.heap.size w W1 from by rw [hW1]; exact below_alloc HB.out _)
      rw [← hW1]
      clear hW1 HO HB
      generalize wr.heap.size = G at BK ⊢
      have hk0 := (blk_cell BK.out 0).trans rfl
      have hk1 := (blk_cell BK.out 1).trans rfl
      have hy : W1.cell? ⟨g, a.f0.toNat, none⟩ = some (.int .i64 V) := by rw [HV2.out]; exact (Kd.R_celln 0 HO1.out a.f0 p0 p9).1
      have hf := (Kd.R_celln 0 HO1.out a.f0 p0 p9).2
      go_region
      clear hy hf hk0 hk1
      have HO2 := am_ (Kd.R_drew (Kd.R_putn HO1.out a.f0 (V + a.f1)))
      have HB2 := am_ (below_drew (below_set (j := a.f0.toNat) (v := .int .i64 (V + a.f1)) HB1.out HG1.out))
      clear HO1 HB1 BK
      generalize (W1.setCell ⟨g, a.f0.toNat, none⟩ (.int .i64 (V + a.f1))).drew = wr1 at HO2 HB2 ⊢
      go_wp2
      go_roundw
      case rel => exact ⟨pre ++ [a], t, addK out a, by rw [len_snoc], HSX, ⟨by rw [HADD.out, List.length_set]; exact HL.out⟩, HF2, ⟨by rw [HSA.out]; exact HI2.out⟩, ⟨by rw [HADD.out]; exact (by (with_reducible repeat first | apply ra_ | apply rn_ | apply rd_); exact HO2.out)⟩, ⟨(by repeat first | (with_reducible first | exact HB2.out | apply ba_ | apply bn_ | apply bd_) | exact HB2.out)⟩⟩
      case measure => simp [intOf]; omega
theorem spec_c (A0 : Option Addr) (c0 : Nat) (xs : List S51) (lim : Int) (w : World) (hr0 : Kd.C k51 w A0 xs.length xs) (hc0 : xs.length ≤ c0) (ha0 : 0 < xs.length → ∃ b, A0 = some ⟨b, 0, none⟩) (hn : xs.length ≤ 1048576) :
    Calls Try.prog 33 #[.slice A0 xs.length c0, .int .i64 lim] w fun e w' => ∃ v, e = .returned (.tuple #[v, .bool (excessA xs lim).2]) ∧ (Kd.int .i64).R 3 w' w.heap.size (fun _ => True) v (excessA xs lim).1 ∧ Below w.heap.size w w' := concS_c A0 c0 xs lim w hr0 hc0 hn
theorem impl_c (A0 : Option Addr) (c0 : Nat) (xs : List S51) (lim : Int) (w : World) (hr0 : Kd.C k51 w A0 xs.length xs) (hc0 : xs.length ≤ c0) (ha0 : 0 < xs.length → ∃ b, A0 = some ⟨b, 0, none⟩) (hn : xs.length ≤ 1048576) :
    Calls Try.prog 32 #[.slice A0 xs.length c0, .int .i64 lim] w fun e w' => ∃ v, e = .returned (.tuple #[v, .bool (excessA xs lim).2]) ∧ (Kd.int .i64).R 3 w' w.heap.size (fun _ => True) v (excessA xs lim).1 ∧ Below w.heap.size w w' := concI_c A0 c0 xs lim w hr0 hc0 hn
theorem flat_Asset (w : World) (b : Nat) (p q : Nat → Prop) (x : S51) (cs : List Value) (h : k51.M w b p x cs) : k51.M w b q x cs := by
  obtain rfl := k51_openM h
  exact k51_mkM w b q x

set_option maxHeartbeats 16000000 in
set_option maxRecDepth 100000 in
theorem law_c (A0 : Option Addr) (c0 : Nat) (l0 : List S68) (a1 : Int) (w : World) (hr0 : Kd.C k68 w A0 l0.length l0) (hc0 : l0.length ≤ c0) (hi1 : -9223372036854775808 ≤ a1 ∧ a1 ≤ 9223372036854775807) (he0 : ∀ y ∈ l0, (KReads.InI y.f0 ∧ KReads.InI y.f1 ∧ KReads.InI y.f2)) :
    Calls Try.prog 9 #[.slice A0 l0.length c0, .int .i64 a1] w fun e w' => e = .returned (.bool true) ∧ Below w.heap.size w w' := by
  have HR0 := am_ hr0
  have HC0 := am_ hc0
  have HM0 := am_ (Kd.C_max hr0)
  clear hr0 hc0
  by_cases hn0 : l0.length ≤ 1048576
  rotate_left
  · have hn_ := hn0
    have E0 := am_ ((szAssetS_eq l0 HM0.out).trans (congrArg some (if_neg hn0)))
    clear hn_
    go_enter Try.func9, Try.ntmps9
    go_wp2_with (go_at_call 17; refine (laws_szAssetS.calls _ _ l0 1048576 _ _ (by repeat (first | exact HR0.out | (with_reducible refine Kd.C_alloc ?_ _) | (with_reducible refine Kd.C_drewN ?_ _) | (with_reducible refine Kd.C_drew ?_))) HC0.out E0.out).mono ?_; rintro e w0_ ⟨rfl, ⟨q, rfl⟩⟩)
    go_ret
    exact ⟨rfl, (by repeat (first | (with_reducible first | exact Below.refl _ _ | apply below_alloc | apply pw_below_drewN | apply below_drew1) | exact Below.refl _ _))⟩
  have E0 := am_ ((szAssetS_eq l0 HM0.out).trans (congrArg some (if_pos hn0)))
  have cs0 : decide (1048576 - (l0.length : Int) < 0) = false := decide_eq_false (by omega)
  obtain ⟨L0, eL0⟩ : ∃ L_ : List S51, L_ = l0.map cv_Asset := ⟨_, rfl⟩
  have hv0 : L0.length ≤ 1048576 := by rw [eL0]; simpa using hn0
  have EL0 := am_ eL0
  clear eL0
  have HL0 := am_ (show ((excessA L0 a1).1).length ≤ 1048576 from Nat.le_trans (excessA_length L0 a1) (by decide))
  have HB0 := am_ (Below.refl w.heap.size w)
  obtain ⟨kX0, hX0⟩ := roundsOf (toAssetS_ev l0 hn0)
  rw [← EL0.out] at hX0
  have X0 := am_ hX0
  clear hX0
  obtain ⟨kX1, hX1⟩ := roundsOf (eqIntS_ev (excessA L0 a1).1 (by have h_ := HL0.out; omega))
  have X1 := am_ hX1
  clear hX1
  obtain ⟨kX2, hX2⟩ := roundsOf (eqAssetS_ev L0 (by have h_ := hv0; omega))
  have X2 := am_ hX2
  clear hX2
  obtain ⟨kX3, hX3⟩ := roundsOf (markAssetS_ev L0 1 (by omega) (by have h_ := hv0; omega) (by have h_ := hv0; omega))
  obtain ⟨mX3, eX3⟩ : ∃ m_ : Int, m_ = 1 + 3 * ((L0).length : Int) := ⟨_, rfl⟩
  rw [← eX3] at hX3
  obtain ⟨UX3, uX3⟩ : ∃ U_ : List S51, U_ = upS_Asset (L0).length 1 := ⟨_, rfl⟩
  rw [← uX3] at hX3
  have VX3 := am_ (show UX3.length = (L0).length from by rw [uX3, upS_Asset_length])
  have ZX3 := am_ uX3
  clear uX3
  have cX3 : decide (mX3 < 0) = false := decide_eq_false (by omega)
  have PX3 := am_ (show 0 ≤ mX3 ∧ mX3 ≤ 1 + 8388608 from by have h_ := hv0; omega)
  have MX3 := am_ eX3
  clear eX3
  have X3 := am_ hX3
  clear hX3
  obtain ⟨kX4, hX4⟩ := roundsOf (markIntS_ev (excessA L0 a1).1 1 (by omega) (by have h_ := HL0.out; omega) (by have h_ := HL0.out; omega))
  obtain ⟨mX4, eX4⟩ : ∃ m_ : Int, m_ = 1 + (((excessA L0 a1).1).length : Int) := ⟨_, rfl⟩
  rw [← eX4] at hX4
  obtain ⟨UX4, uX4⟩ : ∃ U_ : List Int, U_ = upFrom ((excessA L0 a1).1).length 1 := ⟨_, rfl⟩
  rw [← uX4] at hX4
  have VX4 := am_ (show UX4.length = ((excessA L0 a1).1).length from by rw [uX4, upFrom_length])
  have ZX4 := am_ uX4
  clear uX4
  have cX4 : decide (mX4 < 0) = false := decide_eq_false (by omega)
  have PX4 := am_ (show 0 ≤ mX4 ∧ mX4 ≤ 1 + 8388608 from by have h_ := HL0.out; omega)
  have MX4 := am_ eX4
  clear eX4
  have X4 := am_ hX4
  clear hX4
  obtain ⟨kX5, hX5⟩ := roundsOf (heldIntS_ev ((excessA L0 a1).1).length 1 (by omega) (by have h_ := HL0.out; omega) (by have h_ := HL0.out; omega))
  rw [← MX4.out, ← ZX4.out] at hX5
  have X5 := am_ hX5
  clear hX5
  go_enter Try.func9, Try.ntmps9
  go_wp2_with (go_at_call 17; refine (laws_szAssetS.calls _ _ l0 1048576 _ _ (by repeat (first | exact HR0.out | (with_reducible refine Kd.C_alloc ?_ _) | (with_reducible refine Kd.C_drewN ?_ _) | (with_reducible refine Kd.C_drew ?_))) HC0.out E0.out).mono ?_; rintro e w0_ ⟨rfl, ⟨q, rfl⟩⟩)
  refine (laws_toAssetS.calls kX0 _ _ l0 _ _ (by repeat (first | exact (Kd.C_below HR0.out HB0.out) | (with_reducible refine Kd.C_alloc ?_ _) | (with_reducible refine Kd.C_drewN ?_ _) | (with_reducible refine Kd.C_drew ?_))) HC0.out X0.out).mono ?_
  rintro e w1 ⟨v, rfl, ho, hb⟩
  have HB1 := am_ (below_step (by repeat (first | (with_reducible first | exact HB0.out | apply below_alloc | apply pw_below_drewN | apply below_drew1) | exact HB0.out)) hb)
  have SZ1 := am_ (show w.heap.size ≤ w1.heap.size from below_size (below_step (by repeat (first | (with_reducible first | exact Below.refl _ _ | apply below_alloc | apply pw_below_drewN | apply below_drew1) | exact Below.refl _ _)) hb))
  have HOt1 := am_ (R_ivw (a := w.heap.size) (b := w.heap.size) ho (below_size (by repeat (first | (with_reducible first | exact Below.refl _ _ | apply below_alloc | apply pw_below_drewN | apply below_drew1) | exact Below.refl _ _))) (below_size (by repeat (first | (with_reducible first | exact HB0.out | apply below_alloc | apply pw_below_drewN | apply below_drew1) | exact HB0.out))))
  obtain ⟨Art1, crt1, ert1⟩ := Kd.R_slice HOt1.out
  subst ert1
  clear ho hb
  go_wp2_with fail
  refine (spec_c _ _ L0 a1 _ (by repeat (first | exact (Kd.R_reads' HOt1.out).2.2 | (with_reducible refine Kd.C_alloc ?_ _) | (with_reducible refine Kd.C_drewN ?_ _) | (with_reducible refine Kd.C_drew ?_))) (Kd.R_reads' HOt1.out).2.1 (fun hp => R_head HOt1.out hp) hv0 ).mono ?_
  rintro e w2 ⟨v, rfl, ho, hb⟩
  have n_ := am_ (Kd.R_below (by (with_reducible repeat (first | apply Kd.R_alloc | apply Kd.R_drewN | apply Kd.R_drew)); exact HOt1.out) hb); clear HOt1; have HOt1 := n_; clear n_
  have HB2 := am_ (below_step (by repeat (first | (with_reducible first | exact HB1.out | apply below_alloc | apply pw_below_drewN | apply below_drew1) | exact HB1.out)) hb)
  have SZ2 := am_ (show w1.heap.size ≤ w2.heap.size from below_size (below_step (by repeat (first | (with_reducible first | exact Below.refl _ _ | apply below_alloc | apply pw_below_drewN | apply below_drew1) | exact Below.refl _ _)) hb))
  have HOw0 := am_ (R_ivw (a := w1.heap.size) (b := w.heap.size) ho (below_size (by repeat (first | (with_reducible first | exact Below.refl _ _ | apply below_alloc | apply pw_below_drewN | apply below_drew1) | exact Below.refl _ _))) (below_size (by repeat (first | (with_reducible first | exact HB1.out | apply below_alloc | apply pw_below_drewN | apply below_drew1) | exact HB1.out))))
  obtain ⟨Arw0, crw0, erw0⟩ := Kd.R_slice HOw0.out
  subst erw0
  clear ho hb
  go_wp2_with fail
  refine (laws_toAssetS.calls kX0 _ _ l0 _ _ (by repeat (first | exact (Kd.C_below HR0.out HB2.out) | (with_reducible refine Kd.C_alloc ?_ _) | (with_reducible refine Kd.C_drewN ?_ _) | (with_reducible refine Kd.C_drew ?_))) HC0.out X0.out).mono ?_
  rintro e w3 ⟨v, rfl, ho, hb⟩
  have n_ := am_ (Kd.R_below (by (with_reducible repeat (first | apply Kd.R_alloc | apply Kd.R_drewN | apply Kd.R_drew)); exact HOw0.out) hb); clear HOw0; have HOw0 := n_; clear n_
  have HB3 := am_ (below_step (by repeat (first | (with_reducible first | exact HB2.out | apply below_alloc | apply pw_below_drewN | apply below_drew1) | exact HB2.out)) hb)
  have SZ3 := am_ (show w2.heap.size ≤ w3.heap.size from below_size (below_step (by repeat (first | (with_reducible first | exact Below.refl _ _ | apply below_alloc | apply pw_below_drewN | apply below_drew1) | exact Below.refl _ _)) hb))
  have HOx0 := am_ (R_ivw (a := w2.heap.size) (b := w.heap.size) ho (below_size (by repeat (first | (with_reducible first | exact Below.refl _ _ | apply below_alloc | apply pw_below_drewN | apply below_drew1) | exact Below.refl _ _))) (below_size (by repeat (first | (with_reducible first | exact HB2.out | apply below_alloc | apply pw_below_drewN | apply below_drew1) | exact HB2.out))))
  obtain ⟨Arx0, crx0, erx0⟩ := Kd.R_slice HOx0.out
  subst erx0
  clear ho hb
  go_wp2_with fail
  refine (impl_c _ _ L0 a1 _ (by repeat (first | exact (Kd.R_reads' HOx0.out).2.2 | (with_reducible refine Kd.C_alloc ?_ _) | (with_reducible refine Kd.C_drewN ?_ _) | (with_reducible refine Kd.C_drew ?_))) (Kd.R_reads' HOx0.out).2.1 (fun hp => R_head HOx0.out hp) hv0 ).mono ?_
  rintro e w4 ⟨v, rfl, ho, hb⟩
  have n_ := am_ (Kd.R_below (by (with_reducible repeat (first | apply Kd.R_alloc | apply Kd.R_drewN | apply Kd.R_drew)); exact HOw0.out) hb); clear HOw0; have HOw0 := n_; clear n_
  have n_ := am_ (Kd.R_below (by (with_reducible repeat (first | apply Kd.R_alloc | apply Kd.R_drewN | apply Kd.R_drew)); exact HOx0.out) hb); clear HOx0; have HOx0 := n_; clear n_
  have HB4 := am_ (below_step (by repeat (first | (with_reducible first | exact HB3.out | apply below_alloc | apply pw_below_drewN | apply below_drew1) | exact HB3.out)) hb)
  have SZ4 := am_ (show w3.heap.size ≤ w4.heap.size from below_size (below_step (by repeat (first | (with_reducible first | exact Below.refl _ _ | apply below_alloc | apply pw_below_drewN | apply below_drew1) | exact Below.refl _ _)) hb))
  have HOg0 := am_ (R_ivw (a := w3.heap.size) (b := w.heap.size) ho (below_size (by repeat (first | (with_reducible first | exact Below.refl _ _ | apply below_alloc | apply pw_below_drewN | apply below_drew1) | exact Below.refl _ _))) (below_size (by repeat (first | (with_reducible first | exact HB3.out | apply below_alloc | apply pw_below_drewN | apply below_drew1) | exact HB3.out))))
  obtain ⟨Arg0, crg0, erg0⟩ := Kd.R_slice HOg0.out
  subst erg0
  clear ho hb
  go_wp2_with fail
  refine (laws_eqIntS.calls kX1 _ _ (excessA L0 a1).1 _ _ (excessA L0 a1).1 true _ (by repeat (first | exact (Kd.R_reads' HOg0.out).2.2 | (with_reducible refine Kd.C_alloc ?_ _) | (with_reducible refine Kd.C_drewN ?_ _) | (with_reducible refine Kd.C_drew ?_))) (Kd.R_reads' HOg0.out).2.1 (by repeat (first | exact (Kd.R_reads' HOw0.out).2.2 | (with_reducible refine Kd.C_alloc ?_ _) | (with_reducible refine Kd.C_drewN ?_ _) | (with_reducible refine Kd.C_drew ?_))) (Kd.R_reads' HOw0.out).2.1 X1.out).mono ?_
  rintro e w5 ⟨rfl, hb0⟩
  have hb := db_ hb0
  clear hb0
  have n_ := am_ (Kd.R_below (by (with_reducible repeat (first | apply Kd.R_alloc | apply Kd.R_drewN | apply Kd.R_drew)); exact HOw0.out) hb); clear HOw0; have HOw0 := n_; clear n_
  have n_ := am_ (Kd.R_below (by (with_reducible repeat (first | apply Kd.R_alloc | apply Kd.R_drewN | apply Kd.R_drew)); exact HOx0.out) hb); clear HOx0; have HOx0 := n_; clear n_
  have n_ := am_ (Kd.R_below (by (with_reducible repeat (first | apply Kd.R_alloc | apply Kd.R_drewN | apply Kd.R_drew)); exact HOg0.out) hb); clear HOg0; have HOg0 := n_; clear n_
  have HB5 := am_ (below_step (by repeat (first | (with_reducible first | exact HB4.out | apply below_alloc | apply pw_below_drewN | apply below_drew1) | exact HB4.out)) hb)
  have SZ5 := am_ (show w4.heap.size ≤ w5.heap.size from below_size (below_step (by repeat (first | (with_reducible first | exact Below.refl _ _ | apply below_alloc | apply pw_below_drewN | apply below_drew1) | exact Below.refl _ _)) hb))
  clear hb
  go_wp2_with fail
  refine (laws_toAssetS.calls kX0 _ _ l0 _ _ (by repeat (first | exact (Kd.C_below HR0.out HB5.out) | (with_reducible refine Kd.C_alloc ?_ _) | (with_reducible refine Kd.C_drewN ?_ _) | (with_reducible refine Kd.C_drew ?_))) HC0.out X0.out).mono ?_
  rintro e w6 ⟨v, rfl, ho, hb⟩
  have n_ := am_ (Kd.R_below (by (with_reducible repeat (first | apply Kd.R_alloc | apply Kd.R_drewN | apply Kd.R_drew)); exact HOw0.out) hb); clear HOw0; have HOw0 := n_; clear n_
  have n_ := am_ (Kd.R_below (by (with_reducible repeat (first | apply Kd.R_alloc | apply Kd.R_drewN | apply Kd.R_drew)); exact HOx0.out) hb); clear HOx0; have HOx0 := n_; clear n_
  have n_ := am_ (Kd.R_below (by (with_reducible repeat (first | apply Kd.R_alloc | apply Kd.R_drewN | apply Kd.R_drew)); exact HOg0.out) hb); clear HOg0; have HOg0 := n_; clear n_
  have HB6 := am_ (below_step (by repeat (first | (with_reducible first | exact HB5.out | apply below_alloc | apply pw_below_drewN | apply below_drew1) | exact HB5.out)) hb)
  have SZ6 := am_ (show w5.heap.size ≤ w6.heap.size from below_size (below_step (by repeat (first | (with_reducible first | exact Below.refl _ _ | apply below_alloc | apply pw_below_drewN | apply below_drew1) | exact Below.refl _ _)) hb))
  have HOt2 := am_ (R_ivw (a := w5.heap.size) (b := w.heap.size) ho (below_size (by repeat (first | (with_reducible first | exact Below.refl _ _ | apply below_alloc | apply pw_below_drewN | apply below_drew1) | exact Below.refl _ _))) (below_size (by repeat (first | (with_reducible first | exact HB5.out | apply below_alloc | apply pw_below_drewN | apply below_drew1) | exact HB5.out))))
  obtain ⟨Art2, crt2, ert2⟩ := Kd.R_slice HOt2.out
  subst ert2
  clear ho hb
  go_wp2_with fail
  refine (laws_eqAssetS.calls kX2 _ _ L0 _ _ L0 true _ (by repeat (first | exact (Kd.R_reads' HOx0.out).2.2 | (with_reducible refine Kd.C_alloc ?_ _) | (with_reducible refine Kd.C_drewN ?_ _) | (with_reducible refine Kd.C_drew ?_))) (Kd.R_reads' HOx0.out).2.1 (by repeat (first | exact (Kd.R_reads' HOt2.out).2.2 | (with_reducible refine Kd.C_alloc ?_ _) | (with_reducible refine Kd.C_drewN ?_ _) | (with_reducible refine Kd.C_drew ?_))) (Kd.R_reads' HOt2.out).2.1 X2.out).mono ?_
  rintro e w7 ⟨rfl, hb⟩
  have n_ := am_ (Kd.R_below (by (with_reducible repeat (first | apply Kd.R_alloc | apply Kd.R_drewN | apply Kd.R_drew)); exact HOw0.out) hb); clear HOw0; have HOw0 := n_; clear n_
  have n_ := am_ (Kd.R_below (by (with_reducible repeat (first | apply Kd.R_alloc | apply Kd.R_drewN | apply Kd.R_drew)); exact HOx0.out) hb); clear HOx0; have HOx0 := n_; clear n_
  have n_ := am_ (Kd.R_below (by (with_reducible repeat (first | apply Kd.R_alloc | apply Kd.R_drewN | apply Kd.R_drew)); exact HOg0.out) hb); clear HOg0; have HOg0 := n_; clear n_
  have n_ := am_ (Kd.R_below (by (with_reducible repeat (first | apply Kd.R_alloc | apply Kd.R_drewN | apply Kd.R_drew)); exact HOt2.out) hb); clear HOt2; have HOt2 := n_; clear n_
  have HB7 := am_ (below_step (by repeat (first | (with_reducible first | exact HB6.out | apply below_alloc | apply pw_below_drewN | apply below_drew1) | exact HB6.out)) hb)
  have SZ7 := am_ (show w6.heap.size ≤ w7.heap.size from below_size (below_step (by repeat (first | (with_reducible first | exact Below.refl _ _ | apply below_alloc | apply pw_below_drewN | apply below_drew1) | exact Below.refl _ _)) hb))
  clear hb
  go_wp2_with fail
  refine (laws_markAssetS.calls kX3 (Iv w2.heap.size w3.heap.size) _ L0 1 _ _ w _ (by repeat (first | (with_reducible first | exact HB7.out | apply below_alloc | apply pw_below_drewN | apply below_drew1) | exact HB7.out)) (by (with_reducible repeat (first | apply Kd.R_alloc | apply Kd.R_drewN | apply Kd.R_drew)); exact HOx0.out) X3.out).mono ?_
  rintro e w8 ⟨rfl, ho, hb, hk⟩
  have n_ := am_ (Kd.R_kept (by (with_reducible repeat (first | apply Kd.R_alloc | apply Kd.R_drewN | apply Kd.R_drew)); exact HOw0.out) hk (fun k h1_ h2_ => by have a_ := h1_.1; have b_ := h1_.2; have c_ := h2_.1; have d_ := h2_.2; have SZ1_ := SZ1.out; have SZ2_ := SZ2.out; have SZ3_ := SZ3.out; have SZ4_ := SZ4.out; have SZ5_ := SZ5.out; have SZ6_ := SZ6.out; have SZ7_ := SZ7.out; omega)); clear HOw0; have HOw0 := n_; clear n_
  have n_ := am_ (Kd.R_kept (by (with_reducible repeat (first | apply Kd.R_alloc | apply Kd.R_drewN | apply Kd.R_drew)); exact HOg0.out) hk (fun k h1_ h2_ => by have a_ := h1_.1; have b_ := h1_.2; have c_ := h2_.1; have d_ := h2_.2; have SZ1_ := SZ1.out; have SZ2_ := SZ2.out; have SZ3_ := SZ3.out; have SZ4_ := SZ4.out; have SZ5_ := SZ5.out; have SZ6_ := SZ6.out; have SZ7_ := SZ7.out; omega)); clear HOg0; have HOg0 := n_; clear n_
  have HB8 := am_ hb
  have SZ8 := am_ (show w7.heap.size ≤ w8.heap.size from hk.1)
  have n_ := am_ (R_flat flat_Asset ho HOx0.out.1); clear HOx0; have HOx0 := n_; clear n_
  clear ho hb hk
  go_wp2_with fail
  refine (laws_eqIntS.calls kX1 _ _ (excessA L0 a1).1 _ _ (excessA L0 a1).1 true _ (by repeat (first | exact (Kd.R_reads' HOg0.out).2.2 | (with_reducible refine Kd.C_alloc ?_ _) | (with_reducible refine Kd.C_drewN ?_ _) | (with_reducible refine Kd.C_drew ?_))) (Kd.R_reads' HOg0.out).2.1 (by repeat (first | exact (Kd.R_reads' HOw0.out).2.2 | (with_reducible refine Kd.C_alloc ?_ _) | (with_reducible refine Kd.C_drewN ?_ _) | (with_reducible refine Kd.C_drew ?_))) (Kd.R_reads' HOw0.out).2.1 X1.out).mono ?_
  rintro e w9 ⟨rfl, hb0⟩
  have hb := db_ hb0
  clear hb0
  have n_ := am_ (Kd.R_below (by (with_reducible repeat (first | apply Kd.R_alloc | apply Kd.R_drewN | apply Kd.R_drew)); exact HOw0.out) hb); clear HOw0; have HOw0 := n_; clear n_
  have n_ := am_ (Kd.R_below (by (with_reducible repeat (first | apply Kd.R_alloc | apply Kd.R_drewN | apply Kd.R_drew)); exact HOx0.out) hb); clear HOx0; have HOx0 := n_; clear n_
  have n_ := am_ (Kd.R_below (by (with_reducible repeat (first | apply Kd.R_alloc | apply Kd.R_drewN | apply Kd.R_drew)); exact HOg0.out) hb); clear HOg0; have HOg0 := n_; clear n_
  have HB9 := am_ (below_step (by repeat (first | (with_reducible first | exact HB8.out | apply below_alloc | apply pw_below_drewN | apply below_drew1) | exact HB8.out)) hb)
  have SZ9 := am_ (show w8.heap.size ≤ w9.heap.size from below_size (below_step (by repeat (first | (with_reducible first | exact Below.refl _ _ | apply below_alloc | apply pw_below_drewN | apply below_drew1) | exact Below.refl _ _)) hb))
  clear hb
  go_wp2_with fail
  refine (laws_markIntS.calls kX4 (Iv w3.heap.size w4.heap.size) _ (excessA L0 a1).1 1 _ _ w _ (by repeat (first | (with_reducible first | exact HB9.out | apply below_alloc | apply pw_below_drewN | apply below_drew1) | exact HB9.out)) (by (with_reducible repeat (first | apply Kd.R_alloc | apply Kd.R_drewN | apply Kd.R_drew)); exact HOg0.out) X4.out).mono ?_
  rintro e w10 ⟨rfl, ho, hb, hk⟩
  have n_ := am_ (Kd.R_kept (by (with_reducible repeat (first | apply Kd.R_alloc | apply Kd.R_drewN | apply Kd.R_drew)); exact HOw0.out) hk (fun k h1_ h2_ => by have a_ := h1_.1; have b_ := h1_.2; have c_ := h2_.1; have d_ := h2_.2; have SZ1_ := SZ1.out; have SZ2_ := SZ2.out; have SZ3_ := SZ3.out; have SZ4_ := SZ4.out; have SZ5_ := SZ5.out; have SZ6_ := SZ6.out; have SZ7_ := SZ7.out; have SZ8_ := SZ8.out; have SZ9_ := SZ9.out; omega)); clear HOw0; have HOw0 := n_; clear n_
  have n_ := am_ (Kd.R_kept (by (with_reducible repeat (first | apply Kd.R_alloc | apply Kd.R_drewN | apply Kd.R_drew)); exact HOx0.out) hk (fun k h1_ h2_ => by have a_ := h1_.1; have b_ := h1_.2; have c_ := h2_.1; have d_ := h2_.2; have SZ1_ := SZ1.out; have SZ2_ := SZ2.out; have SZ3_ := SZ3.out; have SZ4_ := SZ4.out; have SZ5_ := SZ5.out; have SZ6_ := SZ6.out; have SZ7_ := SZ7.out; have SZ8_ := SZ8.out; have SZ9_ := SZ9.out; omega)); clear HOx0; have HOx0 := n_; clear n_
  have HB10 := am_ hb
  have SZ10 := am_ (show w9.heap.size ≤ w10.heap.size from hk.1)
  have n_ := am_ (R_flat flat_int ho HOg0.out.1); clear HOg0; have HOg0 := n_; clear n_
  clear ho hb hk
  go_wp2_with fail
  refine calls_of_args (args' := #[.slice Arg0 UX4.length crg0, .int .i64 1]) (by rw [VX4.out]) ?_
  refine (laws_heldIntS.calls kX5 _ _ UX4 1 _ _ (by repeat (first | exact (Kd.R_reads' HOg0.out).2.2 | (with_reducible refine Kd.C_alloc ?_ _) | (with_reducible refine Kd.C_drewN ?_ _) | (with_reducible refine Kd.C_drew ?_))) (by rw [VX4.out]; exact (Kd.R_reads' HOg0.out).2.1) X5.out).mono ?_
  rintro e w11 ⟨rfl, hb0⟩
  have hb := db_ hb0
  clear hb0
  have n_ := am_ (Kd.R_below (by (with_reducible repeat (first | apply Kd.R_alloc | apply Kd.R_drewN | apply Kd.R_drew)); exact HOw0.out) hb); clear HOw0; have HOw0 := n_; clear n_
  have n_ := am_ (Kd.R_below (by (with_reducible repeat (first | apply Kd.R_alloc | apply Kd.R_drewN | apply Kd.R_drew)); exact HOx0.out) hb); clear HOx0; have HOx0 := n_; clear n_
  have n_ := am_ (Kd.R_below (by (with_reducible repeat (first | apply Kd.R_alloc | apply Kd.R_drewN | apply Kd.R_drew)); exact HOg0.out) hb); clear HOg0; have HOg0 := n_; clear n_
  have HB11 := am_ (below_step (by repeat (first | (with_reducible first | exact HB10.out | apply below_alloc | apply pw_below_drewN | apply below_drew1) | exact HB10.out)) hb)
  have SZ11 := am_ (show w10.heap.size ≤ w11.heap.size from below_size (below_step (by repeat (first | (with_reducible first | exact Below.refl _ _ | apply below_alloc | apply pw_below_drewN | apply below_drew1) | exact Below.refl _ _)) hb))
  clear hb
  go_wp2_with fail
  refine (laws_toAssetS.calls kX0 _ _ l0 _ _ (by repeat (first | exact (Kd.C_below HR0.out HB11.out) | (with_reducible refine Kd.C_alloc ?_ _) | (with_reducible refine Kd.C_drewN ?_ _) | (with_reducible refine Kd.C_drew ?_))) HC0.out X0.out).mono ?_
  rintro e w12 ⟨v, rfl, ho, hb⟩
  have n_ := am_ (Kd.R_below (by (with_reducible repeat (first | apply Kd.R_alloc | apply Kd.R_drewN | apply Kd.R_drew)); exact HOw0.out) hb); clear HOw0; have HOw0 := n_; clear n_
  have n_ := am_ (Kd.R_below (by (with_reducible repeat (first | apply Kd.R_alloc | apply Kd.R_drewN | apply Kd.R_drew)); exact HOx0.out) hb); clear HOx0; have HOx0 := n_; clear n_
  have n_ := am_ (Kd.R_below (by (with_reducible repeat (first | apply Kd.R_alloc | apply Kd.R_drewN | apply Kd.R_drew)); exact HOg0.out) hb); clear HOg0; have HOg0 := n_; clear n_
  have HB12 := am_ (below_step (by repeat (first | (with_reducible first | exact HB11.out | apply below_alloc | apply pw_below_drewN | apply below_drew1) | exact HB11.out)) hb)
  have SZ12 := am_ (show w11.heap.size ≤ w12.heap.size from below_size (below_step (by repeat (first | (with_reducible first | exact Below.refl _ _ | apply below_alloc | apply pw_below_drewN | apply below_drew1) | exact Below.refl _ _)) hb))
  have HOt3 := am_ (R_ivw (a := w11.heap.size) (b := w.heap.size) ho (below_size (by repeat (first | (with_reducible first | exact Below.refl _ _ | apply below_alloc | apply pw_below_drewN | apply below_drew1) | exact Below.refl _ _))) (below_size (by repeat (first | (with_reducible first | exact HB11.out | apply below_alloc | apply pw_below_drewN | apply below_drew1) | exact HB11.out))))
  obtain ⟨Art3, crt3, ert3⟩ := Kd.R_slice HOt3.out
  subst ert3
  clear ho hb
  go_wp2_with fail
  refine (impl_c _ _ L0 a1 _ (by repeat (first | exact (Kd.R_reads' HOt3.out).2.2 | (with_reducible refine Kd.C_alloc ?_ _) | (with_reducible refine Kd.C_drewN ?_ _) | (with_reducible refine Kd.C_drew ?_))) (Kd.R_reads' HOt3.out).2.1 (fun hp => R_head HOt3.out hp) hv0 ).mono ?_
  rintro e w13 ⟨v, rfl, ho, hb⟩
  have n_ := am_ (Kd.R_below (by (with_reducible repeat (first | apply Kd.R_alloc | apply Kd.R_drewN | apply Kd.R_drew)); exact HOw0.out) hb); clear HOw0; have HOw0 := n_; clear n_
  have n_ := am_ (Kd.R_below (by (with_reducible repeat (first | apply Kd.R_alloc | apply Kd.R_drewN | apply Kd.R_drew)); exact HOx0.out) hb); clear HOx0; have HOx0 := n_; clear n_
  have n_ := am_ (Kd.R_below (by (with_reducible repeat (first | apply Kd.R_alloc | apply Kd.R_drewN | apply Kd.R_drew)); exact HOg0.out) hb); clear HOg0; have HOg0 := n_; clear n_
  have n_ := am_ (Kd.R_below (by (with_reducible repeat (first | apply Kd.R_alloc | apply Kd.R_drewN | apply Kd.R_drew)); exact HOt3.out) hb); clear HOt3; have HOt3 := n_; clear n_
  have HB13 := am_ (below_step (by repeat (first | (with_reducible first | exact HB12.out | apply below_alloc | apply pw_below_drewN | apply below_drew1) | exact HB12.out)) hb)
  have SZ13 := am_ (show w12.heap.size ≤ w13.heap.size from below_size (below_step (by repeat (first | (with_reducible first | exact Below.refl _ _ | apply below_alloc | apply pw_below_drewN | apply below_drew1) | exact Below.refl _ _)) hb))
  have HOh0 := am_ (R_ivw (a := w12.heap.size) (b := w.heap.size) ho (below_size (by repeat (first | (with_reducible first | exact Below.refl _ _ | apply below_alloc | apply pw_below_drewN | apply below_drew1) | exact Below.refl _ _))) (below_size (by repeat (first | (with_reducible first | exact HB12.out | apply below_alloc | apply pw_below_drewN | apply below_drew1) | exact HB12.out))))
  obtain ⟨Arh0, crh0, erh0⟩ := Kd.R_slice HOh0.out
  subst erh0
  clear ho hb
  go_wp2_with fail
  refine (laws_eqIntS.calls kX1 _ _ (excessA L0 a1).1 _ _ (excessA L0 a1).1 true _ (by repeat (first | exact (Kd.R_reads' HOh0.out).2.2 | (with_reducible refine Kd.C_alloc ?_ _) | (with_reducible refine Kd.C_drewN ?_ _) | (with_reducible refine Kd.C_drew ?_))) (Kd.R_reads' HOh0.out).2.1 (by repeat (first | exact (Kd.R_reads' HOw0.out).2.2 | (with_reducible refine Kd.C_alloc ?_ _) | (with_reducible refine Kd.C_drewN ?_ _) | (with_reducible refine Kd.C_drew ?_))) (Kd.R_reads' HOw0.out).2.1 X1.out).mono ?_
  rintro e w14 ⟨rfl, hb0⟩
  have hb := db_ hb0
  clear hb0
  have n_ := am_ (Kd.R_below (by (with_reducible repeat (first | apply Kd.R_alloc | apply Kd.R_drewN | apply Kd.R_drew)); exact HOw0.out) hb); clear HOw0; have HOw0 := n_; clear n_
  have n_ := am_ (Kd.R_below (by (with_reducible repeat (first | apply Kd.R_alloc | apply Kd.R_drewN | apply Kd.R_drew)); exact HOx0.out) hb); clear HOx0; have HOx0 := n_; clear n_
  have n_ := am_ (Kd.R_below (by (with_reducible repeat (first | apply Kd.R_alloc | apply Kd.R_drewN | apply Kd.R_drew)); exact HOg0.out) hb); clear HOg0; have HOg0 := n_; clear n_
  have n_ := am_ (Kd.R_below (by (with_reducible repeat (first | apply Kd.R_alloc | apply Kd.R_drewN | apply Kd.R_drew)); exact HOh0.out) hb); clear HOh0; have HOh0 := n_; clear n_
  have HB14 := am_ (below_step (by repeat (first | (with_reducible first | exact HB13.out | apply below_alloc | apply pw_below_drewN | apply below_drew1) | exact HB13.out)) hb)
  have SZ14 := am_ (show w13.heap.size ≤ w14.heap.size from below_size (below_step (by repeat (first | (with_reducible first | exact Below.refl _ _ | apply below_alloc | apply pw_below_drewN | apply below_drew1) | exact Below.refl _ _)) hb))
  clear hb
  go_wp2_with fail
  refine calls_of_args (args' := #[.slice Arg0 UX4.length crg0, .int .i64 1]) (by rw [VX4.out]) ?_
  refine (laws_heldIntS.calls kX5 _ _ UX4 1 _ _ (by repeat (first | exact (Kd.R_reads' HOg0.out).2.2 | (with_reducible refine Kd.C_alloc ?_ _) | (with_reducible refine Kd.C_drewN ?_ _) | (with_reducible refine Kd.C_drew ?_))) (by rw [VX4.out]; exact (Kd.R_reads' HOg0.out).2.1) X5.out).mono ?_
  rintro e w15 ⟨rfl, hb0⟩
  have hb := db_ hb0
  clear hb0
  have n_ := am_ (Kd.R_below (by (with_reducible repeat (first | apply Kd.R_alloc | apply Kd.R_drewN | apply Kd.R_drew)); exact HOw0.out) hb); clear HOw0; have HOw0 := n_; clear n_
  have n_ := am_ (Kd.R_below (by (with_reducible repeat (first | apply Kd.R_alloc | apply Kd.R_drewN | apply Kd.R_drew)); exact HOx0.out) hb); clear HOx0; have HOx0 := n_; clear n_
  have n_ := am_ (Kd.R_below (by (with_reducible repeat (first | apply Kd.R_alloc | apply Kd.R_drewN | apply Kd.R_drew)); exact HOg0.out) hb); clear HOg0; have HOg0 := n_; clear n_
  have n_ := am_ (Kd.R_below (by (with_reducible repeat (first | apply Kd.R_alloc | apply Kd.R_drewN | apply Kd.R_drew)); exact HOh0.out) hb); clear HOh0; have HOh0 := n_; clear n_
  have HB15 := am_ (below_step (by repeat (first | (with_reducible first | exact HB14.out | apply below_alloc | apply pw_below_drewN | apply below_drew1) | exact HB14.out)) hb)
  have SZ15 := am_ (show w14.heap.size ≤ w15.heap.size from below_size (below_step (by repeat (first | (with_reducible first | exact Below.refl _ _ | apply below_alloc | apply pw_below_drewN | apply below_drew1) | exact Below.refl _ _)) hb))
  clear hb
  go_wp2
  go_ret
  exact ⟨rfl, (by repeat (first | (with_reducible first | exact HB15.out | apply below_alloc | apply pw_below_drewN | apply below_drew1) | exact HB15.out))⟩
end Go.Proofs.Ytiaakolalhdelaa.O
