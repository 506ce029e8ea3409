/- Walks of our own, a part of those for the law FnConcentration: each function's contract in plain Lean. No condition beyond the bounds that each contract names. -/
import Derived.Test.YtiaakolalhdelaaPureFnConcentration
import Derived.Test.YtiaakolalhdelaaOFnConcentrationa
namespace Go.Proofs.Ytiaakolalhdelaa.O
open Go.RowKit Go.Proofs.YtiaakolalhdelaaW.PrintWords Go.Proofs.YtiaakolalhdelaaW.PrintLast Go.Proofs.YtiaakolalhdelaaW.PrintMore Go.Proofs.Ytiaakolalhdelaa.PL17C Go.Proofs.Ytiaakolalhdelaa.EvKit Go.Proofs.Ytiaakolalhdelaa.Pure
set_option linter.unusedVariables false
set_option linter.unusedSimpArgs false
attribute [local go_sem] max2_int min2_int max_two min_two max_three min_three max_four min_four
set_option maxHeartbeats 16000000 in
set_option maxRecDepth 100000 in
theorem concS_c (A0 : Option Addr) (c0 : Nat) (xs : List S51) (lim : Int) (w : World) (hr0 : Kd.C k51 w A0 xs.length xs) (hc0 : xs.length ≤ c0) (hn : xs.length ≤ 1048576) :
    Calls Try.prog 33 #[.slice A0 xs.length c0, .int .i64 lim] w fun e w' => ∃ v, e = .returned (.tuple #[v, .bool (excessA xs lim).2]) ∧ (Kd.int .i64).R 3 w' w.heap.size (fun _ => True) v (excessA xs lim).1 ∧ Below w.heap.size w w' := by
  have HB := am_ (Below.refl w.heap.size w)
  have HR0 := am_ hr0
  have HC0 := am_ hc0
  obtain ⟨kv, hv⟩ := roundsOf (specGood_ev xs hn)
  have hw := l1In_eq lim 0 1000
  clear hr0 hc0
  by_cases g : goodA xs = true
  rotate_left
  · rw [show goodA xs = false from by simpa using g] at hv
    have HV := am_ hv
    have HNO := am_ (excess_no (l := lim) (fun q => g q.1))
    clear hv hw g
    go_enter Try.func33, Try.ntmps33
    go_wp2_with fail
    refine (spec_l17Good.calls kv A0 c0 xs false _ (by repeat first | exact (Kd.C_below HR0.out HB.out) | with_reducible refine ca_ ?_ _ | with_reducible refine cn_ ?_ _ | with_reducible refine cd_ ?_) HC0.out HV.out).mono ?_
    rintro e w1 ⟨rfl, hb⟩
    replace HB := am_ (below_step (by repeat first | (with_reducible first | exact HB.out | apply ba_ | apply bn_ | apply bd_) | exact HB.out) hb); clear hb
    go_wp2_with (((with_reducible refine gate_dst (N := 19) rfl ?_); refine Kd.R_lit (Kd.int .i64) w.heap.size 3 (w0 := w) ?hg (N := 19) ?hd (xs := []) (inner := []) (ok := fun _ => True) (okp := fun _ => True) ?hr ?hp (fun _ hk => hk) trivial (by repeat first | (with_reducible first | exact HB.out | apply ba_ | apply bn_ | apply bd_) | exact HB.out) (below_size (by repeat first | (with_reducible first | exact HB.out | apply ba_ | apply bn_ | apply bd_) | exact HB.out)) (by simp) ?_; (case hd => rfl); (case hg => rfl); (case hr => first | (go_simp; done) | (go_simp; rfl)); (case hp => exact (Reps.none _ _)); intro v1 w1 ho hb hgr hnw); have HO5 := am_ ho; clear HB; have HB := am_ hb; clear ho hb hgr hnw)
    go_ret2
    exact ⟨_, by rw [HNO.out]; rfl, by rw [HNO.out]; exact (by (with_reducible repeat first | apply ra_ | apply rn_ | apply rd_); exact HO5.out), (by repeat first | (with_reducible first | exact HB.out | apply ba_ | apply bn_ | apply bd_) | exact HB.out)⟩
  rw [g] at hv
  have HV := am_ hv
  by_cases hl : 0 ≤ lim ∧ lim ≤ 1000
  rotate_left
  · rw [decide_eq_false hl] at hw
    have HW := am_ hw
    have HNO := am_ (excess_no (xs := xs) (l := lim) (fun q => hl q.2))
    clear hv hw g hl
    go_enter Try.func33, Try.ntmps33
    go_wp2_with fail
    refine (spec_l17Good.calls kv A0 c0 xs true _ (by repeat first | exact (Kd.C_below HR0.out HB.out) | with_reducible refine ca_ ?_ _ | with_reducible refine cn_ ?_ _ | with_reducible refine cd_ ?_) HC0.out HV.out).mono ?_
    rintro e w1 ⟨rfl, hb⟩
    replace HB := am_ (below_step (by repeat first | (with_reducible first | exact HB.out | apply ba_ | apply bn_ | apply bd_) | exact HB.out) hb); clear hb
    go_wp2_with fail
    refine (spec_l1In.calls lim 0 1000 false _ HW.out).mono ?_
    rintro e w2 ⟨rfl, ⟨q2, rfl⟩⟩
    go_wp2_with (((with_reducible refine gate_dst (N := 19) rfl ?_); refine Kd.R_lit (Kd.int .i64) w.heap.size 3 (w0 := w) ?hg (N := 19) ?hd (xs := []) (inner := []) (ok := fun _ => True) (okp := fun _ => True) ?hr ?hp (fun _ hk => hk) trivial (by repeat first | (with_reducible first | exact HB.out | apply ba_ | apply bn_ | apply bd_) | exact HB.out) (below_size (by repeat first | (with_reducible first | exact HB.out | apply ba_ | apply bn_ | apply bd_) | exact HB.out)) (by simp) ?_; (case hd => rfl); (case hg => rfl); (case hr => first | (go_simp; done) | (go_simp; rfl)); (case hp => exact (Reps.none _ _)); intro v1 w1 ho hb hgr hnw); have HO5 := am_ ho; clear HB; have HB := am_ hb; clear ho hb hgr hnw)
    go_ret2
    exact ⟨_, by rw [HNO.out]; rfl, by rw [HNO.out]; exact (by (with_reducible repeat first | apply ra_ | apply rn_ | apply rd_); exact HO5.out), (by repeat first | (with_reducible first | exact HB.out | apply ba_ | apply bn_ | apply bd_) | exact HB.out)⟩
  rw [decide_eq_true hl] at hw
  have HW := am_ hw
  obtain ⟨OUT, AL, hO, hAL, hex, hlen, hox, hsum, ⟨s0, s1⟩, ⟨m0, m1⟩, ⟨al0, al1⟩⟩ := excess_yes g hl
  obtain ⟨S, hS⟩ : ∃ S, S = sumA xs := ⟨_, rfl⟩
  rw [← hS] at hAL hsum s0 s1 m0 m1
  have HEX := am_ hex
  have HOX := am_ hox
  have HFO := am_ hO
  have HS := am_ hS
  have HAL := am_ hAL
  have HOL := am_ hlen
  have HOK := am_ (of_decide_eq_true g).1
  have HLN := am_ (of_decide_eq_true g).2.1
  have HSUM := am_ hsum
  have hn20 := (of_decide_eq_true g).2.1
  clear hv hw g hex hox hO hS hlen hsum
  go_enter Try.func33, Try.ntmps33
  go_wp2_with fail
  refine (spec_l17Good.calls kv A0 c0 xs true _ (by repeat first | exact (Kd.C_below HR0.out HB.out) | with_reducible refine ca_ ?_ _ | with_reducible refine cn_ ?_ _ | with_reducible refine cd_ ?_) HC0.out HV.out).mono ?_
  rintro e w1 ⟨rfl, hb⟩
  replace HB := am_ (below_step (by repeat first | (with_reducible first | exact HB.out | apply ba_ | apply bn_ | apply bd_) | exact HB.out) hb); clear hb
  go_wp2_with fail
  refine (spec_l1In.calls lim 0 1000 true _ HW.out).mono ?_
  rintro e w2 ⟨rfl, ⟨q2, rfl⟩⟩
  go_wp2_with ((with_reducible refine gate_dst (N := 20) rfl ?_); refine Kd.R_make (Kd.int .i64) w.heap.size 3 rfl (N := 20) rfl 39 _ _ rfl (10 : Int) rfl rfl Try.underlying39 (.int .i64 0) 8 infoI rfl (by decide) (by omega) 0 (ok := fun _ => True) (okp := fun _ => True) rfl (fun _ hk => hk) trivial (by omega) (by omega) (by repeat first | (with_reducible first | exact HB.out | apply ba_ | apply bn_ | apply bd_) | exact HB.out) (below_size (by repeat first | (with_reducible first | exact HB.out | apply ba_ | apply bn_ | apply bd_) | exact HB.out)) ?_; intro v1 w1 ho hb _ _)
  obtain ⟨g, cap, hv, hg1, hg2, cells, hg3⟩ := Kd.R_form ho (by decide)
  obtain rfl : v1 = .slice (some ⟨g, 0, none⟩) 10 cap := hv
  have HO := am_ (show (Kd.int .i64).R 3 w1 w.heap.size (fun _ => True) (.slice (some ⟨g, 0, none⟩) 10 cap) (List.replicate 10 0) from ho)
  have HG1 := am_ hg1
  clear HB
  have HB := am_ hb
  clear ho hb hg2 hg3 cells hg1
  go_loopw [7, 8] (fun v7 v8 wr => ∃ (pre rest : List S51) (out : List Int), v7 = .int .i64 (sumA pre) ∧ v8 = .int .i64 pre.length ∧ Aside0 (xs = pre ++ rest) ∧ Aside0 (out.length = 10) ∧ Aside0 (foldK out rest = OUT) ∧ Aside0 (isSums out (sumA pre)) ∧ Aside0 ((Kd.int .i64).R 3 wr w.heap.size (fun _ => True) (.slice (some ⟨g, 0, none⟩) 10 cap) out) ∧ Aside0 (Below w.heap.size w wr)) (fun _ v8 _ => xs.length - (intOf v8).toNat)
  case atStart => exact ⟨[], xs, List.replicate 10 0, rfl, rfl, ⟨rfl⟩, ⟨List.length_replicate⟩, ⟨HFO.out.symm⟩, ⟨by simp, (fun x hx => by rw [List.eq_of_mem_replicate hx]; decide), by decide⟩, ⟨(by (with_reducible repeat first | apply ra_ | apply rn_ | apply rd_); exact HO.out)⟩, ⟨(by repeat first | (with_reducible first | exact HB.out | apply ba_ | apply bn_ | apply bd_) | exact HB.out)⟩⟩
  case round =>
    clear HO HB
    obtain ⟨pre, rest, out, rfl, rfl, HX, HL, HP, HI, HO, HB⟩ := hrel
    cases rest with
    | nil =>
      have c : decide (pre.length < xs.length) = false := decide_eq_false (by have := len_nil HX.out; omega)
      have hxp : xs = pre := by simpa using HX.out
      have HO2 := am_ (show (Kd.int .i64).R 3 wr w.heap.size (fun _ => True) (.slice (some ⟨g, 0, none⟩) 10 cap) OUT from by rw [← HP.out]; exact HO.out)
      have hsp : sumA pre = S := by rw [← hxp]; exact HS.out.symm
      rw [hsp]
      clear HX hxp HP HI HL HO hsp
      go_upto_region 10 with (fail)
      obtain ⟨W0, hW0⟩ : ∃ W0, W0 = wr := ⟨_, rfl⟩
      subst hW0
      have HBR := am_ (Below.refl W0.heap.size W0)
      go_wp2_with (((with_reducible refine gate_dst (N := 55) rfl ?_); refine Kd.R_lit (Kd.int .i64) W0.heap.size 3 (w0 := W0) ?hg (N := 55) ?hd (xs := []) (inner := []) (ok := fun _ => True) (okp := fun _ => True) ?hr ?hp (fun _ hk => hk) trivial (by repeat first | (with_reducible first | exact HBR.out | apply ba_ | apply bn_ | apply bd_) | exact HBR.out) (below_size (by repeat first | (with_reducible first | exact HBR.out | apply ba_ | apply bn_ | apply bd_) | exact HBR.out)) (by simp) ?_; (case hd => rfl); (case hg => rfl); (case hr => first | (go_simp; done) | (go_simp; rfl)); (case hp => exact (Reps.none _ _)); intro v1 w1 ho hb hgr hnw); have HO9 := am_ ho; have HBW := am_ hb; clear HBR ho hb hgr hnw)
      go_loopw [9, 10] (fun v9 v10 wz => ∃ (k : Nat), v10 = .int .i64 k ∧ Aside0 (k ≤ 10) ∧ Aside0 ((Kd.int .i64).R 3 wz W0.heap.size (fun _ => True) v9 ((OUT.take k).map (fun x => max0 (x - AL)))) ∧ Aside0 (Below W0.heap.size W0 wz)) (fun _ v10 _ => 10 - (intOf v10).toNat)
      case atStart => exact ⟨0, rfl, ⟨by omega⟩, ⟨(by (with_reducible repeat first | apply ra_ | apply rn_ | apply rd_); exact HO9.out)⟩, ⟨(by repeat first | (with_reducible first | exact HBW.out | apply ba_ | apply bn_ | apply bd_) | exact HBW.out)⟩⟩
      case round =>
        clear HO9 HBW
        obtain ⟨k, rfl, HK, HO9, HBW⟩ := hrel
        by_cases hk : k < 10
        · have c2 : decide ((k : Int) < 10) = true := decide_eq_true (by omega)
          have c3 : decide (k < 10) = true := decide_eq_true hk
          have hko : k < OUT.length := by rw [HOL.out]; exact hk
          have q0 : (0 : Int) ≤ (k : Int) := by omega
          have q1 : (k : Int) < 10 := by omega
          have tn : (k : Int).toNat = k := Int.toNat_natCast k
          obtain ⟨x, hx⟩ : ∃ x, x = OUT[k] := ⟨_, rfl⟩
          have hy : W0.cell? ⟨g, k, none⟩ = some (.int .i64 x) := by
            have h := (Kd.R_celln 0 HO2.out (k : Int) q0 (by omega)).1
            rw [tn] at h
            rw [h, rdOf, tn, List.getD_eq_getElem?_getD, List.getElem?_eq_getElem hko, hx]
            rfl
          have hy1 := (HBW.out.cell (World.block_lt_of_cell? W0 _ hy)).trans hy
          have hxb := HOX.out x (by rw [hx]; exact List.getElem_mem hko)
          have x0 := hxb.1
          have x1 := hxb.2
          have HM := am_ (specMost0 (x - AL))
          have HST := am_ (show (OUT.take (k + 1)).map (fun x => max0 (x - AL)) = (OUT.take k).map (fun x => max0 (x - AL)) ++ [max0 (x - AL)] from by
            rw [List.take_succ_eq_append_getElem hko, List.map_append, hx]; rfl)
          have hml : (((OUT.take k).map (fun x => max0 (x - AL))).length + 1) * 8 ≤ 140737488355328 := by rw [List.length_map, List.length_take]; omega
          obtain ⟨MX, hMX⟩ : ∃ M, M = max0 (x - AL) := ⟨_, rfl⟩
          rw [← hMX] at HM HST
          clear hy hx hxb hMX hko
          go_wp2_with fail
          -- HERE1
          rw [show Int.tdiv (S * lim) 1000 = AL from HAL.out.symm]
          refine (spec_l1Most.calls (x - AL) 0 MX _ HM.out).mono ?_
          rintro e w3 ⟨rfl, ⟨q3, rfl⟩⟩
          go_wp2_with (((with_reducible refine gate_builtin (b := .append) (xs := #[.tmp 60, .tmp 71]) rfl ?_); at_builtin; refine Kd.R_append (Kd.int .i64) (w0 := W0) W0.heap.size rfl (.tmp 60) (.tmp 71) 39 3 (.int .i64 0) 8 rfl Try.underlying39 infoI rfl (by decide) (by omega) u9 ((OUT.take k).map (fun x => max0 (x - AL))) MX [.int .i64 MX] (fun _ => True) (fun _ => False) rfl rfl ?aP (fun _ hk => hk.elim) ?aF ?aO ?aB ?aS ?aL ?_; (case aP => exact rfl); (case aB => exact (by repeat first | (with_reducible first | exact HBW.out | apply ba_ | apply bn_ | apply bd_) | exact HBW.out)); (case aF => exact (fun _ _ => trivial)); (case aO => exact (by (with_reducible repeat first | apply ra_ | apply rn_ | apply rd_); exact HO9.out)); (case aS => exact (below_size (by repeat first | (with_reducible first | exact HBW.out | apply ba_ | apply bn_ | apply bd_) | exact HBW.out))); (case aL => omega); intro v1 w1 ho hb hg hat); clear HBW HO9; have HO9 := am_ ho; have HBW := am_ hb; clear ho hb hg hat)
          go_roundw
          case rel => exact ⟨k + 1, by go_num, ⟨by omega⟩, ⟨by rw [HST.out]; exact (by (with_reducible repeat first | apply ra_ | apply rn_ | apply rd_); exact HO9.out)⟩, ⟨(by repeat first | (with_reducible first | exact HBW.out | apply ba_ | apply bn_ | apply bd_) | exact HBW.out)⟩⟩
          case measure => simp [intOf]; omega
        · have c2 : decide ((k : Int) < 10) = false := decide_eq_false (by omega)
          have c3 : decide (k < 10) = false := decide_eq_false hk
          have HD := am_ (show (Kd.int .i64).R 3 wr w.heap.size (fun _ => True) u9 (OUT.map (fun x => max0 (x - AL))) from by
            have h := HO9.out
            rw [List.take_of_length_le (by rw [HOL.out]; omega)] at h
            exact Kd.R_lower h (below_size (by repeat first | (with_reducible first | exact HB.out | apply ba_ | apply bn_ | apply bd_) | exact HB.out)))
          have HZ := am_ (below_step HB.out HBW.out)
          clear HO9 hk
          go_wp2
          go_ret2
          exact ⟨_, by rw [HEX.out]; rfl, by rw [HEX.out]; exact (by (with_reducible repeat first | apply ra_ | apply rn_ | apply rd_); exact HD.out), (by repeat first | (with_reducible first | exact HZ.out | apply ba_ | apply bn_ | apply bd_) | exact HZ.out)⟩
    | cons a t =>
      have hlt := len_cons HX.out
      have hpl : (pre.length : Int) < xs.length := by omega
      have ha := HOK.out a (by rw [HX.out]; simp)
      have p0 := ha.1.1
      have p9 : a.f0 < 10 := by have := ha.1.2; omega
      have v0 := ha.2.1.1
      have v1_ := ha.2.1.2
      obtain ⟨hs', hr⟩ := isSums_add HI.out ha
      have hpb := sumA_bd pre (fun b hb => HOK.out b (by rw [HX.out]; simp [hb]))
      obtain ⟨ad, e0, hx0, hx1, hx2⟩ := at_T51 HR0.out (pre.length : Int) (by omega) hpl
      rw [rd_T51_at HX.out rfl] at hx0 hx1 hx2
      simp only [Int.toNat_natCast] at hx0 hx1 hx2
      cases e0
      have X1 := am_ hx1
      replace hx0 := (HB.out.cell (World.block_lt_of_cell? w _ hx0)).trans hx0
      replace hx1 := (HB.out.cell (World.block_lt_of_cell? w _ hx1)).trans hx1
      have c : decide (pre.length < xs.length) = true := decide_eq_true (by omega)
      have c' : pre.length < xs.length := by omega
      have tn : (pre.length : Int).toNat = pre.length := Int.toNat_natCast _
      have q0 : (0 : Int) ≤ (pre.length : Int) := by omega
      obtain ⟨V, hV⟩ : ∃ V, V = rd out a.f0 := ⟨_, rfl⟩
      have hy : wr.cell? ⟨g, a.f0.toNat, none⟩ = some (.int .i64 V) := by rw [hV]; exact (Kd.R_celln 0 HO.out a.f0 p0 p9).1
      have hf := (Kd.R_celln 0 HO.out a.f0 p0 p9).2
      rw [← hV] at hr
      have r0 := hr.1
      have r1 := hr.2
      have hsp : 0 ≤ sumA pre ∧ sumA pre ≤ 1000000000 * pre.length := hpb
      have HADD := am_ (show addK out a = out.set a.f0.toNat (V + a.f1) from by rw [addK, hV])
      have HI2 := am_ hs'
      have HF2 := am_ (show foldK (addK out a) t = OUT from HP.out)
      have hlm : pre.length ≤ 20 := by omega
      have HSX := am_ (snoc HX.out)
      have HSA := am_ (sumA_snoc pre a)
      clear hlt hx2 ha hs' hr hV hpb HP HI
      obtain ⟨SP, hSP⟩ : ∃ SP, SP = sumA pre := ⟨_, rfl⟩
      have HSP := am_ hSP
      rw [← hSP] at r1 hsp ⊢
      have sp0 := hsp.1
      have sp1 := hsp.2
      clear hSP hsp
      go_upto_region 8 with (fail)
      go_region
      clear hy hf hx0 hx1
      have HO1 := am_ (Kd.R_drew (Kd.R_putn HO.out a.f0 (V + a.f1)))
      have HB1 := am_ (below_drew (below_set (j := a.f0.toNat) (v := .int .i64 (V + a.f1)) HB.out HG1.out))
      clear HO HB
      generalize (wr.setCell ⟨g, a.f0.toNat, none⟩ (.int .i64 (V + a.f1))).drew = wr1 at HO1 HB1 ⊢
      have hx1 := (HB1.out.cell (World.block_lt_of_cell? w _ X1.out)).trans X1.out
      go_wp2
      go_roundw
      case rel => exact ⟨pre ++ [a], t, addK out a, by rw [HSA.out, HSP.out], by rw [len_snoc], HSX, ⟨by rw [HADD.out, List.length_set]; exact HL.out⟩, HF2, ⟨by rw [HSA.out]; exact HI2.out⟩, ⟨by rw [HADD.out]; exact (by (with_reducible repeat first | apply ra_ | apply rn_ | apply rd_); exact HO1.out)⟩, ⟨(by repeat first | (with_reducible first | exact HB1.out | apply ba_ | apply bn_ | apply bd_) | exact HB1.out)⟩⟩
      case measure => simp [intOf]; omega
end Go.Proofs.Ytiaakolalhdelaa.O
