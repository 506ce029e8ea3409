/- Walks of our own, a part of those for the law FnRegular: each function's contract in plain Lean. No condition beyond the bounds that each contract names. -/
import Derived.Test.YtlmdghcpcohamaaPureFnRegular
import Derived.Deep.RegionWith
import Derived.Shelf.Sort.Plain
import Derived.Shelf.Lays
import Derived.Test.YtlmdghcpcohamaaOFnRegulara
import Derived.Test.YtlmdghcpcohamaaOFnRegularb
namespace Go.Proofs.Ytlmdghcpcohamaa.O
open Go.RowKit Go.Proofs.YtlmdghcpcohamaaW.PrintWords Go.Proofs.YtlmdghcpcohamaaW.PrintLast Go.Proofs.YtlmdghcpcohamaaW.PrintMore Go.Proofs.Ytlmdghcpcohamaa.PL14G Go.Proofs.Ytlmdghcpcohamaa.EvKit Go.Proofs.Ytlmdghcpcohamaa.Pure
set_option linter.unusedVariables false
set_option linter.unusedSimpArgs false
attribute [local go_sem] max2_int min2_int max_two min_two max_three min_three max_four min_four
set_option maxHeartbeats 16000000 in
set_option maxRecDepth 100000 in
theorem regI_c (a b m : Int) (bk : Bool) (w : World) :
    Calls Try.prog 42 #[.int .i64 a, .int .i64 b, .int .i64 m, .bool bk] w fun e w' => ∃ v, e = .returned (.tuple #[v, .bool (regA a b m bk).2]) ∧ (Kd.int .i64).R 3 w' w.heap.size (fun _ => True) v (regA a b m bk).1 ∧ Below w.heap.size w w' := by
  have HB := am_ (Below.refl w.heap.size w)
  have hda := isDay_eq a
  have hdb := isDay_eq b
  have hw := within_eq m 1 120
  by_cases ha : 0 ≤ a ∧ a ≤ 36524
  rotate_left
  · rw [decide_eq_false ha] at hda
    have HA := am_ hda
    have HNO := am_ (regA_no (b := b) (m := m) (bk := bk) (fun q => ha q.1))
    clear hda hdb hw ha
    go_enter Try.func42, Try.ntmps42
    go_wp2_with fail
    refine (impl_isDay.calls a false _ HA.out).mono ?_
    rintro e w1_ ⟨rfl, ⟨q1, rfl⟩⟩
    go_wp2
    go_ret2
    exact ⟨_, by rw [HNO.out]; rfl, by rw [HNO.out]; exact Kd.R_nil _ _ _ _ _, (by repeat first | (with_reducible first | exact HB.out | apply ba_ | apply bn_ | apply bd_) | exact HB.out)⟩
  rw [decide_eq_true ha] at hda
  have HA := am_ hda
  by_cases hb : 0 ≤ b ∧ b ≤ 36524
  rotate_left
  · rw [decide_eq_false hb] at hdb
    have HBD := am_ hdb
    have HNO := am_ (regA_no (a := a) (m := m) (bk := bk) (fun q => hb q.2.1))
    clear hda hdb hw ha hb
    go_enter Try.func42, Try.ntmps42
    go_wp2_with fail
    refine (impl_isDay.calls a true _ HA.out).mono ?_
    rintro e w1_ ⟨rfl, ⟨q1, rfl⟩⟩
    go_wp2_with fail
    refine (impl_isDay.calls b false _ HBD.out).mono ?_
    rintro e w1_ ⟨rfl, ⟨q1, rfl⟩⟩
    go_wp2
    go_ret2
    exact ⟨_, by rw [HNO.out]; rfl, by rw [HNO.out]; exact Kd.R_nil _ _ _ _ _, (by repeat first | (with_reducible first | exact HB.out | apply ba_ | apply bn_ | apply bd_) | exact HB.out)⟩
  rw [decide_eq_true hb] at hdb
  have HBD := am_ hdb
  by_cases hab : a < b
  rotate_left
  · have d0 : decide (b ≤ a) = true := decide_eq_true (by omega)
    have HNO := am_ (regA_no (m := m) (bk := bk) (fun q => hab q.2.2.1))
    clear hda hdb hw ha hb hab
    go_enter Try.func42, Try.ntmps42
    go_wp2_with fail
    refine (impl_isDay.calls a true _ HA.out).mono ?_
    rintro e w1_ ⟨rfl, ⟨q1, rfl⟩⟩
    go_wp2_with fail
    refine (impl_isDay.calls b true _ HBD.out).mono ?_
    rintro e w1_ ⟨rfl, ⟨q1, rfl⟩⟩
    go_wp2
    go_ret2
    exact ⟨_, by rw [HNO.out]; rfl, by rw [HNO.out]; exact Kd.R_nil _ _ _ _ _, (by repeat first | (with_reducible first | exact HB.out | apply ba_ | apply bn_ | apply bd_) | exact HB.out)⟩
  have d0 : decide (b ≤ a) = false := decide_eq_false (by omega)
  by_cases hm : 1 ≤ m ∧ m ≤ 120
  rotate_left
  · rw [decide_eq_false hm] at hw
    have HW := am_ hw
    have HNO := am_ (regA_no (a := a) (b := b) (bk := bk) (fun q => hm q.2.2.2))
    clear hda hdb hw ha hb hab hm
    go_enter Try.func42, Try.ntmps42
    go_wp2_with fail
    refine (impl_isDay.calls a true _ HA.out).mono ?_
    rintro e w1_ ⟨rfl, ⟨q1, rfl⟩⟩
    go_wp2_with fail
    refine (impl_isDay.calls b true _ HBD.out).mono ?_
    rintro e w1_ ⟨rfl, ⟨q1, rfl⟩⟩
    go_wp2_with fail
    refine (impl_within.calls m 1 120 false _ HW.out).mono ?_
    rintro e w3_ ⟨rfl, ⟨q3, rfl⟩⟩
    go_wp2
    go_ret2
    exact ⟨_, by rw [HNO.out]; rfl, by rw [HNO.out]; exact Kd.R_nil _ _ _ _ _, (by repeat first | (with_reducible first | exact HB.out | apply ba_ | apply bn_ | apply bd_) | exact HB.out)⟩
  rw [decide_eq_true hm] at hw
  have HW := am_ hw
  have HG := am_ (show (0 ≤ a ∧ a ≤ 36524) ∧ (0 ≤ b ∧ b ≤ 36524) ∧ a < b ∧ (1 ≤ m ∧ m ≤ 120) from ⟨ha, hb, hab, hm⟩)
  have hm1_ := hm.1
  have hm2_ := hm.2
  clear hda hdb hw ha hb hab hm
  cases bk with
  | false =>
    go_enter Try.func42, Try.ntmps42
    go_wp2_with fail
    refine (impl_isDay.calls a true _ HA.out).mono ?_
    rintro e w1_ ⟨rfl, ⟨q1, rfl⟩⟩
    go_wp2_with fail
    refine (impl_isDay.calls b true _ HBD.out).mono ?_
    rintro e w1_ ⟨rfl, ⟨q1, rfl⟩⟩
    go_wp2_with fail
    refine (impl_within.calls m 1 120 true _ HW.out).mono ?_
    rintro e w3_ ⟨rfl, ⟨q3, rfl⟩⟩
    go_wp2_with (((with_reducible refine gate_dst (N := 35) rfl ?_); refine Kd.R_lit (Kd.int .i64) w.heap.size 3 (w0 := w) ?hg (N := 35) ?hd (xs := ([a] : List Int)) (inner := [.int .i64 a]) (ok := fun _ => True) (okp := fun _ => True) ?hr ?hp (fun _ hk => hk) trivial (by repeat first | (with_reducible first | exact HB.out | apply ba_ | apply bn_ | apply bd_) | exact HB.out) (below_size (by repeat first | (with_reducible first | exact HB.out | apply ba_ | apply bn_ | apply bd_) | exact HB.out)) (by simp) ?_; (case hd => rfl); (case hg => rfl); (case hr => first | (go_simp; done) | (go_simp; rfl)); (case hp => exact (Reps.one (show Kd.M (Kd.int .i64) _ _ _ a [.int .i64 a] from rfl) (Reps.none _ _))); intro v1 w1 ho hb hgr hnw); have HO := am_ ho; clear HB; have HB := am_ hb; clear ho hb hgr hnw)
    go_loopw [10, 13] (fun v10 v13 wr => ∃ (k : Nat) (pre : List Int), v13 = .int .i64 k ∧ Aside0 (1 ≤ k ∧ k ≤ 1201 ∧ pre.length ≤ k) ∧ Aside0 (regS a b m false = pre ++ regL a b a (m) (1202 - k) k) ∧ Aside0 ((Kd.int .i64).R 3 wr w.heap.size (fun _ => True) v10 (a :: pre)) ∧ Aside0 (Below w.heap.size w wr)) (fun _ v13 _ => 1300 - (intOf v13).toNat)
    case atStart => exact ⟨1, [], rfl, ⟨by omega, by omega, by simp⟩, ⟨by rw [List.nil_append]; unfold regS; simp⟩, ⟨(by (with_reducible repeat first | apply ra_ | apply rn_ | apply rd_); exact HO.out)⟩, ⟨(by repeat first | (with_reducible first | exact HB.out | apply ba_ | apply bn_ | apply bd_) | exact HB.out)⟩⟩
    case round =>
      clear HO HB
      obtain ⟨k, pre, rfl, HK, HS, HO, HB⟩ := hrel
      have k0 := HK.out.1
      have k1 := HK.out.2.1
      have hkp := HK.out.2.2
      have hmb := mulB (s := m) k1 (by omega)
      have hm0 := hmb.1
      have hm1 := hmb.2
      have hfew := regD_few (day := a) (s := m) (k := k) HG.out.1 (by omega)
      have hgo := fun h => regL_go (lo := a) (hi := b) (day := a) (s := m) k1 h
      have hen := fun h => regL_end (lo := a) (hi := b) (day := a) (s := m) k1 h
      have HAM := am_ (fun W => addMonI_c a ((k : Int) * (m)) HG.out.1 (by omega) W)
      have ham := HAM.out
      rw [show addD (dateC a).1 (dateC a).2.1 (dateC a).2.2 ((k : Int) * (m)) = regD a (m) k from rfl] at ham
      obtain ⟨D, hD⟩ : ∃ D, D = regD a (m) k := ⟨_, rfl⟩
      rw [← hD] at ham hfew hgo hen
      clear HAM hD hmb
      obtain ⟨dy, ok⟩ := D
      simp only at ham hfew hgo hen
      have HAM := am_ ham
      clear ham
      go_wp2_with fail
      refine (HAM.out _).mono ?_
      rintro e w5 ⟨rfl, hb⟩
      replace HO := am_ (Kd.R_below (by (with_reducible repeat first | apply ra_ | apply rn_ | apply rd_); exact HO.out) hb); replace HB := am_ (below_step (by repeat first | (with_reducible first | exact HB.out | apply ba_ | apply bn_ | apply bd_) | exact HB.out) hb); clear hb
      by_cases hc : ok = true ∧ a < dy ∧ dy < b
      · obtain ⟨rfl, h1, h2⟩ := hc
        have hk2 := (hfew rfl).1
        have HS2 := am_ (show regS a b m false = (pre ++ [dy]) ++ regL a b a (m) (1202 - (k + 1)) (k + 1) from by rw [HS.out, hgo ⟨rfl, h1, h2⟩, List.append_assoc]; rfl)
        have d1 : decide (dy ≤ a) = false := decide_eq_false (by omega)
        have d2 : decide (b ≤ dy) = false := decide_eq_false (by omega)
        have hml : ((a :: pre).length + 1) * 8 ≤ 140737488355328 := by simp only [List.length_cons]; omega
        clear hfew hgo hen
        go_wp2_with (((with_reducible refine gate_builtin (b := .append) (xs := #[.tmp 64, .tmp 66]) rfl ?_); at_builtin; refine Kd.R_append (Kd.int .i64) (w0 := w) w.heap.size rfl (.tmp 64) (.tmp 66) 32 3 (.int .i64 0) 8 rfl Try.underlying32 infoI rfl (by decide) (by omega) u10 (a :: pre) dy [.int .i64 dy] (fun _ => True) (fun _ => False) rfl rfl ?aP (fun _ hk => hk.elim) ?aF ?aO ?aB ?aS ?aL ?_; (case aP => exact rfl); (case aB => exact (by repeat first | (with_reducible first | exact HB.out | apply ba_ | apply bn_ | apply bd_) | exact HB.out)); (case aF => exact (fun _ _ => trivial)); (case aO => exact (by (with_reducible repeat first | apply ra_ | apply rn_ | apply rd_); exact HO.out)); (case aS => exact (below_size (by repeat first | (with_reducible first | exact HB.out | apply ba_ | apply bn_ | apply bd_) | exact HB.out))); (case aL => omega); intro v1 w1 ho hb hg hat); clear HO HB; have HO := am_ ho; have HB := am_ hb; clear ho hb hg hat)
        go_roundw
        case rel => exact ⟨k + 1, pre ++ [dy], by go_num, ⟨by omega, by omega, by rw [List.length_append]; simp; omega⟩, HS2, ⟨(by (with_reducible repeat first | apply ra_ | apply rn_ | apply rd_); exact HO.out)⟩, ⟨(by repeat first | (with_reducible first | exact HB.out | apply ba_ | apply bn_ | apply bd_) | exact HB.out)⟩⟩
        case measure => simp [intOf]; omega
      · have HS2 := am_ (show regS a b m false = pre from by rw [HS.out, hen hc, List.append_nil])
        have HREG := am_ (regA_yes (bk := false) HG.out)
        have hsort := reg_sort (back := false) HG.out
        rw [HS2.out] at hsort
        have hml : ((a :: pre).length + 1) * 8 ≤ 140737488355328 := by simp only [List.length_cons]; omega
        obtain ⟨ZS, hZS⟩ : ∃ Z, Z = a :: (pre ++ [b]) := ⟨_, rfl⟩
        have HZL := am_ (show ZS.length = pre.length + 2 from by rw [hZS]; simp)
        have HZ := am_ (show (a :: pre) ++ [b] = ZS from hZS.symm)
        rw [← hZS] at hsort
        have HSO := am_ hsort
        clear hsort hZS hgo hen hfew
        have BRK := fun (P : Prop) (h : P) => h
        by_cases ho_ : ok = true
        · subst ho_
          by_cases h1 : dy ≤ a
          · have d1 : decide (dy ≤ a) = true := decide_eq_true h1
            clear hc h1 BRK
            go_wp2_with (((with_reducible refine gate_builtin (b := .append) (xs := #[.tmp 68, .tmp 70]) rfl ?_); at_builtin; refine Kd.R_append (Kd.int .i64) (w0 := w) w.heap.size rfl (.tmp 68) (.tmp 70) 32 3 (.int .i64 0) 8 rfl Try.underlying32 infoI rfl (by decide) (by omega) u10 (a :: pre) b [.int .i64 b] (fun _ => True) (fun _ => False) rfl rfl ?aP (fun _ hk => hk.elim) ?aF ?aO ?aB ?aS ?aL ?_; (case aP => exact rfl); (case aB => exact (by repeat first | (with_reducible first | exact HB.out | apply ba_ | apply bn_ | apply bd_) | exact HB.out)); (case aF => exact (fun _ _ => trivial)); (case aO => exact (by (with_reducible repeat first | apply ra_ | apply rn_ | apply rd_); exact HO.out)); (case aS => exact (below_size (by repeat first | (with_reducible first | exact HB.out | apply ba_ | apply bn_ | apply bd_) | exact HB.out))); (case aL => omega); intro v1 w1 ho hb hg hat); rw [HZ.out] at ho; clear HO HB; have HO := am_ ho; have HB := am_ hb; clear ho hb hg hat)
            obtain ⟨g, cap, hv, _, _⟩ := Kd.R_form HO.out (by have := HZL.out; omega)
            subst hv
            refine (sortI_c g cap ZS w _ (by (with_reducible repeat first | apply ra_ | apply rn_ | apply rd_); exact HO.out) (by repeat first | (with_reducible first | exact HB.out | apply ba_ | apply bn_ | apply bd_) | exact HB.out) (by have := HZL.out; omega)).mono ?_
            rw [HSO.out]
            rintro e w7 ⟨rfl, ho, hb⟩
            clear HO HB
            have HO := am_ ho
            have HB := am_ hb
            clear ho hb
            by_cases hl : pre.length ≤ 39
            · have d3 : decide (41 < ZS.length) = false := decide_eq_false (by have := HZL.out; omega)
              have d4 : decide ((41 : Int) < (ZS.length : Int)) = false := decide_eq_false (by have := HZL.out; omega)
              have HF := am_ (show regA a b m _ = _ from HREG.out.trans (if_pos (by rw [HS2.out]; exact hl)))
              clear hl
              go_wp2
              go_ret2
              exact ⟨_, by rw [HF.out]; rfl, by rw [HF.out]; exact (by (with_reducible repeat first | apply ra_ | apply rn_ | apply rd_); exact HO.out), (by repeat first | (with_reducible first | exact HB.out | apply ba_ | apply bn_ | apply bd_) | exact HB.out)⟩
            · have d3 : decide (41 < ZS.length) = true := decide_eq_true (by have := HZL.out; omega)
              have d4 : decide ((41 : Int) < (ZS.length : Int)) = true := decide_eq_true (by have := HZL.out; omega)
              have HF := am_ (show regA a b m _ = _ from HREG.out.trans (if_neg (by rw [HS2.out]; exact hl)))
              clear hl
              go_wp2
              go_ret2
              exact ⟨_, by rw [HF.out]; rfl, by rw [HF.out]; exact Kd.R_nil _ _ _ _ _, (by repeat first | (with_reducible first | exact HB.out | apply ba_ | apply bn_ | apply bd_) | exact HB.out)⟩
          · have d1 : decide (dy ≤ a) = false := decide_eq_false h1
            have d2 : decide (b ≤ dy) = true := decide_eq_true (by
              by_cases q : b ≤ dy
              · exact q
              · exact absurd ⟨rfl, by omega, by omega⟩ hc)
            clear hc h1 BRK
            go_wp2_with (((with_reducible refine gate_builtin (b := .append) (xs := #[.tmp 68, .tmp 70]) rfl ?_); at_builtin; refine Kd.R_append (Kd.int .i64) (w0 := w) w.heap.size rfl (.tmp 68) (.tmp 70) 32 3 (.int .i64 0) 8 rfl Try.underlying32 infoI rfl (by decide) (by omega) u10 (a :: pre) b [.int .i64 b] (fun _ => True) (fun _ => False) rfl rfl ?aP (fun _ hk => hk.elim) ?aF ?aO ?aB ?aS ?aL ?_; (case aP => exact rfl); (case aB => exact (by repeat first | (with_reducible first | exact HB.out | apply ba_ | apply bn_ | apply bd_) | exact HB.out)); (case aF => exact (fun _ _ => trivial)); (case aO => exact (by (with_reducible repeat first | apply ra_ | apply rn_ | apply rd_); exact HO.out)); (case aS => exact (below_size (by repeat first | (with_reducible first | exact HB.out | apply ba_ | apply bn_ | apply bd_) | exact HB.out))); (case aL => omega); intro v1 w1 ho hb hg hat); rw [HZ.out] at ho; clear HO HB; have HO := am_ ho; have HB := am_ hb; clear ho hb hg hat)
            obtain ⟨g, cap, hv, _, _⟩ := Kd.R_form HO.out (by have := HZL.out; omega)
            subst hv
            refine (sortI_c g cap ZS w _ (by (with_reducible repeat first | apply ra_ | apply rn_ | apply rd_); exact HO.out) (by repeat first | (with_reducible first | exact HB.out | apply ba_ | apply bn_ | apply bd_) | exact HB.out) (by have := HZL.out; omega)).mono ?_
            rw [HSO.out]
            rintro e w7 ⟨rfl, ho, hb⟩
            clear HO HB
            have HO := am_ ho
            have HB := am_ hb
            clear ho hb
            by_cases hl : pre.length ≤ 39
            · have d3 : decide (41 < ZS.length) = false := decide_eq_false (by have := HZL.out; omega)
              have d4 : decide ((41 : Int) < (ZS.length : Int)) = false := decide_eq_false (by have := HZL.out; omega)
              have HF := am_ (show regA a b m _ = _ from HREG.out.trans (if_pos (by rw [HS2.out]; exact hl)))
              clear hl
              go_wp2
              go_ret2
              exact ⟨_, by rw [HF.out]; rfl, by rw [HF.out]; exact (by (with_reducible repeat first | apply ra_ | apply rn_ | apply rd_); exact HO.out), (by repeat first | (with_reducible first | exact HB.out | apply ba_ | apply bn_ | apply bd_) | exact HB.out)⟩
            · have d3 : decide (41 < ZS.length) = true := decide_eq_true (by have := HZL.out; omega)
              have d4 : decide ((41 : Int) < (ZS.length : Int)) = true := decide_eq_true (by have := HZL.out; omega)
              have HF := am_ (show regA a b m _ = _ from HREG.out.trans (if_neg (by rw [HS2.out]; exact hl)))
              clear hl
              go_wp2
              go_ret2
              exact ⟨_, by rw [HF.out]; rfl, by rw [HF.out]; exact Kd.R_nil _ _ _ _ _, (by repeat first | (with_reducible first | exact HB.out | apply ba_ | apply bn_ | apply bd_) | exact HB.out)⟩
        · obtain rfl : ok = false := by simpa using ho_
          clear hc ho_ BRK
          go_wp2_with (((with_reducible refine gate_builtin (b := .append) (xs := #[.tmp 68, .tmp 70]) rfl ?_); at_builtin; refine Kd.R_append (Kd.int .i64) (w0 := w) w.heap.size rfl (.tmp 68) (.tmp 70) 32 3 (.int .i64 0) 8 rfl Try.underlying32 infoI rfl (by decide) (by omega) u10 (a :: pre) b [.int .i64 b] (fun _ => True) (fun _ => False) rfl rfl ?aP (fun _ hk => hk.elim) ?aF ?aO ?aB ?aS ?aL ?_; (case aP => exact rfl); (case aB => exact (by repeat first | (with_reducible first | exact HB.out | apply ba_ | apply bn_ | apply bd_) | exact HB.out)); (case aF => exact (fun _ _ => trivial)); (case aO => exact (by (with_reducible repeat first | apply ra_ | apply rn_ | apply rd_); exact HO.out)); (case aS => exact (below_size (by repeat first | (with_reducible first | exact HB.out | apply ba_ | apply bn_ | apply bd_) | exact HB.out))); (case aL => omega); intro v1 w1 ho hb hg hat); rw [HZ.out] at ho; clear HO HB; have HO := am_ ho; have HB := am_ hb; clear ho hb hg hat)
          obtain ⟨g, cap, hv, _, _⟩ := Kd.R_form HO.out (by have := HZL.out; omega)
          subst hv
          refine (sortI_c g cap ZS w _ (by (with_reducible repeat first | apply ra_ | apply rn_ | apply rd_); exact HO.out) (by repeat first | (with_reducible first | exact HB.out | apply ba_ | apply bn_ | apply bd_) | exact HB.out) (by have := HZL.out; omega)).mono ?_
          rw [HSO.out]
          rintro e w7 ⟨rfl, ho, hb⟩
          clear HO HB
          have HO := am_ ho
          have HB := am_ hb
          clear ho hb
          by_cases hl : pre.length ≤ 39
          · have d3 : decide (41 < ZS.length) = false := decide_eq_false (by have := HZL.out; omega)
            have d4 : decide ((41 : Int) < (ZS.length : Int)) = false := decide_eq_false (by have := HZL.out; omega)
            have HF := am_ (show regA a b m _ = _ from HREG.out.trans (if_pos (by rw [HS2.out]; exact hl)))
            clear hl
            go_wp2
            go_ret2
            exact ⟨_, by rw [HF.out]; rfl, by rw [HF.out]; exact (by (with_reducible repeat first | apply ra_ | apply rn_ | apply rd_); exact HO.out), (by repeat first | (with_reducible first | exact HB.out | apply ba_ | apply bn_ | apply bd_) | exact HB.out)⟩
          · have d3 : decide (41 < ZS.length) = true := decide_eq_true (by have := HZL.out; omega)
            have d4 : decide ((41 : Int) < (ZS.length : Int)) = true := decide_eq_true (by have := HZL.out; omega)
            have HF := am_ (show regA a b m _ = _ from HREG.out.trans (if_neg (by rw [HS2.out]; exact hl)))
            clear hl
            go_wp2
            go_ret2
            exact ⟨_, by rw [HF.out]; rfl, by rw [HF.out]; exact Kd.R_nil _ _ _ _ _, (by repeat first | (with_reducible first | exact HB.out | apply ba_ | apply bn_ | apply bd_) | exact HB.out)⟩
  | true =>
    go_enter Try.func42, Try.ntmps42
    go_wp2_with fail
    refine (impl_isDay.calls a true _ HA.out).mono ?_
    rintro e w1_ ⟨rfl, ⟨q1, rfl⟩⟩
    go_wp2_with fail
    refine (impl_isDay.calls b true _ HBD.out).mono ?_
    rintro e w1_ ⟨rfl, ⟨q1, rfl⟩⟩
    go_wp2_with fail
    refine (impl_within.calls m 1 120 true _ HW.out).mono ?_
    rintro e w3_ ⟨rfl, ⟨q3, rfl⟩⟩
    go_wp2_with (((with_reducible refine gate_dst (N := 35) rfl ?_); refine Kd.R_lit (Kd.int .i64) w.heap.size 3 (w0 := w) ?hg (N := 35) ?hd (xs := ([a] : List Int)) (inner := [.int .i64 a]) (ok := fun _ => True) (okp := fun _ => True) ?hr ?hp (fun _ hk => hk) trivial (by repeat first | (with_reducible first | exact HB.out | apply ba_ | apply bn_ | apply bd_) | exact HB.out) (below_size (by repeat first | (with_reducible first | exact HB.out | apply ba_ | apply bn_ | apply bd_) | exact HB.out)) (by simp) ?_; (case hd => rfl); (case hg => rfl); (case hr => first | (go_simp; done) | (go_simp; rfl)); (case hp => exact (Reps.one (show Kd.M (Kd.int .i64) _ _ _ a [.int .i64 a] from rfl) (Reps.none _ _))); intro v1 w1 ho hb hgr hnw); have HO := am_ ho; clear HB; have HB := am_ hb; clear ho hb hgr hnw)
    go_loopw [10, 13] (fun v10 v13 wr => ∃ (k : Nat) (pre : List Int), v13 = .int .i64 k ∧ Aside0 (1 ≤ k ∧ k ≤ 1201 ∧ pre.length ≤ k) ∧ Aside0 (regS a b m true = pre ++ regL a b b (-m) (1202 - k) k) ∧ Aside0 ((Kd.int .i64).R 3 wr w.heap.size (fun _ => True) v10 (a :: pre)) ∧ Aside0 (Below w.heap.size w wr)) (fun _ v13 _ => 1300 - (intOf v13).toNat)
    case atStart => exact ⟨1, [], rfl, ⟨by omega, by omega, by simp⟩, ⟨by rw [List.nil_append]; unfold regS; simp⟩, ⟨(by (with_reducible repeat first | apply ra_ | apply rn_ | apply rd_); exact HO.out)⟩, ⟨(by repeat first | (with_reducible first | exact HB.out | apply ba_ | apply bn_ | apply bd_) | exact HB.out)⟩⟩
    case round =>
      clear HO HB
      obtain ⟨k, pre, rfl, HK, HS, HO, HB⟩ := hrel
      have k0 := HK.out.1
      have k1 := HK.out.2.1
      have hkp := HK.out.2.2
      have hmb := mulB (s := -m) k1 (by omega)
      have hm0 := hmb.1
      have hm1 := hmb.2
      have hfew := regD_few (day := b) (s := -m) (k := k) HG.out.2.1 (by omega)
      have hgo := fun h => regL_go (lo := a) (hi := b) (day := b) (s := -m) k1 h
      have hen := fun h => regL_end (lo := a) (hi := b) (day := b) (s := -m) k1 h
      have HAM := am_ (fun W => addMonI_c b ((k : Int) * (-m)) HG.out.2.1 (by omega) W)
      have ham := HAM.out
      rw [show addD (dateC b).1 (dateC b).2.1 (dateC b).2.2 ((k : Int) * (-m)) = regD b (-m) k from rfl] at ham
      obtain ⟨D, hD⟩ : ∃ D, D = regD b (-m) k := ⟨_, rfl⟩
      rw [← hD] at ham hfew hgo hen
      clear HAM hD hmb
      obtain ⟨dy, ok⟩ := D
      simp only at ham hfew hgo hen
      have HAM := am_ ham
      clear ham
      go_wp2_with fail
      refine (HAM.out _).mono ?_
      rintro e w5 ⟨rfl, hb⟩
      replace HO := am_ (Kd.R_below (by (with_reducible repeat first | apply ra_ | apply rn_ | apply rd_); exact HO.out) hb); replace HB := am_ (below_step (by repeat first | (with_reducible first | exact HB.out | apply ba_ | apply bn_ | apply bd_) | exact HB.out) hb); clear hb
      by_cases hc : ok = true ∧ a < dy ∧ dy < b
      · obtain ⟨rfl, h1, h2⟩ := hc
        have hk2 := (hfew rfl).1
        have HS2 := am_ (show regS a b m true = (pre ++ [dy]) ++ regL a b b (-m) (1202 - (k + 1)) (k + 1) from by rw [HS.out, hgo ⟨rfl, h1, h2⟩, List.append_assoc]; rfl)
        have d1 : decide (dy ≤ a) = false := decide_eq_false (by omega)
        have d2 : decide (b ≤ dy) = false := decide_eq_false (by omega)
        have hml : ((a :: pre).length + 1) * 8 ≤ 140737488355328 := by simp only [List.length_cons]; omega
        clear hfew hgo hen
        go_wp2_with (((with_reducible refine gate_builtin (b := .append) (xs := #[.tmp 64, .tmp 66]) rfl ?_); at_builtin; refine Kd.R_append (Kd.int .i64) (w0 := w) w.heap.size rfl (.tmp 64) (.tmp 66) 32 3 (.int .i64 0) 8 rfl Try.underlying32 infoI rfl (by decide) (by omega) u10 (a :: pre) dy [.int .i64 dy] (fun _ => True) (fun _ => False) rfl rfl ?aP (fun _ hk => hk.elim) ?aF ?aO ?aB ?aS ?aL ?_; (case aP => exact rfl); (case aB => exact (by repeat first | (with_reducible first | exact HB.out | apply ba_ | apply bn_ | apply bd_) | exact HB.out)); (case aF => exact (fun _ _ => trivial)); (case aO => exact (by (with_reducible repeat first | apply ra_ | apply rn_ | apply rd_); exact HO.out)); (case aS => exact (below_size (by repeat first | (with_reducible first | exact HB.out | apply ba_ | apply bn_ | apply bd_) | exact HB.out))); (case aL => omega); intro v1 w1 ho hb hg hat); clear HO HB; have HO := am_ ho; have HB := am_ hb; clear ho hb hg hat)
        go_roundw
        case rel => exact ⟨k + 1, pre ++ [dy], by go_num, ⟨by omega, by omega, by rw [List.length_append]; simp; omega⟩, HS2, ⟨(by (with_reducible repeat first | apply ra_ | apply rn_ | apply rd_); exact HO.out)⟩, ⟨(by repeat first | (with_reducible first | exact HB.out | apply ba_ | apply bn_ | apply bd_) | exact HB.out)⟩⟩
        case measure => simp [intOf]; omega
      · have HS2 := am_ (show regS a b m true = pre from by rw [HS.out, hen hc, List.append_nil])
        have HREG := am_ (regA_yes (bk := true) HG.out)
        have hsort := reg_sort (back := true) HG.out
        rw [HS2.out] at hsort
        have hml : ((a :: pre).length + 1) * 8 ≤ 140737488355328 := by simp only [List.length_cons]; omega
        obtain ⟨ZS, hZS⟩ : ∃ Z, Z = a :: (pre ++ [b]) := ⟨_, rfl⟩
        have HZL := am_ (show ZS.length = pre.length + 2 from by rw [hZS]; simp)
        have HZ := am_ (show (a :: pre) ++ [b] = ZS from hZS.symm)
        rw [← hZS] at hsort
        have HSO := am_ hsort
        clear hsort hZS hgo hen hfew
        have BRK := fun (P : Prop) (h : P) => h
        by_cases ho_ : ok = true
        · subst ho_
          by_cases h1 : dy ≤ a
          · have d1 : decide (dy ≤ a) = true := decide_eq_true h1
            clear hc h1 BRK
            go_wp2_with (((with_reducible refine gate_builtin (b := .append) (xs := #[.tmp 68, .tmp 70]) rfl ?_); at_builtin; refine Kd.R_append (Kd.int .i64) (w0 := w) w.heap.size rfl (.tmp 68) (.tmp 70) 32 3 (.int .i64 0) 8 rfl Try.underlying32 infoI rfl (by decide) (by omega) u10 (a :: pre) b [.int .i64 b] (fun _ => True) (fun _ => False) rfl rfl ?aP (fun _ hk => hk.elim) ?aF ?aO ?aB ?aS ?aL ?_; (case aP => exact rfl); (case aB => exact (by repeat first | (with_reducible first | exact HB.out | apply ba_ | apply bn_ | apply bd_) | exact HB.out)); (case aF => exact (fun _ _ => trivial)); (case aO => exact (by (with_reducible repeat first | apply ra_ | apply rn_ | apply rd_); exact HO.out)); (case aS => exact (below_size (by repeat first | (with_reducible first | exact HB.out | apply ba_ | apply bn_ | apply bd_) | exact HB.out))); (case aL => omega); intro v1 w1 ho hb hg hat); rw [HZ.out] at ho; clear HO HB; have HO := am_ ho; have HB := am_ hb; clear ho hb hg hat)
            obtain ⟨g, cap, hv, _, _⟩ := Kd.R_form HO.out (by have := HZL.out; omega)
            subst hv
            refine (sortI_c g cap ZS w _ (by (with_reducible repeat first | apply ra_ | apply rn_ | apply rd_); exact HO.out) (by repeat first | (with_reducible first | exact HB.out | apply ba_ | apply bn_ | apply bd_) | exact HB.out) (by have := HZL.out; omega)).mono ?_
            rw [HSO.out]
            rintro e w7 ⟨rfl, ho, hb⟩
            clear HO HB
            have HO := am_ ho
            have HB := am_ hb
            clear ho hb
            by_cases hl : pre.length ≤ 39
            · have d3 : decide (41 < ZS.length) = false := decide_eq_false (by have := HZL.out; omega)
              have d4 : decide ((41 : Int) < (ZS.length : Int)) = false := decide_eq_false (by have := HZL.out; omega)
              have HF := am_ (show regA a b m _ = _ from HREG.out.trans (if_pos (by rw [HS2.out]; exact hl)))
              clear hl
              go_wp2
              go_ret2
              exact ⟨_, by rw [HF.out]; rfl, by rw [HF.out]; exact (by (with_reducible repeat first | apply ra_ | apply rn_ | apply rd_); exact HO.out), (by repeat first | (with_reducible first | exact HB.out | apply ba_ | apply bn_ | apply bd_) | exact HB.out)⟩
            · have d3 : decide (41 < ZS.length) = true := decide_eq_true (by have := HZL.out; omega)
              have d4 : decide ((41 : Int) < (ZS.length : Int)) = true := decide_eq_true (by have := HZL.out; omega)
              have HF := am_ (show regA a b m _ = _ from HREG.out.trans (if_neg (by rw [HS2.out]; exact hl)))
              clear hl
              go_wp2
              go_ret2
              exact ⟨_, by rw [HF.out]; rfl, by rw [HF.out]; exact Kd.R_nil _ _ _ _ _, (by repeat first | (with_reducible first | exact HB.out | apply ba_ | apply bn_ | apply bd_) | exact HB.out)⟩
          · have d1 : decide (dy ≤ a) = false := decide_eq_false h1
            have d2 : decide (b ≤ dy) = true := decide_eq_true (by
              by_cases q : b ≤ dy
              · exact q
              · exact absurd ⟨rfl, by omega, by omega⟩ hc)
            clear hc h1 BRK
            go_wp2_with (((with_reducible refine gate_builtin (b := .append) (xs := #[.tmp 68, .tmp 70]) rfl ?_); at_builtin; refine Kd.R_append (Kd.int .i64) (w0 := w) w.heap.size rfl (.tmp 68) (.tmp 70) 32 3 (.int .i64 0) 8 rfl Try.underlying32 infoI rfl (by decide) (by omega) u10 (a :: pre) b [.int .i64 b] (fun _ => True) (fun _ => False) rfl rfl ?aP (fun _ hk => hk.elim) ?aF ?aO ?aB ?aS ?aL ?_; (case aP => exact rfl); (case aB => exact (by repeat first | (with_reducible first | exact HB.out | apply ba_ | apply bn_ | apply bd_) | exact HB.out)); (case aF => exact (fun _ _ => trivial)); (case aO => exact (by (with_reducible repeat first | apply ra_ | apply rn_ | apply rd_); exact HO.out)); (case aS => exact (below_size (by repeat first | (with_reducible first | exact HB.out | apply ba_ | apply bn_ | apply bd_) | exact HB.out))); (case aL => omega); intro v1 w1 ho hb hg hat); rw [HZ.out] at ho; clear HO HB; have HO := am_ ho; have HB := am_ hb; clear ho hb hg hat)
            obtain ⟨g, cap, hv, _, _⟩ := Kd.R_form HO.out (by have := HZL.out; omega)
            subst hv
            refine (sortI_c g cap ZS w _ (by (with_reducible repeat first | apply ra_ | apply rn_ | apply rd_); exact HO.out) (by repeat first | (with_reducible first | exact HB.out | apply ba_ | apply bn_ | apply bd_) | exact HB.out) (by have := HZL.out; omega)).mono ?_
            rw [HSO.out]
            rintro e w7 ⟨rfl, ho, hb⟩
            clear HO HB
            have HO := am_ ho
            have HB := am_ hb
            clear ho hb
            by_cases hl : pre.length ≤ 39
            · have d3 : decide (41 < ZS.length) = false := decide_eq_false (by have := HZL.out; omega)
              have d4 : decide ((41 : Int) < (ZS.length : Int)) = false := decide_eq_false (by have := HZL.out; omega)
              have HF := am_ (show regA a b m _ = _ from HREG.out.trans (if_pos (by rw [HS2.out]; exact hl)))
              clear hl
              go_wp2
              go_ret2
              exact ⟨_, by rw [HF.out]; rfl, by rw [HF.out]; exact (by (with_reducible repeat first | apply ra_ | apply rn_ | apply rd_); exact HO.out), (by repeat first | (with_reducible first | exact HB.out | apply ba_ | apply bn_ | apply bd_) | exact HB.out)⟩
            · have d3 : decide (41 < ZS.length) = true := decide_eq_true (by have := HZL.out; omega)
              have d4 : decide ((41 : Int) < (ZS.length : Int)) = true := decide_eq_true (by have := HZL.out; omega)
              have HF := am_ (show regA a b m _ = _ from HREG.out.trans (if_neg (by rw [HS2.out]; exact hl)))
              clear hl
              go_wp2
              go_ret2
              exact ⟨_, by rw [HF.out]; rfl, by rw [HF.out]; exact Kd.R_nil _ _ _ _ _, (by repeat first | (with_reducible first | exact HB.out | apply ba_ | apply bn_ | apply bd_) | exact HB.out)⟩
        · obtain rfl : ok = false := by simpa using ho_
          clear hc ho_ BRK
          go_wp2_with (((with_reducible refine gate_builtin (b := .append) (xs := #[.tmp 68, .tmp 70]) rfl ?_); at_builtin; refine Kd.R_append (Kd.int .i64) (w0 := w) w.heap.size rfl (.tmp 68) (.tmp 70) 32 3 (.int .i64 0) 8 rfl Try.underlying32 infoI rfl (by decide) (by omega) u10 (a :: pre) b [.int .i64 b] (fun _ => True) (fun _ => False) rfl rfl ?aP (fun _ hk => hk.elim) ?aF ?aO ?aB ?aS ?aL ?_; (case aP => exact rfl); (case aB => exact (by repeat first | (with_reducible first | exact HB.out | apply ba_ | apply bn_ | apply bd_) | exact HB.out)); (case aF => exact (fun _ _ => trivial)); (case aO => exact (by (with_reducible repeat first | apply ra_ | apply rn_ | apply rd_); exact HO.out)); (case aS => exact (below_size (by repeat first | (with_reducible first | exact HB.out | apply ba_ | apply bn_ | apply bd_) | exact HB.out))); (case aL => omega); intro v1 w1 ho hb hg hat); rw [HZ.out] at ho; clear HO HB; have HO := am_ ho; have HB := am_ hb; clear ho hb hg hat)
          obtain ⟨g, cap, hv, _, _⟩ := Kd.R_form HO.out (by have := HZL.out; omega)
          subst hv
          refine (sortI_c g cap ZS w _ (by (with_reducible repeat first | apply ra_ | apply rn_ | apply rd_); exact HO.out) (by repeat first | (with_reducible first | exact HB.out | apply ba_ | apply bn_ | apply bd_) | exact HB.out) (by have := HZL.out; omega)).mono ?_
          rw [HSO.out]
          rintro e w7 ⟨rfl, ho, hb⟩
          clear HO HB
          have HO := am_ ho
          have HB := am_ hb
          clear ho hb
          by_cases hl : pre.length ≤ 39
          · have d3 : decide (41 < ZS.length) = false := decide_eq_false (by have := HZL.out; omega)
            have d4 : decide ((41 : Int) < (ZS.length : Int)) = false := decide_eq_false (by have := HZL.out; omega)
            have HF := am_ (show regA a b m _ = _ from HREG.out.trans (if_pos (by rw [HS2.out]; exact hl)))
            clear hl
            go_wp2
            go_ret2
            exact ⟨_, by rw [HF.out]; rfl, by rw [HF.out]; exact (by (with_reducible repeat first | apply ra_ | apply rn_ | apply rd_); exact HO.out), (by repeat first | (with_reducible first | exact HB.out | apply ba_ | apply bn_ | apply bd_) | exact HB.out)⟩
          · have d3 : decide (41 < ZS.length) = true := decide_eq_true (by have := HZL.out; omega)
            have d4 : decide ((41 : Int) < (ZS.length : Int)) = true := decide_eq_true (by have := HZL.out; omega)
            have HF := am_ (show regA a b m _ = _ from HREG.out.trans (if_neg (by rw [HS2.out]; exact hl)))
            clear hl
            go_wp2
            go_ret2
            exact ⟨_, by rw [HF.out]; rfl, by rw [HF.out]; exact Kd.R_nil _ _ _ _ _, (by repeat first | (with_reducible first | exact HB.out | apply ba_ | apply bn_ | apply bd_) | exact HB.out)⟩
def tab79_6_T : Bool × List (List Nat × List Nat) := (true, [([], []), ([], []), ([], []), ([1, 2], [1, 2]), ([0, 3], [0, 3]), ([], []), ([5], [5]), ([4, 6, 4], [4, 6]), ([], []), ([], []), ([8, 9], [8, 9]), ([7, 10, 7], [7, 10]), ([11, 11, 0, 1, 2, 3, 4, 5, 6, 7, 8, 9, 10, 11], [11])])
def tab79_6_B : List Nat := [0, 0, 0, 6, 15, 0, 32, 127, 0, 0, 768, 2047, 4095]
theorem tab79_6_t : rtab .any (opsOf Try.f79 6) = tab79_6_T := by kernel_rfl
theorem tab79_6_b : waitsOk tab79_6_T.2 tab79_6_B = true := by kernel_rfl
section
variable {P : Program} {ops : Array Oper} {md : Region.Mode} {S : World → Prop} {ds : List Nat} {Q : Exit → Act → World → Prop}
/-- Two operations may come next, behind either nothing is shown. -/
theorem two_last {i j : Nat} {Ni Nj : Option Tmp} {oi oj : Oper} {fuel : Nat} {l : Array Bool} {a : Act} {w : World} (li lj : Array Bool) (hi : ops[i]? = some oi) (hj : ops[j]? = some oj) (hNi : oi.dst = Ni) (hNj : oj.dst = Nj)
    (hc : (Region.ready md ops l == [i, j] && l.setIfInBounds i true == li && l.setIfInBounds j true == lj) = true) (hdi : i ∈ ds) (hdj : j ∈ ds)
    (h1 : ∀ K : Act → World → Prop, Shut (∀ a' w', wpAnyLast P md ops Q S ds fuel li a' w' → K a' w') → if Region.wanted oi (yielded ops a.tmps) = true then Oper.wp P oi a w K Q else K (a.put Ni undef) w)
    (h2 : ∀ K : Act → World → Prop, Shut (∀ a' w', wpAnyLast P md ops Q S ds fuel lj a' w' → K a' w') → if Region.wanted oj (yielded ops a.tmps) = true then Oper.wp P oj a w K Q else K (a.put Nj undef) w) :
    wpAnyLast P md ops Q S ds (fuel + 1) l a w := by
  subst hNi
  subst hNj
  simp only [Bool.and_eq_true, beq_iff_eq] at hc
  obtain ⟨⟨h0, hi_⟩, hj_⟩ := hc
  subst hi_
  subst hj_
  exact wpAnyLast_ready h0 (by simp) (AllReadyL.cons_last hi hdi (fun K hK => h1 K hK) (AllReadyL.cons_last hj hdj (fun K hK => h2 K hK) AllReadyL.nil))
end
section
variable {P : Program} {ops : Array Oper} {o : Oper} {a : Act} {Q : Exit → Act → World → Prop} {Kc : Act → World → Prop}
/-- append(v, ys...), one step of a region that draws its order. -/
theorem append_row_step {w0 W : World} (base : Nat) (hw : Region.wanted o (yielded ops a.tmps) = true) (s x : Operand) (t : TypeId) (ho : o.op = .call { callee := .builtin .append, args := #[s, x], argTypes := #[t, t] }) (ht : P.underlying t = some (.slice 3)) (hinfo : (P.info? 3).map (fun i => (i.zero, i.size, i.bytes)) = some (some (.int .i64 0), 1, 8))
    (v : Value) (xs ys : List Int) (ad : Addr) (m c : Nat) (hs : a.eval s = v) (hx : a.eval x = .slice (some ad) m c) (hm : ys.length = m) (hcells : ∀ (j : Nat) (u : Int), ys[j]? = some u → W.cell? (ad.add j) = some (.int .i64 u))
    (HO : (Kd.int .i64).R 3 W base (fun _ => True) v xs) (HB : Below base w0 W) (hbase : base ≤ W.heap.size) (hl : (xs.length + m) * 8 ≤ 140737488355328)
    (h : ∀ v1 w1, (Kd.int .i64).R 3 w1 base (fun _ => True) v1 (xs ++ ys) → Below base w0 w1 → W.grownBy w1 v.ownBlock → (v1.ownBlock = v.ownBlock ∨ v1.ownBlock = some W.heap.size) → W.heap.size ≤ w1.heap.size → Kc (a.put o.dst v1) w1) :
    if Region.wanted o (yielded ops a.tmps) = true then Oper.wp P o a W Kc Q else Kc (a.put o.dst undef) W := by
  obtain ⟨i0, hi, hzz⟩ := Option.map_eq_some_iff.1 hinfo
  simp only [Prod.mk.injEq] at hzz
  obtain ⟨hz0, hz1, hz2⟩ := hzz
  have hown := Kd.own_of_R HO
  have hlen : xs.length + m ≤ 140737488355328 := by omega
  obtain ⟨v1, w1, hr, h2, h3, _, h5⟩ := run_append_own_at (P := P) W base t o.type 3 i0 (.int .i64 0) 1 8 ht hi hz0 hz1 hz2 rfl (by omega) v xs.length (encs (Value.int .i64) xs) hown ad m c (encs (Value.int .i64) ys) (by simp [encs, hm])
    (fun j u hu => by
      rw [encs, List.getElem?_map] at hu
      obtain ⟨y, hy, rfl⟩ := Option.map_eq_some_iff.mp hu
      exact hcells j y hy)
    (by intro u hu; simp only [encs, List.mem_map] at hu; obtain ⟨q, _, rfl⟩ := hu; rfl) (by simp only [maxLen]; omega) hl hbase
  rw [if_pos hw]
  unfold Oper.wp execOp
  simp only [ho, resolve, invoke, builtin, Sem.run_bind, Sem.run_pure, Result.andThen_ok, List.map_toArray, List.map_cons, List.map_nil, hs, hx, hr]
  exact h v1 w1 (Kd.R_of_own (by simpa [encs, hm] using h2) (fun _ _ => trivial)) (HB.grown h3 hbase (own_base hown)) h3 h5 h3.size
end
theorem R_made0 (W : World) (base : Nat) (hb : base ≤ W.heap.size) : (Kd.int .i64).R 3 (W.alloc (.cells #[] 3)) base (fun _ => True) (.slice (some ⟨W.heap.size, 0, none⟩) 0 0) [] :=
  Kd.R_lower (Kd.R_of_own (World.ownsRow_made W #[] 0 (Nat.le_refl _) (Nat.zero_le _) rfl) (fun _ _ => trivial)) hb
theorem takeCells {w : World} {b n : Nat} {xs : List Int} (h : (Kd.int .i64).C w (some ⟨b, 0, none⟩) xs.length xs) (hn : n ≤ xs.length) : ∀ (j : Nat) (u : Int), (xs.take n)[j]? = some u → w.cell? ((⟨b, 0, none⟩ : Addr).add j) = some (.int .i64 u) := by
  intro j u hu
  have hj : j < n := by
    have := (List.getElem?_eq_some_iff.mp hu).1
    rw [List.length_take] at this; omega
  rw [List.getElem?_take, if_pos hj] at hu
  have h1 := cellsOfD h j (by omega)
  rw [Nat.zero_add, List.getD_eq_getElem?_getD, hu] at h1
  rw [Addr.add_lit, Nat.zero_add]
  exact h1
theorem dropCells {w : World} {b n : Nat} {xs : List Int} (h : (Kd.int .i64).C w (some ⟨b, 0, none⟩) xs.length xs) : ∀ (j : Nat) (u : Int), (xs.drop n)[j]? = some u → w.cell? ((⟨b, n, none⟩ : Addr).add j) = some (.int .i64 u) := by
  intro j u hu
  rw [List.getElem?_drop] at hu
  have hj := (List.getElem?_eq_some_iff.mp hu).1
  have h1 := cellsOfD h (n + j) hj
  rw [Nat.zero_add, List.getD_eq_getElem?_getD, hu] at h1
  rw [Addr.add_lit]
  exact h1
set_option maxHeartbeats 16000000 in
set_option maxRecDepth 100000 in
theorem putS_c (b c : Nat) (xs : List Int) (n : Int) (w : World) (hr0 : (Kd.int .i64).C w (some ⟨b, 0, none⟩) xs.length xs) (hc0 : xs.length ≤ c) (hn : xs.length ≤ 1000) (hne : ∀ x ∈ xs, x ≠ n) :
    Calls Try.prog 79 #[.slice (some ⟨b, 0, none⟩) xs.length c, .int .i64 n] w fun e w' => ∃ v, e = .returned v ∧ (Kd.int .i64).R 3 w' w.heap.size (fun _ => True) v (putA xs n) ∧ Below w.heap.size w w' := by
  have HB := am_ (Below.refl w.heap.size w)
  have HR0 := am_ hr0
  have HC0 := am_ hc0
  have HNE := am_ hne
  clear hr0 hc0 hne
  go_enter Try.func79, Try.ntmps79
  go_wp2_with fail
  go_loopw [5] (fun v5 wr => ∃ k : Nat, v5 = .int .i64 k ∧ Aside0 (k ≤ xs.length) ∧ Aside0 (∀ a ∈ xs.take k, a < n) ∧ Aside0 (Below w.heap.size w wr)) (fun v5 _ => xs.length - (intOf v5).toNat)
  case atStart => exact ⟨0, rfl, ⟨Nat.zero_le _⟩, ⟨by simp⟩, ⟨(by repeat first | (with_reducible first | exact HB.out | apply ba_ | apply bn_ | apply bd_) | exact HB.out)⟩⟩
  case round =>
    clear HB
    obtain ⟨k, rfl, HKL, HTL, HB⟩ := hrel
    have hkl := HKL.out
    have HTK := am_ (show (xs.take k).length = k from by rw [List.length_take]; omega)
    have tn : (k : Int).toNat = k := Int.toNat_natCast k
    have q0 : (0 : Int) ≤ (k : Int) := by omega
    by_cases hk : k < xs.length
    · have d1 : decide (k < xs.length) = true := decide_eq_true hk
      have q1 : (k : Int) < (xs.length : Int) := by omega
      obtain ⟨y, hy⟩ : ∃ y, y = xs[k] := ⟨_, rfl⟩
      have hyn : y ≠ n := by rw [hy]; exact HNE.out _ (List.getElem_mem hk)
      have hyk : xs[k]? = some y := by rw [hy]; exact List.getElem?_eq_getElem hk
      have hc_ : w.cell? ⟨b, k, none⟩ = some (.int .i64 y) := by
        have h := cellsOfD HR0.out k hk
        rw [Nat.zero_add, List.getD_eq_getElem?_getD, hyk] at h
        exact h
      have hx1 := (HB.out.cell (World.block_lt_of_cell? w _ hc_)).trans hc_
      clear hc_
      by_cases hlt : y < n
      · have d2 : decide (y < n) = true := decide_eq_true hlt
        have HTL2 := am_ (show ∀ a ∈ xs.take (k + 1), a < n from fun a ha => by
          rw [List.take_succ_eq_append_getElem hk] at ha
          rcases List.mem_append.mp ha with q | q
          · exact HTL.out a q
          · rw [List.mem_singleton.mp q, ← hy]; exact hlt)
        clear hlt hyn hy hyk
        go_wp2
        go_roundw
        case rel => exact ⟨k + 1, by go_num, ⟨by omega⟩, HTL2, ⟨(by repeat first | (with_reducible first | exact HB.out | apply ba_ | apply bn_ | apply bd_) | exact HB.out)⟩⟩
        case measure => simp [intOf]; omega
      · have d2 : decide (y < n) = false := decide_eq_false hlt
        have d3 : (y == n) = false := by simp [hyn]
        have d4 : decide (y = n) = false := decide_eq_false hyn
        have HPA := am_ (show putA xs n = xs.take k ++ [n] ++ xs.drop k from by
          rw [List.append_assoc]; show _ = xs.take k ++ n :: xs.drop k
          rw [putA_split n xs k hkl HTL.out (fun a ha => by rw [hyk] at ha; injection ha with ha; rw [← ha]; exact hlt), if_neg (by rw [hyk]; intro h; injection h with h; exact hyn h)])
        clear hlt hyn hy hyk
        have hkc : k ≤ c := Nat.le_trans hkl HC0.out
        have hcq : ¬ c = k := by have := HC0.out; omega
        go_upto_region 6 with (fail)
        refine start_ (n := 13) (S := fun w' => True) (ds := [0, 4, 6, 7, 11]) #[false, false, false, false, false, false, false, false, false, false, false, false, false] (by kernel_rfl) rfl rfl True.intro (fun hHeld => ?_)
        refine with_tabW tab79_6_t tab79_6_b (fun HT_ HW_ => ?_)
        have n_ := am_ (below_drew1 HB.out); clear HB; have HB := n_; clear n_
        generalize wr.drew = wq_ at HB hHeld ⊢
        refine pure_ (i := 1) (N := some 34) (v := ?_) (a' := ?_) #[false, true, false, false, false, false, false, false, false, false, false, false, false] rfl rfl (any_of HT_.out (by kernel_rfl)) (fun _ _ _ h => h) (Or.inl ⟨by rfl, ?_⟩) ?_ ?_
        rotate_left
        focus (intro w'; go_simp; with_reducible rfl)
        rotate_left
        focus (simp only [Act.put, List.setIfInBounds_toArray, List.set_cons_zero, List.set_cons_succ, i64_w, i32_w]; rfl)
        refine pure_ (i := 2) (N := some 35) (v := ?_) (a' := ?_) #[false, true, true, false, false, false, false, false, false, false, false, false, false] rfl rfl (any_of HT_.out (by kernel_rfl)) (fun _ _ _ h => h) (Or.inl ⟨by rfl, ?_⟩) ?_ ?_
        rotate_left
        focus (intro w'; go_simp; with_reducible rfl)
        rotate_left
        focus (simp only [Act.put, List.setIfInBounds_toArray, List.set_cons_zero, List.set_cons_succ, i64_w, i32_w]; rfl)
        refine pure_ (i := 3) (N := some 36) (v := ?_) (a' := ?_) #[false, true, true, true, false, false, false, false, false, false, false, false, false] rfl rfl (any_of HT_.out (by kernel_rfl)) (fun _ _ _ h => h) (Or.inl ⟨by rfl, ?_⟩) ?_ ?_
        rotate_left
        focus (intro w'; go_simp; with_reducible rfl)
        rotate_left
        focus (simp only [Act.put, List.setIfInBounds_toArray, List.set_cons_zero, List.set_cons_succ, i64_w, i32_w]; rfl)
        refine pure_ (i := 5) (N := some 38) (v := ?_) (a' := ?_) #[false, true, true, true, false, true, false, false, false, false, false, false, false] rfl rfl (any_of HT_.out (by kernel_rfl)) (fun _ _ _ h => h) (Or.inl ⟨by rfl, ?_⟩) ?_ ?_
        rotate_left
        focus (intro w'; go_simp; with_reducible rfl)
        rotate_left
        focus (simp only [Act.put, List.setIfInBounds_toArray, List.set_cons_zero, List.set_cons_succ, i64_w, i32_w]; rfl)
        refine pure_ (i := 8) (N := some 41) (v := ?_) (a' := ?_) #[false, true, true, true, false, true, false, false, true, false, false, false, false] rfl rfl (any_of HT_.out (by kernel_rfl)) (fun _ _ _ h => h) (Or.inl ⟨by rfl, ?_⟩) ?_ ?_
        rotate_left
        focus (intro w'; go_simp; with_reducible rfl)
        rotate_left
        focus (simp only [Act.put, List.setIfInBounds_toArray, List.set_cons_zero, List.set_cons_succ, i64_w, i32_w]; rfl)
        refine pure_ (i := 9) (N := some 42) (v := ?_) (a' := ?_) #[false, true, true, true, false, true, false, false, true, true, false, false, false] rfl rfl (any_of HT_.out (by kernel_rfl)) (fun _ _ _ h => h) (Or.inl ⟨by rfl, ?_⟩) ?_ ?_
        rotate_left
        focus (intro w'; go_simp; with_reducible rfl)
        rotate_left
        focus (simp only [Act.put, List.setIfInBounds_toArray, List.set_cons_zero, List.set_cons_succ, i64_w, i32_w]; rfl)
        refine pure_ (i := 10) (N := some 43) (v := ?_) (a' := ?_) #[false, true, true, true, false, true, false, false, true, true, true, false, false] rfl rfl (any_of HT_.out (by kernel_rfl)) (fun _ _ _ h => h) (Or.inl ⟨by rfl, ?_⟩) ?_ ?_
        rotate_left
        focus (intro w'; go_simp; with_reducible rfl)
        rotate_left
        focus (simp only [Act.put, List.setIfInBounds_toArray, List.set_cons_zero, List.set_cons_succ, i64_w, i32_w]; rfl)
        generalize wq_ = wq at HB ⊢
        refine two_last (i := 0) (j := 6) (Ni := some 33) (Nj := some 39) #[true, true, true, true, false, true, false, false, true, true, true, false, false] #[false, true, true, true, false, true, true, false, true, true, true, false, false] rfl rfl rfl rfl (two_of HT_.out (by kernel_rfl)) (by decide) (by decide) (fun K hK => ?_) (fun K hK => ?_)
        · refine value_ (w1 := ?_) (v := ?_) (by rfl) rfl ?_ ?_
          rotate_left 2
          focus (go_simp; constructor; (focus rfl); (focus rfl))
          refine hK.out _ _ ?_
          clear hK K
          refine norm_ (a' := ?_) ?_ ?_
          rotate_left
          focus (show Act.put _ (some 33) _ = _; simp only [Act.put, List.setIfInBounds_toArray, List.set_cons_zero, List.set_cons_succ, i64_w, i32_w]; rfl)
          have HE := am_ (R_made0 wq w.heap.size (below_size (by repeat first | (with_reducible first | exact HB.out | apply ba_ | apply bn_ | apply bd_) | exact HB.out)))
          have HB2 := am_ (ba_ HB.out (.cells #[] 3))
          clear HB
          generalize wq.alloc (.cells #[] 3) = we at HE HB2 ⊢
          generalize wq.heap.size = g33 at HE ⊢
          have HB := HB2
          clear HB2
          have HOWN := am_ (show ∀ q, (Value.slice (some ⟨g33, 0, none⟩) 0 0).ownBlock = some q → q = g33 from fun q h => by injection h with h; exact h.symm)
          refine two_last (i := 4) (j := 6) (Ni := some 37) (Nj := some 39) #[true, true, true, true, true, true, false, false, true, true, true, false, false] #[true, true, true, true, false, true, true, false, true, true, true, false, false] rfl rfl rfl rfl (two_of HT_.out (by kernel_rfl)) (by decide) (by decide) (fun K hK => ?_) (fun K hK => ?_)
          · refine append_row_step (w0 := w) w.heap.size (by rfl) (.tmp 33) (.tmp 36) 32 rfl Try.underlying32 infoI (.slice (some ⟨g33, 0, none⟩) 0 0) [] (xs.take k) ⟨b, 0, none⟩ k c rfl rfl HTK.out (takeCells (by repeat first | exact (Kd.C_below HR0.out HB.out) | with_reducible refine ca_ ?_ _ | with_reducible refine cn_ ?_ _ | with_reducible refine cd_ ?_) HKL.out) HE.out HB.out (below_size HB.out) (by simp only [List.length_nil]; omega) ?_
            intro vp wp ho hb hg hat hsz
            refine hK.out _ _ ?_
            clear hK K
            refine norm_ (a' := ?_) ?_ ?_
            rotate_left
            focus (show Act.put _ (some 37) _ = _; simp only [Act.put, List.setIfInBounds_toArray, List.set_cons_zero, List.set_cons_succ, i64_w, i32_w]; rfl)
            rw [List.nil_append] at ho
            clear HE HB
            have HE := am_ ho
            have HB := am_ hb
            clear ho hb hg hat hsz
            refine last_ (i := 6) (N := some 39) #[true, true, true, true, true, true, true, false, true, true, true, false, false] rfl rfl (one_of HT_.out (by kernel_rfl)) (by decide) (fun K hK => ?_)
            refine value_ (w1 := ?_) (v := ?_) (by rfl) rfl ?_ ?_
            rotate_left 2
            focus (go_simp; constructor; (focus rfl); (focus rfl))
            refine hK.out _ _ ?_
            clear hK K
            refine norm_ (a' := ?_) ?_ ?_
            rotate_left
            focus (show Act.put _ (some 39) _ = _; simp only [Act.put, List.setIfInBounds_toArray, List.set_cons_zero, List.set_cons_succ, i64_w, i32_w]; rfl)
            have BN := am_ (blk_new wp (.cells #[.int .i64 n] 3 (0, 0)))
            have HB2 := am_ (ba_ HB.out (.cells #[.int .i64 n] 3))
            have HE2 := am_ (Kd.R_alloc HE.out (.cells #[.int .i64 n] 3))
            have NP := am_ (show ∀ q, vp.ownBlock = some q → q ≠ wp.heap.size from fun q h => Nat.ne_of_lt (R_ownlt HE.out h).2)
            clear HB HE
            generalize wp.alloc (.cells #[.int .i64 n] 3) = wn at BN HB2 HE2 ⊢
            generalize wp.heap.size = h39 at BN NP ⊢
            have HB := HB2
            clear HB2
            have HE := HE2
            clear HE2
            refine last_ (i := 7) (N := some 40) #[true, true, true, true, true, true, true, true, true, true, true, false, false] rfl rfl (one_of HT_.out (by kernel_rfl)) (by decide) (fun K hK => ?_)
            refine append_row_step (w0 := w) w.heap.size (by rfl) (.tmp 37) (.tmp 39) 32 rfl Try.underlying32 infoI vp (xs.take k) [n] ⟨h39, 0, none⟩ 1 1 rfl rfl rfl (fun j u hu => by
              rcases j with _ | j
              · obtain rfl : n = u := by simpa using hu
                rw [Addr.add_lit]; exact (blk_cell BN.out 0).trans rfl
              · simp at hu) HE.out HB.out (below_size HB.out) (by rw [HTK.out]; omega) ?_
            intro vs ws ho hb hg hat hsz
            refine hK.out _ _ ?_
            clear hK K
            refine norm_ (a' := ?_) ?_ ?_
            rotate_left
            focus (show Act.put _ (some 40) _ = _; simp only [Act.put, List.setIfInBounds_toArray, List.set_cons_zero, List.set_cons_succ, i64_w, i32_w]; rfl)
            clear HE HB BN NP
            have HE := am_ ho
            have HB := am_ hb
            clear ho hb hg hat hsz
            refine last_ (i := 11) (N := some 44) #[true, true, true, true, true, true, true, true, true, true, true, true, false] rfl rfl (one_of HT_.out (by kernel_rfl)) (by decide) (fun K hK => ?_)
            refine append_row_step (w0 := w) w.heap.size (by rfl) (.tmp 40) (.tmp 43) 32 rfl Try.underlying32 infoI vs (xs.take k ++ [n]) (xs.drop k) ⟨b, k, none⟩ (xs.length - k) (c - k) rfl rfl List.length_drop (dropCells (by repeat first | exact (Kd.C_below HR0.out HB.out) | with_reducible refine ca_ ?_ _ | with_reducible refine cn_ ?_ _ | with_reducible refine cd_ ?_)) HE.out HB.out (below_size HB.out) (by rw [List.length_append, HTK.out, List.length_singleton]; omega) ?_
            intro vz wz ho hb hg hat hsz
            refine hK.out _ _ ?_
            clear hK K
            refine norm_ (a' := ?_) ?_ ?_
            rotate_left
            focus (show Act.put _ (some 44) _ = _; simp only [Act.put, List.setIfInBounds_toArray, List.set_cons_zero, List.set_cons_succ, i64_w, i32_w]; rfl)
            clear HE HB
            have HE := am_ ho
            have HB := am_ hb
            clear ho hb hg hat hsz
            refine pure_ (i := 12) (N := some 4) (v := ?_) (a' := ?_) #[true, true, true, true, true, true, true, true, true, true, true, true, true] rfl rfl (any_of HT_.out (by kernel_rfl)) (fun _ _ _ h => h) (Or.inl ⟨by rfl, ?_⟩) ?_ ?_
            rotate_left
            focus (intro w'; go_simp; with_reducible rfl)
            rotate_left
            focus (simp only [Act.put, List.setIfInBounds_toArray, List.set_cons_zero, List.set_cons_succ, i64_w, i32_w]; rfl)
            refine done_ (done_of HT_.out (by kernel_rfl)) ?_
            go_wp2
            go_ret
            exact ⟨_, rfl, by rw [HPA.out]; exact (by (with_reducible repeat first | apply ra_ | apply rn_ | apply rd_); exact HE.out), (by repeat first | (with_reducible first | exact HB.out | apply ba_ | apply bn_ | apply bd_) | exact HB.out)⟩
          · refine value_ (w1 := ?_) (v := ?_) (by rfl) rfl ?_ ?_
            rotate_left 2
            focus (go_simp; constructor; (focus rfl); (focus rfl))
            refine hK.out _ _ ?_
            clear hK K
            refine norm_ (a' := ?_) ?_ ?_
            rotate_left
            focus (show Act.put _ (some 39) _ = _; simp only [Act.put, List.setIfInBounds_toArray, List.set_cons_zero, List.set_cons_succ, i64_w, i32_w]; rfl)
            have BN := am_ (blk_new we (.cells #[.int .i64 n] 3 (0, 0)))
            have HB2 := am_ (ba_ HB.out (.cells #[.int .i64 n] 3))
            have HE2 := am_ (Kd.R_alloc HE.out (.cells #[.int .i64 n] 3))
            have NE := am_ (show g33 ≠ we.heap.size from Nat.ne_of_lt (R_ownlt HE.out rfl).2)
            clear HB HE
            generalize we.alloc (.cells #[.int .i64 n] 3) = wn at BN HB2 HE2 ⊢
            generalize we.heap.size = h39 at BN NE ⊢
            have HB := HB2
            clear HB2
            have HE := HE2
            clear HE2
            refine last_ (i := 4) (N := some 37) #[true, true, true, true, true, true, true, false, true, true, true, false, false] rfl rfl (one_of HT_.out (by kernel_rfl)) (by decide) (fun K hK => ?_)
            refine append_row_step (w0 := w) w.heap.size (by rfl) (.tmp 33) (.tmp 36) 32 rfl Try.underlying32 infoI (.slice (some ⟨g33, 0, none⟩) 0 0) [] (xs.take k) ⟨b, 0, none⟩ k c rfl rfl HTK.out (takeCells (by repeat first | exact (Kd.C_below HR0.out HB.out) | with_reducible refine ca_ ?_ _ | with_reducible refine cn_ ?_ _ | with_reducible refine cd_ ?_) HKL.out) HE.out HB.out (below_size HB.out) (by simp only [List.length_nil]; omega) ?_
            intro vp wp ho hb hg hat hsz
            refine hK.out _ _ ?_
            clear hK K
            refine norm_ (a' := ?_) ?_ ?_
            rotate_left
            focus (show Act.put _ (some 37) _ = _; simp only [Act.put, List.setIfInBounds_toArray, List.set_cons_zero, List.set_cons_succ, i64_w, i32_w]; rfl)
            rw [List.nil_append] at ho
            have BN2 := am_ (blk_grown BN.out hg (fun e => NE.out (HOWN.out _ e.symm).symm))
            have NP := am_ (show ∀ q, vp.ownBlock = some q → q ≠ h39 from fun q hq => by
              rcases hat with e | e
              · rw [e] at hq; rw [HOWN.out q hq]; exact NE.out
              · rw [e] at hq; injection hq with hq; rw [← hq]; exact Nat.ne_of_gt (blk_lt BN.out))
            clear BN
            have BN := BN2
            clear BN2
            clear HE HB
            have HE := am_ ho
            have HB := am_ hb
            clear ho hb hg hat hsz
            refine last_ (i := 7) (N := some 40) #[true, true, true, true, true, true, true, true, true, true, true, false, false] rfl rfl (one_of HT_.out (by kernel_rfl)) (by decide) (fun K hK => ?_)
            refine append_row_step (w0 := w) w.heap.size (by rfl) (.tmp 37) (.tmp 39) 32 rfl Try.underlying32 infoI vp (xs.take k) [n] ⟨h39, 0, none⟩ 1 1 rfl rfl rfl (fun j u hu => by
              rcases j with _ | j
              · obtain rfl : n = u := by simpa using hu
                rw [Addr.add_lit]; exact (blk_cell BN.out 0).trans rfl
              · simp at hu) HE.out HB.out (below_size HB.out) (by rw [HTK.out]; omega) ?_
            intro vs ws ho hb hg hat hsz
            refine hK.out _ _ ?_
            clear hK K
            refine norm_ (a' := ?_) ?_ ?_
            rotate_left
            focus (show Act.put _ (some 40) _ = _; simp only [Act.put, List.setIfInBounds_toArray, List.set_cons_zero, List.set_cons_succ, i64_w, i32_w]; rfl)
            clear HE HB BN NP
            have HE := am_ ho
            have HB := am_ hb
            clear ho hb hg hat hsz
            refine last_ (i := 11) (N := some 44) #[true, true, true, true, true, true, true, true, true, true, true, true, false] rfl rfl (one_of HT_.out (by kernel_rfl)) (by decide) (fun K hK => ?_)
            refine append_row_step (w0 := w) w.heap.size (by rfl) (.tmp 40) (.tmp 43) 32 rfl Try.underlying32 infoI vs (xs.take k ++ [n]) (xs.drop k) ⟨b, k, none⟩ (xs.length - k) (c - k) rfl rfl List.length_drop (dropCells (by repeat first | exact (Kd.C_below HR0.out HB.out) | with_reducible refine ca_ ?_ _ | with_reducible refine cn_ ?_ _ | with_reducible refine cd_ ?_)) HE.out HB.out (below_size HB.out) (by rw [List.length_append, HTK.out, List.length_singleton]; omega) ?_
            intro vz wz ho hb hg hat hsz
            refine hK.out _ _ ?_
            clear hK K
            refine norm_ (a' := ?_) ?_ ?_
            rotate_left
            focus (show Act.put _ (some 44) _ = _; simp only [Act.put, List.setIfInBounds_toArray, List.set_cons_zero, List.set_cons_succ, i64_w, i32_w]; rfl)
            clear HE HB
            have HE := am_ ho
            have HB := am_ hb
            clear ho hb hg hat hsz
            refine pure_ (i := 12) (N := some 4) (v := ?_) (a' := ?_) #[true, true, true, true, true, true, true, true, true, true, true, true, true] rfl rfl (any_of HT_.out (by kernel_rfl)) (fun _ _ _ h => h) (Or.inl ⟨by rfl, ?_⟩) ?_ ?_
            rotate_left
            focus (intro w'; go_simp; with_reducible rfl)
            rotate_left
            focus (simp only [Act.put, List.setIfInBounds_toArray, List.set_cons_zero, List.set_cons_succ, i64_w, i32_w]; rfl)
            refine done_ (done_of HT_.out (by kernel_rfl)) ?_
            go_wp2
            go_ret
            exact ⟨_, rfl, by rw [HPA.out]; exact (by (with_reducible repeat first | apply ra_ | apply rn_ | apply rd_); exact HE.out), (by repeat first | (with_reducible first | exact HB.out | apply ba_ | apply bn_ | apply bd_) | exact HB.out)⟩
        · refine value_ (w1 := ?_) (v := ?_) (by rfl) rfl ?_ ?_
          rotate_left 2
          focus (go_simp; constructor; (focus rfl); (focus rfl))
          refine hK.out _ _ ?_
          clear hK K
          refine norm_ (a' := ?_) ?_ ?_
          rotate_left
          focus (show Act.put _ (some 39) _ = _; simp only [Act.put, List.setIfInBounds_toArray, List.set_cons_zero, List.set_cons_succ, i64_w, i32_w]; rfl)
          have BN := am_ (blk_new wq (.cells #[.int .i64 n] 3 (0, 0)))
          have HB2 := am_ (ba_ HB.out (.cells #[.int .i64 n] 3))
          clear HB
          generalize wq.alloc (.cells #[.int .i64 n] 3) = wn at BN HB2 ⊢
          generalize wq.heap.size = h39 at BN ⊢
          have HB := HB2
          clear HB2
          refine last_ (i := 0) (N := some 33) #[true, true, true, true, false, true, true, false, true, true, true, false, false] rfl rfl (one_of HT_.out (by kernel_rfl)) (by decide) (fun K hK => ?_)
          refine value_ (w1 := ?_) (v := ?_) (by rfl) rfl ?_ ?_
          rotate_left 2
          focus (go_simp; constructor; (focus rfl); (focus rfl))
          refine hK.out _ _ ?_
          clear hK K
          refine norm_ (a' := ?_) ?_ ?_
          rotate_left
          focus (show Act.put _ (some 33) _ = _; simp only [Act.put, List.setIfInBounds_toArray, List.set_cons_zero, List.set_cons_succ, i64_w, i32_w]; rfl)
          have HE := am_ (R_made0 wn w.heap.size (below_size (by repeat first | (with_reducible first | exact HB.out | apply ba_ | apply bn_ | apply bd_) | exact HB.out)))
          have HB2 := am_ (ba_ HB.out (.cells #[] 3))
          have BN2 := am_ (blk_alloc BN.out (.cells #[] 3))
          have NE := am_ (show wn.heap.size ≠ h39 from Nat.ne_of_gt (blk_lt BN.out))
          clear BN
          clear HB
          generalize wn.alloc (.cells #[] 3) = we at HE HB2 BN2 ⊢
          generalize wn.heap.size = g33 at HE NE ⊢
          have HB := HB2
          clear HB2
          have BN := BN2
          clear BN2
          have HOWN := am_ (show ∀ q, (Value.slice (some ⟨g33, 0, none⟩) 0 0).ownBlock = some q → q = g33 from fun q h => by injection h with h; exact h.symm)
          refine last_ (i := 4) (N := some 37) #[true, true, true, true, true, true, true, false, true, true, true, false, false] rfl rfl (one_of HT_.out (by kernel_rfl)) (by decide) (fun K hK => ?_)
          refine append_row_step (w0 := w) w.heap.size (by rfl) (.tmp 33) (.tmp 36) 32 rfl Try.underlying32 infoI (.slice (some ⟨g33, 0, none⟩) 0 0) [] (xs.take k) ⟨b, 0, none⟩ k c rfl rfl HTK.out (takeCells (by repeat first | exact (Kd.C_below HR0.out HB.out) | with_reducible refine ca_ ?_ _ | with_reducible refine cn_ ?_ _ | with_reducible refine cd_ ?_) HKL.out) HE.out HB.out (below_size HB.out) (by simp only [List.length_nil]; omega) ?_
          intro vp wp ho hb hg hat hsz
          refine hK.out _ _ ?_
          clear hK K
          refine norm_ (a' := ?_) ?_ ?_
          rotate_left
          focus (show Act.put _ (some 37) _ = _; simp only [Act.put, List.setIfInBounds_toArray, List.set_cons_zero, List.set_cons_succ, i64_w, i32_w]; rfl)
          rw [List.nil_append] at ho
          have BN2 := am_ (blk_grown BN.out hg (fun e => NE.out (HOWN.out _ e.symm).symm))
          have NP := am_ (show ∀ q, vp.ownBlock = some q → q ≠ h39 from fun q hq => by
            rcases hat with e | e
            · rw [e] at hq; rw [HOWN.out q hq]; exact NE.out
            · rw [e] at hq; injection hq with hq; rw [← hq]; exact Nat.ne_of_gt (blk_lt BN.out))
          clear BN
          have BN := BN2
          clear BN2
          clear HE HB
          have HE := am_ ho
          have HB := am_ hb
          clear ho hb hg hat hsz
          refine last_ (i := 7) (N := some 40) #[true, true, true, true, true, true, true, true, true, true, true, false, false] rfl rfl (one_of HT_.out (by kernel_rfl)) (by decide) (fun K hK => ?_)
          refine append_row_step (w0 := w) w.heap.size (by rfl) (.tmp 37) (.tmp 39) 32 rfl Try.underlying32 infoI vp (xs.take k) [n] ⟨h39, 0, none⟩ 1 1 rfl rfl rfl (fun j u hu => by
            rcases j with _ | j
            · obtain rfl : n = u := by simpa using hu
              rw [Addr.add_lit]; exact (blk_cell BN.out 0).trans rfl
            · simp at hu) HE.out HB.out (below_size HB.out) (by rw [HTK.out]; omega) ?_
          intro vs ws ho hb hg hat hsz
          refine hK.out _ _ ?_
          clear hK K
          refine norm_ (a' := ?_) ?_ ?_
          rotate_left
          focus (show Act.put _ (some 40) _ = _; simp only [Act.put, List.setIfInBounds_toArray, List.set_cons_zero, List.set_cons_succ, i64_w, i32_w]; rfl)
          clear HE HB BN NP
          have HE := am_ ho
          have HB := am_ hb
          clear ho hb hg hat hsz
          refine last_ (i := 11) (N := some 44) #[true, true, true, true, true, true, true, true, true, true, true, true, false] rfl rfl (one_of HT_.out (by kernel_rfl)) (by decide) (fun K hK => ?_)
          refine append_row_step (w0 := w) w.heap.size (by rfl) (.tmp 40) (.tmp 43) 32 rfl Try.underlying32 infoI vs (xs.take k ++ [n]) (xs.drop k) ⟨b, k, none⟩ (xs.length - k) (c - k) rfl rfl List.length_drop (dropCells (by repeat first | exact (Kd.C_below HR0.out HB.out) | with_reducible refine ca_ ?_ _ | with_reducible refine cn_ ?_ _ | with_reducible refine cd_ ?_)) HE.out HB.out (below_size HB.out) (by rw [List.length_append, HTK.out, List.length_singleton]; omega) ?_
          intro vz wz ho hb hg hat hsz
          refine hK.out _ _ ?_
          clear hK K
          refine norm_ (a' := ?_) ?_ ?_
          rotate_left
          focus (show Act.put _ (some 44) _ = _; simp only [Act.put, List.setIfInBounds_toArray, List.set_cons_zero, List.set_cons_succ, i64_w, i32_w]; rfl)
          clear HE HB
          have HE := am_ ho
          have HB := am_ hb
          clear ho hb hg hat hsz
          refine pure_ (i := 12) (N := some 4) (v := ?_) (a' := ?_) #[true, true, true, true, true, true, true, true, true, true, true, true, true] rfl rfl (any_of HT_.out (by kernel_rfl)) (fun _ _ _ h => h) (Or.inl ⟨by rfl, ?_⟩) ?_ ?_
          rotate_left
          focus (intro w'; go_simp; with_reducible rfl)
          rotate_left
          focus (simp only [Act.put, List.setIfInBounds_toArray, List.set_cons_zero, List.set_cons_succ, i64_w, i32_w]; rfl)
          refine done_ (done_of HT_.out (by kernel_rfl)) ?_
          go_wp2
          go_ret
          exact ⟨_, rfl, by rw [HPA.out]; exact (by (with_reducible repeat first | apply ra_ | apply rn_ | apply rd_); exact HE.out), (by repeat first | (with_reducible first | exact HB.out | apply ba_ | apply bn_ | apply bd_) | exact HB.out)⟩
    · have d1 : decide (k < xs.length) = false := decide_eq_false hk
      have HPA := am_ (show putA xs n = xs.take k ++ [n] ++ xs.drop k from by
        rw [List.append_assoc]; show _ = xs.take k ++ n :: xs.drop k
        have hx0 : xs[k]? = none := List.getElem?_eq_none (by omega)
        rw [putA_split n xs k hkl HTL.out (fun a ha => by rw [hx0] at ha; cases ha), if_neg (by rw [hx0]; simp)])
      by_cases hcq : c = k
      rotate_left
      · have hkc : k ≤ c := Nat.le_trans hkl HC0.out
        go_upto_region 6 with (fail)
        refine start_ (n := 13) (S := fun w' => True) (ds := [0, 4, 6, 7, 11]) #[false, false, false, false, false, false, false, false, false, false, false, false, false] (by kernel_rfl) rfl rfl True.intro (fun hHeld => ?_)
        refine with_tabW tab79_6_t tab79_6_b (fun HT_ HW_ => ?_)
        have n_ := am_ (below_drew1 HB.out); clear HB; have HB := n_; clear n_
        generalize wr.drew = wq_ at HB hHeld ⊢
        refine pure_ (i := 1) (N := some 34) (v := ?_) (a' := ?_) #[false, true, false, false, false, false, false, false, false, false, false, false, false] rfl rfl (any_of HT_.out (by kernel_rfl)) (fun _ _ _ h => h) (Or.inl ⟨by rfl, ?_⟩) ?_ ?_
        rotate_left
        focus (intro w'; go_simp; with_reducible rfl)
        rotate_left
        focus (simp only [Act.put, List.setIfInBounds_toArray, List.set_cons_zero, List.set_cons_succ, i64_w, i32_w]; rfl)
        refine pure_ (i := 2) (N := some 35) (v := ?_) (a' := ?_) #[false, true, true, false, false, false, false, false, false, false, false, false, false] rfl rfl (any_of HT_.out (by kernel_rfl)) (fun _ _ _ h => h) (Or.inl ⟨by rfl, ?_⟩) ?_ ?_
        rotate_left
        focus (intro w'; go_simp; with_reducible rfl)
        rotate_left
        focus (simp only [Act.put, List.setIfInBounds_toArray, List.set_cons_zero, List.set_cons_succ, i64_w, i32_w]; rfl)
        refine pure_ (i := 3) (N := some 36) (v := ?_) (a' := ?_) #[false, true, true, true, false, false, false, false, false, false, false, false, false] rfl rfl (any_of HT_.out (by kernel_rfl)) (fun _ _ _ h => h) (Or.inl ⟨by rfl, ?_⟩) ?_ ?_
        rotate_left
        focus (intro w'; go_simp; with_reducible rfl)
        rotate_left
        focus (simp only [Act.put, List.setIfInBounds_toArray, List.set_cons_zero, List.set_cons_succ, i64_w, i32_w]; rfl)
        refine pure_ (i := 5) (N := some 38) (v := ?_) (a' := ?_) #[false, true, true, true, false, true, false, false, false, false, false, false, false] rfl rfl (any_of HT_.out (by kernel_rfl)) (fun _ _ _ h => h) (Or.inl ⟨by rfl, ?_⟩) ?_ ?_
        rotate_left
        focus (intro w'; go_simp; with_reducible rfl)
        rotate_left
        focus (simp only [Act.put, List.setIfInBounds_toArray, List.set_cons_zero, List.set_cons_succ, i64_w, i32_w]; rfl)
        refine pure_ (i := 8) (N := some 41) (v := ?_) (a' := ?_) #[false, true, true, true, false, true, false, false, true, false, false, false, false] rfl rfl (any_of HT_.out (by kernel_rfl)) (fun _ _ _ h => h) (Or.inl ⟨by rfl, ?_⟩) ?_ ?_
        rotate_left
        focus (intro w'; go_simp; with_reducible rfl)
        rotate_left
        focus (simp only [Act.put, List.setIfInBounds_toArray, List.set_cons_zero, List.set_cons_succ, i64_w, i32_w]; rfl)
        refine pure_ (i := 9) (N := some 42) (v := ?_) (a' := ?_) #[false, true, true, true, false, true, false, false, true, true, false, false, false] rfl rfl (any_of HT_.out (by kernel_rfl)) (fun _ _ _ h => h) (Or.inl ⟨by rfl, ?_⟩) ?_ ?_
        rotate_left
        focus (intro w'; go_simp; with_reducible rfl)
        rotate_left
        focus (simp only [Act.put, List.setIfInBounds_toArray, List.set_cons_zero, List.set_cons_succ, i64_w, i32_w]; rfl)
        refine pure_ (i := 10) (N := some 43) (v := ?_) (a' := ?_) #[false, true, true, true, false, true, false, false, true, true, true, false, false] rfl rfl (any_of HT_.out (by kernel_rfl)) (fun _ _ _ h => h) (Or.inl ⟨by rfl, ?_⟩) ?_ ?_
        rotate_left
        focus (intro w'; go_simp; with_reducible rfl)
        rotate_left
        focus (simp only [Act.put, List.setIfInBounds_toArray, List.set_cons_zero, List.set_cons_succ, i64_w, i32_w]; rfl)
        generalize wq_ = wq at HB ⊢
        refine two_last (i := 0) (j := 6) (Ni := some 33) (Nj := some 39) #[true, true, true, true, false, true, false, false, true, true, true, false, false] #[false, true, true, true, false, true, true, false, true, true, true, false, false] rfl rfl rfl rfl (two_of HT_.out (by kernel_rfl)) (by decide) (by decide) (fun K hK => ?_) (fun K hK => ?_)
        · refine value_ (w1 := ?_) (v := ?_) (by rfl) rfl ?_ ?_
          rotate_left 2
          focus (go_simp; constructor; (focus rfl); (focus rfl))
          refine hK.out _ _ ?_
          clear hK K
          refine norm_ (a' := ?_) ?_ ?_
          rotate_left
          focus (show Act.put _ (some 33) _ = _; simp only [Act.put, List.setIfInBounds_toArray, List.set_cons_zero, List.set_cons_succ, i64_w, i32_w]; rfl)
          have HE := am_ (R_made0 wq w.heap.size (below_size (by repeat first | (with_reducible first | exact HB.out | apply ba_ | apply bn_ | apply bd_) | exact HB.out)))
          have HB2 := am_ (ba_ HB.out (.cells #[] 3))
          clear HB
          generalize wq.alloc (.cells #[] 3) = we at HE HB2 ⊢
          generalize wq.heap.size = g33 at HE ⊢
          have HB := HB2
          clear HB2
          have HOWN := am_ (show ∀ q, (Value.slice (some ⟨g33, 0, none⟩) 0 0).ownBlock = some q → q = g33 from fun q h => by injection h with h; exact h.symm)
          refine two_last (i := 4) (j := 6) (Ni := some 37) (Nj := some 39) #[true, true, true, true, true, true, false, false, true, true, true, false, false] #[true, true, true, true, false, true, true, false, true, true, true, false, false] rfl rfl rfl rfl (two_of HT_.out (by kernel_rfl)) (by decide) (by decide) (fun K hK => ?_) (fun K hK => ?_)
          · refine append_row_step (w0 := w) w.heap.size (by rfl) (.tmp 33) (.tmp 36) 32 rfl Try.underlying32 infoI (.slice (some ⟨g33, 0, none⟩) 0 0) [] (xs.take k) ⟨b, 0, none⟩ k c rfl rfl HTK.out (takeCells (by repeat first | exact (Kd.C_below HR0.out HB.out) | with_reducible refine ca_ ?_ _ | with_reducible refine cn_ ?_ _ | with_reducible refine cd_ ?_) HKL.out) HE.out HB.out (below_size HB.out) (by simp only [List.length_nil]; omega) ?_
            intro vp wp ho hb hg hat hsz
            refine hK.out _ _ ?_
            clear hK K
            refine norm_ (a' := ?_) ?_ ?_
            rotate_left
            focus (show Act.put _ (some 37) _ = _; simp only [Act.put, List.setIfInBounds_toArray, List.set_cons_zero, List.set_cons_succ, i64_w, i32_w]; rfl)
            rw [List.nil_append] at ho
            clear HE HB
            have HE := am_ ho
            have HB := am_ hb
            clear ho hb hg hat hsz
            refine last_ (i := 6) (N := some 39) #[true, true, true, true, true, true, true, false, true, true, true, false, false] rfl rfl (one_of HT_.out (by kernel_rfl)) (by decide) (fun K hK => ?_)
            refine value_ (w1 := ?_) (v := ?_) (by rfl) rfl ?_ ?_
            rotate_left 2
            focus (go_simp; constructor; (focus rfl); (focus rfl))
            refine hK.out _ _ ?_
            clear hK K
            refine norm_ (a' := ?_) ?_ ?_
            rotate_left
            focus (show Act.put _ (some 39) _ = _; simp only [Act.put, List.setIfInBounds_toArray, List.set_cons_zero, List.set_cons_succ, i64_w, i32_w]; rfl)
            have BN := am_ (blk_new wp (.cells #[.int .i64 n] 3 (0, 0)))
            have HB2 := am_ (ba_ HB.out (.cells #[.int .i64 n] 3))
            have HE2 := am_ (Kd.R_alloc HE.out (.cells #[.int .i64 n] 3))
            have NP := am_ (show ∀ q, vp.ownBlock = some q → q ≠ wp.heap.size from fun q h => Nat.ne_of_lt (R_ownlt HE.out h).2)
            clear HB HE
            generalize wp.alloc (.cells #[.int .i64 n] 3) = wn at BN HB2 HE2 ⊢
            generalize wp.heap.size = h39 at BN NP ⊢
            have HB := HB2
            clear HB2
            have HE := HE2
            clear HE2
            refine last_ (i := 7) (N := some 40) #[true, true, true, true, true, true, true, true, true, true, true, false, false] rfl rfl (one_of HT_.out (by kernel_rfl)) (by decide) (fun K hK => ?_)
            refine append_row_step (w0 := w) w.heap.size (by rfl) (.tmp 37) (.tmp 39) 32 rfl Try.underlying32 infoI vp (xs.take k) [n] ⟨h39, 0, none⟩ 1 1 rfl rfl rfl (fun j u hu => by
              rcases j with _ | j
              · obtain rfl : n = u := by simpa using hu
                rw [Addr.add_lit]; exact (blk_cell BN.out 0).trans rfl
              · simp at hu) HE.out HB.out (below_size HB.out) (by rw [HTK.out]; omega) ?_
            intro vs ws ho hb hg hat hsz
            refine hK.out _ _ ?_
            clear hK K
            refine norm_ (a' := ?_) ?_ ?_
            rotate_left
            focus (show Act.put _ (some 40) _ = _; simp only [Act.put, List.setIfInBounds_toArray, List.set_cons_zero, List.set_cons_succ, i64_w, i32_w]; rfl)
            clear HE HB BN NP
            have HE := am_ ho
            have HB := am_ hb
            clear ho hb hg hat hsz
            refine last_ (i := 11) (N := some 44) #[true, true, true, true, true, true, true, true, true, true, true, true, false] rfl rfl (one_of HT_.out (by kernel_rfl)) (by decide) (fun K hK => ?_)
            refine append_row_step (w0 := w) w.heap.size (by rfl) (.tmp 40) (.tmp 43) 32 rfl Try.underlying32 infoI vs (xs.take k ++ [n]) (xs.drop k) ⟨b, k, none⟩ (xs.length - k) (c - k) rfl rfl List.length_drop (dropCells (by repeat first | exact (Kd.C_below HR0.out HB.out) | with_reducible refine ca_ ?_ _ | with_reducible refine cn_ ?_ _ | with_reducible refine cd_ ?_)) HE.out HB.out (below_size HB.out) (by rw [List.length_append, HTK.out, List.length_singleton]; omega) ?_
            intro vz wz ho hb hg hat hsz
            refine hK.out _ _ ?_
            clear hK K
            refine norm_ (a' := ?_) ?_ ?_
            rotate_left
            focus (show Act.put _ (some 44) _ = _; simp only [Act.put, List.setIfInBounds_toArray, List.set_cons_zero, List.set_cons_succ, i64_w, i32_w]; rfl)
            clear HE HB
            have HE := am_ ho
            have HB := am_ hb
            clear ho hb hg hat hsz
            refine pure_ (i := 12) (N := some 4) (v := ?_) (a' := ?_) #[true, true, true, true, true, true, true, true, true, true, true, true, true] rfl rfl (any_of HT_.out (by kernel_rfl)) (fun _ _ _ h => h) (Or.inl ⟨by rfl, ?_⟩) ?_ ?_
            rotate_left
            focus (intro w'; go_simp; with_reducible rfl)
            rotate_left
            focus (simp only [Act.put, List.setIfInBounds_toArray, List.set_cons_zero, List.set_cons_succ, i64_w, i32_w]; rfl)
            refine done_ (done_of HT_.out (by kernel_rfl)) ?_
            go_wp2
            go_ret
            exact ⟨_, rfl, by rw [HPA.out]; exact (by (with_reducible repeat first | apply ra_ | apply rn_ | apply rd_); exact HE.out), (by repeat first | (with_reducible first | exact HB.out | apply ba_ | apply bn_ | apply bd_) | exact HB.out)⟩
          · refine value_ (w1 := ?_) (v := ?_) (by rfl) rfl ?_ ?_
            rotate_left 2
            focus (go_simp; constructor; (focus rfl); (focus rfl))
            refine hK.out _ _ ?_
            clear hK K
            refine norm_ (a' := ?_) ?_ ?_
            rotate_left
            focus (show Act.put _ (some 39) _ = _; simp only [Act.put, List.setIfInBounds_toArray, List.set_cons_zero, List.set_cons_succ, i64_w, i32_w]; rfl)
            have BN := am_ (blk_new we (.cells #[.int .i64 n] 3 (0, 0)))
            have HB2 := am_ (ba_ HB.out (.cells #[.int .i64 n] 3))
            have HE2 := am_ (Kd.R_alloc HE.out (.cells #[.int .i64 n] 3))
            have NE := am_ (show g33 ≠ we.heap.size from Nat.ne_of_lt (R_ownlt HE.out rfl).2)
            clear HB HE
            generalize we.alloc (.cells #[.int .i64 n] 3) = wn at BN HB2 HE2 ⊢
            generalize we.heap.size = h39 at BN NE ⊢
            have HB := HB2
            clear HB2
            have HE := HE2
            clear HE2
            refine last_ (i := 4) (N := some 37) #[true, true, true, true, true, true, true, false, true, true, true, false, false] rfl rfl (one_of HT_.out (by kernel_rfl)) (by decide) (fun K hK => ?_)
            refine append_row_step (w0 := w) w.heap.size (by rfl) (.tmp 33) (.tmp 36) 32 rfl Try.underlying32 infoI (.slice (some ⟨g33, 0, none⟩) 0 0) [] (xs.take k) ⟨b, 0, none⟩ k c rfl rfl HTK.out (takeCells (by repeat first | exact (Kd.C_below HR0.out HB.out) | with_reducible refine ca_ ?_ _ | with_reducible refine cn_ ?_ _ | with_reducible refine cd_ ?_) HKL.out) HE.out HB.out (below_size HB.out) (by simp only [List.length_nil]; omega) ?_
            intro vp wp ho hb hg hat hsz
            refine hK.out _ _ ?_
            clear hK K
            refine norm_ (a' := ?_) ?_ ?_
            rotate_left
            focus (show Act.put _ (some 37) _ = _; simp only [Act.put, List.setIfInBounds_toArray, List.set_cons_zero, List.set_cons_succ, i64_w, i32_w]; rfl)
            rw [List.nil_append] at ho
            have BN2 := am_ (blk_grown BN.out hg (fun e => NE.out (HOWN.out _ e.symm).symm))
            have NP := am_ (show ∀ q, vp.ownBlock = some q → q ≠ h39 from fun q hq => by
              rcases hat with e | e
              · rw [e] at hq; rw [HOWN.out q hq]; exact NE.out
              · rw [e] at hq; injection hq with hq; rw [← hq]; exact Nat.ne_of_gt (blk_lt BN.out))
            clear BN
            have BN := BN2
            clear BN2
            clear HE HB
            have HE := am_ ho
            have HB := am_ hb
            clear ho hb hg hat hsz
            refine last_ (i := 7) (N := some 40) #[true, true, true, true, true, true, true, true, true, true, true, false, false] rfl rfl (one_of HT_.out (by kernel_rfl)) (by decide) (fun K hK => ?_)
            refine append_row_step (w0 := w) w.heap.size (by rfl) (.tmp 37) (.tmp 39) 32 rfl Try.underlying32 infoI vp (xs.take k) [n] ⟨h39, 0, none⟩ 1 1 rfl rfl rfl (fun j u hu => by
              rcases j with _ | j
              · obtain rfl : n = u := by simpa using hu
                rw [Addr.add_lit]; exact (blk_cell BN.out 0).trans rfl
              · simp at hu) HE.out HB.out (below_size HB.out) (by rw [HTK.out]; omega) ?_
            intro vs ws ho hb hg hat hsz
            refine hK.out _ _ ?_
            clear hK K
            refine norm_ (a' := ?_) ?_ ?_
            rotate_left
            focus (show Act.put _ (some 40) _ = _; simp only [Act.put, List.setIfInBounds_toArray, List.set_cons_zero, List.set_cons_succ, i64_w, i32_w]; rfl)
            clear HE HB BN NP
            have HE := am_ ho
            have HB := am_ hb
            clear ho hb hg hat hsz
            refine last_ (i := 11) (N := some 44) #[true, true, true, true, true, true, true, true, true, true, true, true, false] rfl rfl (one_of HT_.out (by kernel_rfl)) (by decide) (fun K hK => ?_)
            refine append_row_step (w0 := w) w.heap.size (by rfl) (.tmp 40) (.tmp 43) 32 rfl Try.underlying32 infoI vs (xs.take k ++ [n]) (xs.drop k) ⟨b, k, none⟩ (xs.length - k) (c - k) rfl rfl List.length_drop (dropCells (by repeat first | exact (Kd.C_below HR0.out HB.out) | with_reducible refine ca_ ?_ _ | with_reducible refine cn_ ?_ _ | with_reducible refine cd_ ?_)) HE.out HB.out (below_size HB.out) (by rw [List.length_append, HTK.out, List.length_singleton]; omega) ?_
            intro vz wz ho hb hg hat hsz
            refine hK.out _ _ ?_
            clear hK K
            refine norm_ (a' := ?_) ?_ ?_
            rotate_left
            focus (show Act.put _ (some 44) _ = _; simp only [Act.put, List.setIfInBounds_toArray, List.set_cons_zero, List.set_cons_succ, i64_w, i32_w]; rfl)
            clear HE HB
            have HE := am_ ho
            have HB := am_ hb
            clear ho hb hg hat hsz
            refine pure_ (i := 12) (N := some 4) (v := ?_) (a' := ?_) #[true, true, true, true, true, true, true, true, true, true, true, true, true] rfl rfl (any_of HT_.out (by kernel_rfl)) (fun _ _ _ h => h) (Or.inl ⟨by rfl, ?_⟩) ?_ ?_
            rotate_left
            focus (intro w'; go_simp; with_reducible rfl)
            rotate_left
            focus (simp only [Act.put, List.setIfInBounds_toArray, List.set_cons_zero, List.set_cons_succ, i64_w, i32_w]; rfl)
            refine done_ (done_of HT_.out (by kernel_rfl)) ?_
            go_wp2
            go_ret
            exact ⟨_, rfl, by rw [HPA.out]; exact (by (with_reducible repeat first | apply ra_ | apply rn_ | apply rd_); exact HE.out), (by repeat first | (with_reducible first | exact HB.out | apply ba_ | apply bn_ | apply bd_) | exact HB.out)⟩
        · refine value_ (w1 := ?_) (v := ?_) (by rfl) rfl ?_ ?_
          rotate_left 2
          focus (go_simp; constructor; (focus rfl); (focus rfl))
          refine hK.out _ _ ?_
          clear hK K
          refine norm_ (a' := ?_) ?_ ?_
          rotate_left
          focus (show Act.put _ (some 39) _ = _; simp only [Act.put, List.setIfInBounds_toArray, List.set_cons_zero, List.set_cons_succ, i64_w, i32_w]; rfl)
          have BN := am_ (blk_new wq (.cells #[.int .i64 n] 3 (0, 0)))
          have HB2 := am_ (ba_ HB.out (.cells #[.int .i64 n] 3))
          clear HB
          generalize wq.alloc (.cells #[.int .i64 n] 3) = wn at BN HB2 ⊢
          generalize wq.heap.size = h39 at BN ⊢
          have HB := HB2
          clear HB2
          refine last_ (i := 0) (N := some 33) #[true, true, true, true, false, true, true, false, true, true, true, false, false] rfl rfl (one_of HT_.out (by kernel_rfl)) (by decide) (fun K hK => ?_)
          refine value_ (w1 := ?_) (v := ?_) (by rfl) rfl ?_ ?_
          rotate_left 2
          focus (go_simp; constructor; (focus rfl); (focus rfl))
          refine hK.out _ _ ?_
          clear hK K
          refine norm_ (a' := ?_) ?_ ?_
          rotate_left
          focus (show Act.put _ (some 33) _ = _; simp only [Act.put, List.setIfInBounds_toArray, List.set_cons_zero, List.set_cons_succ, i64_w, i32_w]; rfl)
          have HE := am_ (R_made0 wn w.heap.size (below_size (by repeat first | (with_reducible first | exact HB.out | apply ba_ | apply bn_ | apply bd_) | exact HB.out)))
          have HB2 := am_ (ba_ HB.out (.cells #[] 3))
          have BN2 := am_ (blk_alloc BN.out (.cells #[] 3))
          have NE := am_ (show wn.heap.size ≠ h39 from Nat.ne_of_gt (blk_lt BN.out))
          clear BN
          clear HB
          generalize wn.alloc (.cells #[] 3) = we at HE HB2 BN2 ⊢
          generalize wn.heap.size = g33 at HE NE ⊢
          have HB := HB2
          clear HB2
          have BN := BN2
          clear BN2
          have HOWN := am_ (show ∀ q, (Value.slice (some ⟨g33, 0, none⟩) 0 0).ownBlock = some q → q = g33 from fun q h => by injection h with h; exact h.symm)
          refine last_ (i := 4) (N := some 37) #[true, true, true, true, true, true, true, false, true, true, true, false, false] rfl rfl (one_of HT_.out (by kernel_rfl)) (by decide) (fun K hK => ?_)
          refine append_row_step (w0 := w) w.heap.size (by rfl) (.tmp 33) (.tmp 36) 32 rfl Try.underlying32 infoI (.slice (some ⟨g33, 0, none⟩) 0 0) [] (xs.take k) ⟨b, 0, none⟩ k c rfl rfl HTK.out (takeCells (by repeat first | exact (Kd.C_below HR0.out HB.out) | with_reducible refine ca_ ?_ _ | with_reducible refine cn_ ?_ _ | with_reducible refine cd_ ?_) HKL.out) HE.out HB.out (below_size HB.out) (by simp only [List.length_nil]; omega) ?_
          intro vp wp ho hb hg hat hsz
          refine hK.out _ _ ?_
          clear hK K
          refine norm_ (a' := ?_) ?_ ?_
          rotate_left
          focus (show Act.put _ (some 37) _ = _; simp only [Act.put, List.setIfInBounds_toArray, List.set_cons_zero, List.set_cons_succ, i64_w, i32_w]; rfl)
          rw [List.nil_append] at ho
          have BN2 := am_ (blk_grown BN.out hg (fun e => NE.out (HOWN.out _ e.symm).symm))
          have NP := am_ (show ∀ q, vp.ownBlock = some q → q ≠ h39 from fun q hq => by
            rcases hat with e | e
            · rw [e] at hq; rw [HOWN.out q hq]; exact NE.out
            · rw [e] at hq; injection hq with hq; rw [← hq]; exact Nat.ne_of_gt (blk_lt BN.out))
          clear BN
          have BN := BN2
          clear BN2
          clear HE HB
          have HE := am_ ho
          have HB := am_ hb
          clear ho hb hg hat hsz
          refine last_ (i := 7) (N := some 40) #[true, true, true, true, true, true, true, true, true, true, true, false, false] rfl rfl (one_of HT_.out (by kernel_rfl)) (by decide) (fun K hK => ?_)
          refine append_row_step (w0 := w) w.heap.size (by rfl) (.tmp 37) (.tmp 39) 32 rfl Try.underlying32 infoI vp (xs.take k) [n] ⟨h39, 0, none⟩ 1 1 rfl rfl rfl (fun j u hu => by
            rcases j with _ | j
            · obtain rfl : n = u := by simpa using hu
              rw [Addr.add_lit]; exact (blk_cell BN.out 0).trans rfl
            · simp at hu) HE.out HB.out (below_size HB.out) (by rw [HTK.out]; omega) ?_
          intro vs ws ho hb hg hat hsz
          refine hK.out _ _ ?_
          clear hK K
          refine norm_ (a' := ?_) ?_ ?_
          rotate_left
          focus (show Act.put _ (some 40) _ = _; simp only [Act.put, List.setIfInBounds_toArray, List.set_cons_zero, List.set_cons_succ, i64_w, i32_w]; rfl)
          clear HE HB BN NP
          have HE := am_ ho
          have HB := am_ hb
          clear ho hb hg hat hsz
          refine last_ (i := 11) (N := some 44) #[true, true, true, true, true, true, true, true, true, true, true, true, false] rfl rfl (one_of HT_.out (by kernel_rfl)) (by decide) (fun K hK => ?_)
          refine append_row_step (w0 := w) w.heap.size (by rfl) (.tmp 40) (.tmp 43) 32 rfl Try.underlying32 infoI vs (xs.take k ++ [n]) (xs.drop k) ⟨b, k, none⟩ (xs.length - k) (c - k) rfl rfl List.length_drop (dropCells (by repeat first | exact (Kd.C_below HR0.out HB.out) | with_reducible refine ca_ ?_ _ | with_reducible refine cn_ ?_ _ | with_reducible refine cd_ ?_)) HE.out HB.out (below_size HB.out) (by rw [List.length_append, HTK.out, List.length_singleton]; omega) ?_
          intro vz wz ho hb hg hat hsz
          refine hK.out _ _ ?_
          clear hK K
          refine norm_ (a' := ?_) ?_ ?_
          rotate_left
          focus (show Act.put _ (some 44) _ = _; simp only [Act.put, List.setIfInBounds_toArray, List.set_cons_zero, List.set_cons_succ, i64_w, i32_w]; rfl)
          clear HE HB
          have HE := am_ ho
          have HB := am_ hb
          clear ho hb hg hat hsz
          refine pure_ (i := 12) (N := some 4) (v := ?_) (a' := ?_) #[true, true, true, true, true, true, true, true, true, true, true, true, true] rfl rfl (any_of HT_.out (by kernel_rfl)) (fun _ _ _ h => h) (Or.inl ⟨by rfl, ?_⟩) ?_ ?_
          rotate_left
          focus (intro w'; go_simp; with_reducible rfl)
          rotate_left
          focus (simp only [Act.put, List.setIfInBounds_toArray, List.set_cons_zero, List.set_cons_succ, i64_w, i32_w]; rfl)
          refine done_ (done_of HT_.out (by kernel_rfl)) ?_
          go_wp2
          go_ret
          exact ⟨_, rfl, by rw [HPA.out]; exact (by (with_reducible repeat first | apply ra_ | apply rn_ | apply rd_); exact HE.out), (by repeat first | (with_reducible first | exact HB.out | apply ba_ | apply bn_ | apply bd_) | exact HB.out)⟩
      have hcq2 : (c = k) = True := eq_true hcq
      clear hcq
      have hkc : k ≤ c := Nat.le_trans hkl HC0.out
      go_upto_region 6 with (fail)
      refine start_ (n := 13) (S := fun w' => True) (ds := [0, 4, 6, 7, 11]) #[false, false, false, false, false, false, false, false, false, false, false, false, false] (by kernel_rfl) rfl rfl True.intro (fun hHeld => ?_)
      refine with_tabW tab79_6_t tab79_6_b (fun HT_ HW_ => ?_)
      have n_ := am_ (below_drew1 HB.out); clear HB; have HB := n_; clear n_
      generalize wr.drew = wq_ at HB hHeld ⊢
      refine pure_ (i := 1) (N := some 34) (v := ?_) (a' := ?_) #[false, true, false, false, false, false, false, false, false, false, false, false, false] rfl rfl (any_of HT_.out (by kernel_rfl)) (fun _ _ _ h => h) (Or.inl ⟨by rfl, ?_⟩) ?_ ?_
      rotate_left
      focus (intro w'; go_simp; with_reducible rfl)
      rotate_left
      focus (simp only [Act.put, List.setIfInBounds_toArray, List.set_cons_zero, List.set_cons_succ, i64_w, i32_w]; rfl)
      refine pure_ (i := 2) (N := some 35) (v := ?_) (a' := ?_) #[false, true, true, false, false, false, false, false, false, false, false, false, false] rfl rfl (any_of HT_.out (by kernel_rfl)) (fun _ _ _ h => h) (Or.inl ⟨by rfl, ?_⟩) ?_ ?_
      rotate_left
      focus (intro w'; go_simp; with_reducible rfl)
      rotate_left
      focus (simp only [Act.put, List.setIfInBounds_toArray, List.set_cons_zero, List.set_cons_succ, i64_w, i32_w]; rfl)
      refine pure_ (i := 3) (N := some 36) (v := ?_) (a' := ?_) #[false, true, true, true, false, false, false, false, false, false, false, false, false] rfl rfl (any_of HT_.out (by kernel_rfl)) (fun _ _ _ h => h) (Or.inl ⟨by rfl, ?_⟩) ?_ ?_
      rotate_left
      focus (intro w'; go_simp; with_reducible rfl)
      rotate_left
      focus (simp only [Act.put, List.setIfInBounds_toArray, List.set_cons_zero, List.set_cons_succ, i64_w, i32_w]; rfl)
      refine pure_ (i := 5) (N := some 38) (v := ?_) (a' := ?_) #[false, true, true, true, false, true, false, false, false, false, false, false, false] rfl rfl (any_of HT_.out (by kernel_rfl)) (fun _ _ _ h => h) (Or.inl ⟨by rfl, ?_⟩) ?_ ?_
      rotate_left
      focus (intro w'; go_simp; with_reducible rfl)
      rotate_left
      focus (simp only [Act.put, List.setIfInBounds_toArray, List.set_cons_zero, List.set_cons_succ, i64_w, i32_w]; rfl)
      refine pure_ (i := 8) (N := some 41) (v := ?_) (a' := ?_) #[false, true, true, true, false, true, false, false, true, false, false, false, false] rfl rfl (any_of HT_.out (by kernel_rfl)) (fun _ _ _ h => h) (Or.inl ⟨by rfl, ?_⟩) ?_ ?_
      rotate_left
      focus (intro w'; go_simp; with_reducible rfl)
      rotate_left
      focus (simp only [Act.put, List.setIfInBounds_toArray, List.set_cons_zero, List.set_cons_succ, i64_w, i32_w]; rfl)
      refine pure_ (i := 9) (N := some 42) (v := ?_) (a' := ?_) #[false, true, true, true, false, true, false, false, true, true, false, false, false] rfl rfl (any_of HT_.out (by kernel_rfl)) (fun _ _ _ h => h) (Or.inl ⟨by rfl, ?_⟩) ?_ ?_
      rotate_left
      focus (intro w'; go_simp; with_reducible rfl)
      rotate_left
      focus (simp only [Act.put, List.setIfInBounds_toArray, List.set_cons_zero, List.set_cons_succ, i64_w, i32_w]; rfl)
      refine pure_ (i := 10) (N := some 43) (v := ?_) (a' := ?_) #[false, true, true, true, false, true, false, false, true, true, true, false, false] rfl rfl (any_of HT_.out (by kernel_rfl)) (fun _ _ _ h => h) (Or.inl ⟨by rfl, ?_⟩) ?_ ?_
      rotate_left
      focus (intro w'; go_simp; with_reducible rfl)
      rotate_left
      focus (simp only [Act.put, List.setIfInBounds_toArray, List.set_cons_zero, List.set_cons_succ, i64_w, i32_w]; rfl)
      generalize wq_ = wq at HB ⊢
      refine two_last (i := 0) (j := 6) (Ni := some 33) (Nj := some 39) #[true, true, true, true, false, true, false, false, true, true, true, false, false] #[false, true, true, true, false, true, true, false, true, true, true, false, false] rfl rfl rfl rfl (two_of HT_.out (by kernel_rfl)) (by decide) (by decide) (fun K hK => ?_) (fun K hK => ?_)
      · refine value_ (w1 := ?_) (v := ?_) (by rfl) rfl ?_ ?_
        rotate_left 2
        focus (go_simp; constructor; (focus rfl); (focus rfl))
        refine hK.out _ _ ?_
        clear hK K
        refine norm_ (a' := ?_) ?_ ?_
        rotate_left
        focus (show Act.put _ (some 33) _ = _; simp only [Act.put, List.setIfInBounds_toArray, List.set_cons_zero, List.set_cons_succ, i64_w, i32_w]; rfl)
        have HE := am_ (R_made0 wq w.heap.size (below_size (by repeat first | (with_reducible first | exact HB.out | apply ba_ | apply bn_ | apply bd_) | exact HB.out)))
        have HB2 := am_ (ba_ HB.out (.cells #[] 3))
        clear HB
        generalize wq.alloc (.cells #[] 3) = we at HE HB2 ⊢
        generalize wq.heap.size = g33 at HE ⊢
        have HB := HB2
        clear HB2
        have HOWN := am_ (show ∀ q, (Value.slice (some ⟨g33, 0, none⟩) 0 0).ownBlock = some q → q = g33 from fun q h => by injection h with h; exact h.symm)
        refine two_last (i := 4) (j := 6) (Ni := some 37) (Nj := some 39) #[true, true, true, true, true, true, false, false, true, true, true, false, false] #[true, true, true, true, false, true, true, false, true, true, true, false, false] rfl rfl rfl rfl (two_of HT_.out (by kernel_rfl)) (by decide) (by decide) (fun K hK => ?_) (fun K hK => ?_)
        · refine append_row_step (w0 := w) w.heap.size (by rfl) (.tmp 33) (.tmp 36) 32 rfl Try.underlying32 infoI (.slice (some ⟨g33, 0, none⟩) 0 0) [] (xs.take k) ⟨b, 0, none⟩ k c rfl rfl HTK.out (takeCells (by repeat first | exact (Kd.C_below HR0.out HB.out) | with_reducible refine ca_ ?_ _ | with_reducible refine cn_ ?_ _ | with_reducible refine cd_ ?_) HKL.out) HE.out HB.out (below_size HB.out) (by simp only [List.length_nil]; omega) ?_
          intro vp wp ho hb hg hat hsz
          refine hK.out _ _ ?_
          clear hK K
          refine norm_ (a' := ?_) ?_ ?_
          rotate_left
          focus (show Act.put _ (some 37) _ = _; simp only [Act.put, List.setIfInBounds_toArray, List.set_cons_zero, List.set_cons_succ, i64_w, i32_w]; rfl)
          rw [List.nil_append] at ho
          clear HE HB
          have HE := am_ ho
          have HB := am_ hb
          clear ho hb hg hat hsz
          refine last_ (i := 6) (N := some 39) #[true, true, true, true, true, true, true, false, true, true, true, false, false] rfl rfl (one_of HT_.out (by kernel_rfl)) (by decide) (fun K hK => ?_)
          refine value_ (w1 := ?_) (v := ?_) (by rfl) rfl ?_ ?_
          rotate_left 2
          focus (go_simp; constructor; (focus rfl); (focus rfl))
          refine hK.out _ _ ?_
          clear hK K
          refine norm_ (a' := ?_) ?_ ?_
          rotate_left
          focus (show Act.put _ (some 39) _ = _; simp only [Act.put, List.setIfInBounds_toArray, List.set_cons_zero, List.set_cons_succ, i64_w, i32_w]; rfl)
          have BN := am_ (blk_new wp (.cells #[.int .i64 n] 3 (0, 0)))
          have HB2 := am_ (ba_ HB.out (.cells #[.int .i64 n] 3))
          have HE2 := am_ (Kd.R_alloc HE.out (.cells #[.int .i64 n] 3))
          have NP := am_ (show ∀ q, vp.ownBlock = some q → q ≠ wp.heap.size from fun q h => Nat.ne_of_lt (R_ownlt HE.out h).2)
          clear HB HE
          generalize wp.alloc (.cells #[.int .i64 n] 3) = wn at BN HB2 HE2 ⊢
          generalize wp.heap.size = h39 at BN NP ⊢
          have HB := HB2
          clear HB2
          have HE := HE2
          clear HE2
          refine last_ (i := 7) (N := some 40) #[true, true, true, true, true, true, true, true, true, true, true, false, false] rfl rfl (one_of HT_.out (by kernel_rfl)) (by decide) (fun K hK => ?_)
          refine append_row_step (w0 := w) w.heap.size (by rfl) (.tmp 37) (.tmp 39) 32 rfl Try.underlying32 infoI vp (xs.take k) [n] ⟨h39, 0, none⟩ 1 1 rfl rfl rfl (fun j u hu => by
            rcases j with _ | j
            · obtain rfl : n = u := by simpa using hu
              rw [Addr.add_lit]; exact (blk_cell BN.out 0).trans rfl
            · simp at hu) HE.out HB.out (below_size HB.out) (by rw [HTK.out]; omega) ?_
          intro vs ws ho hb hg hat hsz
          refine hK.out _ _ ?_
          clear hK K
          refine norm_ (a' := ?_) ?_ ?_
          rotate_left
          focus (show Act.put _ (some 40) _ = _; simp only [Act.put, List.setIfInBounds_toArray, List.set_cons_zero, List.set_cons_succ, i64_w, i32_w]; rfl)
          clear HE HB BN NP
          have HE := am_ ho
          have HB := am_ hb
          clear ho hb hg hat hsz
          refine last_ (i := 11) (N := some 44) #[true, true, true, true, true, true, true, true, true, true, true, true, false] rfl rfl (one_of HT_.out (by kernel_rfl)) (by decide) (fun K hK => ?_)
          refine append_row_step (w0 := w) w.heap.size (by rfl) (.tmp 40) (.tmp 43) 32 rfl Try.underlying32 infoI vs (xs.take k ++ [n]) (xs.drop k) ⟨b, 0, none⟩ (xs.length - k) (c - k) rfl rfl List.length_drop (fun j u hu => by rw [List.drop_eq_nil_of_le (by omega)] at hu; cases hu) HE.out HB.out (below_size HB.out) (by rw [List.length_append, HTK.out, List.length_singleton]; omega) ?_
          intro vz wz ho hb hg hat hsz
          refine hK.out _ _ ?_
          clear hK K
          refine norm_ (a' := ?_) ?_ ?_
          rotate_left
          focus (show Act.put _ (some 44) _ = _; simp only [Act.put, List.setIfInBounds_toArray, List.set_cons_zero, List.set_cons_succ, i64_w, i32_w]; rfl)
          clear HE HB
          have HE := am_ ho
          have HB := am_ hb
          clear ho hb hg hat hsz
          refine pure_ (i := 12) (N := some 4) (v := ?_) (a' := ?_) #[true, true, true, true, true, true, true, true, true, true, true, true, true] rfl rfl (any_of HT_.out (by kernel_rfl)) (fun _ _ _ h => h) (Or.inl ⟨by rfl, ?_⟩) ?_ ?_
          rotate_left
          focus (intro w'; go_simp; with_reducible rfl)
          rotate_left
          focus (simp only [Act.put, List.setIfInBounds_toArray, List.set_cons_zero, List.set_cons_succ, i64_w, i32_w]; rfl)
          refine done_ (done_of HT_.out (by kernel_rfl)) ?_
          go_wp2
          go_ret
          exact ⟨_, rfl, by rw [HPA.out]; exact (by (with_reducible repeat first | apply ra_ | apply rn_ | apply rd_); exact HE.out), (by repeat first | (with_reducible first | exact HB.out | apply ba_ | apply bn_ | apply bd_) | exact HB.out)⟩
        · refine value_ (w1 := ?_) (v := ?_) (by rfl) rfl ?_ ?_
          rotate_left 2
          focus (go_simp; constructor; (focus rfl); (focus rfl))
          refine hK.out _ _ ?_
          clear hK K
          refine norm_ (a' := ?_) ?_ ?_
          rotate_left
          focus (show Act.put _ (some 39) _ = _; simp only [Act.put, List.setIfInBounds_toArray, List.set_cons_zero, List.set_cons_succ, i64_w, i32_w]; rfl)
          have BN := am_ (blk_new we (.cells #[.int .i64 n] 3 (0, 0)))
          have HB2 := am_ (ba_ HB.out (.cells #[.int .i64 n] 3))
          have HE2 := am_ (Kd.R_alloc HE.out (.cells #[.int .i64 n] 3))
          have NE := am_ (show g33 ≠ we.heap.size from Nat.ne_of_lt (R_ownlt HE.out rfl).2)
          clear HB HE
          generalize we.alloc (.cells #[.int .i64 n] 3) = wn at BN HB2 HE2 ⊢
          generalize we.heap.size = h39 at BN NE ⊢
          have HB := HB2
          clear HB2
          have HE := HE2
          clear HE2
          refine last_ (i := 4) (N := some 37) #[true, true, true, true, true, true, true, false, true, true, true, false, false] rfl rfl (one_of HT_.out (by kernel_rfl)) (by decide) (fun K hK => ?_)
          refine append_row_step (w0 := w) w.heap.size (by rfl) (.tmp 33) (.tmp 36) 32 rfl Try.underlying32 infoI (.slice (some ⟨g33, 0, none⟩) 0 0) [] (xs.take k) ⟨b, 0, none⟩ k c rfl rfl HTK.out (takeCells (by repeat first | exact (Kd.C_below HR0.out HB.out) | with_reducible refine ca_ ?_ _ | with_reducible refine cn_ ?_ _ | with_reducible refine cd_ ?_) HKL.out) HE.out HB.out (below_size HB.out) (by simp only [List.length_nil]; omega) ?_
          intro vp wp ho hb hg hat hsz
          refine hK.out _ _ ?_
          clear hK K
          refine norm_ (a' := ?_) ?_ ?_
          rotate_left
          focus (show Act.put _ (some 37) _ = _; simp only [Act.put, List.setIfInBounds_toArray, List.set_cons_zero, List.set_cons_succ, i64_w, i32_w]; rfl)
          rw [List.nil_append] at ho
          have BN2 := am_ (blk_grown BN.out hg (fun e => NE.out (HOWN.out _ e.symm).symm))
          have NP := am_ (show ∀ q, vp.ownBlock = some q → q ≠ h39 from fun q hq => by
            rcases hat with e | e
            · rw [e] at hq; rw [HOWN.out q hq]; exact NE.out
            · rw [e] at hq; injection hq with hq; rw [← hq]; exact Nat.ne_of_gt (blk_lt BN.out))
          clear BN
          have BN := BN2
          clear BN2
          clear HE HB
          have HE := am_ ho
          have HB := am_ hb
          clear ho hb hg hat hsz
          refine last_ (i := 7) (N := some 40) #[true, true, true, true, true, true, true, true, true, true, true, false, false] rfl rfl (one_of HT_.out (by kernel_rfl)) (by decide) (fun K hK => ?_)
          refine append_row_step (w0 := w) w.heap.size (by rfl) (.tmp 37) (.tmp 39) 32 rfl Try.underlying32 infoI vp (xs.take k) [n] ⟨h39, 0, none⟩ 1 1 rfl rfl rfl (fun j u hu => by
            rcases j with _ | j
            · obtain rfl : n = u := by simpa using hu
              rw [Addr.add_lit]; exact (blk_cell BN.out 0).trans rfl
            · simp at hu) HE.out HB.out (below_size HB.out) (by rw [HTK.out]; omega) ?_
          intro vs ws ho hb hg hat hsz
          refine hK.out _ _ ?_
          clear hK K
          refine norm_ (a' := ?_) ?_ ?_
          rotate_left
          focus (show Act.put _ (some 40) _ = _; simp only [Act.put, List.setIfInBounds_toArray, List.set_cons_zero, List.set_cons_succ, i64_w, i32_w]; rfl)
          clear HE HB BN NP
          have HE := am_ ho
          have HB := am_ hb
          clear ho hb hg hat hsz
          refine last_ (i := 11) (N := some 44) #[true, true, true, true, true, true, true, true, true, true, true, true, false] rfl rfl (one_of HT_.out (by kernel_rfl)) (by decide) (fun K hK => ?_)
          refine append_row_step (w0 := w) w.heap.size (by rfl) (.tmp 40) (.tmp 43) 32 rfl Try.underlying32 infoI vs (xs.take k ++ [n]) (xs.drop k) ⟨b, 0, none⟩ (xs.length - k) (c - k) rfl rfl List.length_drop (fun j u hu => by rw [List.drop_eq_nil_of_le (by omega)] at hu; cases hu) HE.out HB.out (below_size HB.out) (by rw [List.length_append, HTK.out, List.length_singleton]; omega) ?_
          intro vz wz ho hb hg hat hsz
          refine hK.out _ _ ?_
          clear hK K
          refine norm_ (a' := ?_) ?_ ?_
          rotate_left
          focus (show Act.put _ (some 44) _ = _; simp only [Act.put, List.setIfInBounds_toArray, List.set_cons_zero, List.set_cons_succ, i64_w, i32_w]; rfl)
          clear HE HB
          have HE := am_ ho
          have HB := am_ hb
          clear ho hb hg hat hsz
          refine pure_ (i := 12) (N := some 4) (v := ?_) (a' := ?_) #[true, true, true, true, true, true, true, true, true, true, true, true, true] rfl rfl (any_of HT_.out (by kernel_rfl)) (fun _ _ _ h => h) (Or.inl ⟨by rfl, ?_⟩) ?_ ?_
          rotate_left
          focus (intro w'; go_simp; with_reducible rfl)
          rotate_left
          focus (simp only [Act.put, List.setIfInBounds_toArray, List.set_cons_zero, List.set_cons_succ, i64_w, i32_w]; rfl)
          refine done_ (done_of HT_.out (by kernel_rfl)) ?_
          go_wp2
          go_ret
          exact ⟨_, rfl, by rw [HPA.out]; exact (by (with_reducible repeat first | apply ra_ | apply rn_ | apply rd_); exact HE.out), (by repeat first | (with_reducible first | exact HB.out | apply ba_ | apply bn_ | apply bd_) | exact HB.out)⟩
      · refine value_ (w1 := ?_) (v := ?_) (by rfl) rfl ?_ ?_
        rotate_left 2
        focus (go_simp; constructor; (focus rfl); (focus rfl))
        refine hK.out _ _ ?_
        clear hK K
        refine norm_ (a' := ?_) ?_ ?_
        rotate_left
        focus (show Act.put _ (some 39) _ = _; simp only [Act.put, List.setIfInBounds_toArray, List.set_cons_zero, List.set_cons_succ, i64_w, i32_w]; rfl)
        have BN := am_ (blk_new wq (.cells #[.int .i64 n] 3 (0, 0)))
        have HB2 := am_ (ba_ HB.out (.cells #[.int .i64 n] 3))
        clear HB
        generalize wq.alloc (.cells #[.int .i64 n] 3) = wn at BN HB2 ⊢
        generalize wq.heap.size = h39 at BN ⊢
        have HB := HB2
        clear HB2
        refine last_ (i := 0) (N := some 33) #[true, true, true, true, false, true, true, false, true, true, true, false, false] rfl rfl (one_of HT_.out (by kernel_rfl)) (by decide) (fun K hK => ?_)
        refine value_ (w1 := ?_) (v := ?_) (by rfl) rfl ?_ ?_
        rotate_left 2
        focus (go_simp; constructor; (focus rfl); (focus rfl))
        refine hK.out _ _ ?_
        clear hK K
        refine norm_ (a' := ?_) ?_ ?_
        rotate_left
        focus (show Act.put _ (some 33) _ = _; simp only [Act.put, List.setIfInBounds_toArray, List.set_cons_zero, List.set_cons_succ, i64_w, i32_w]; rfl)
        have HE := am_ (R_made0 wn w.heap.size (below_size (by repeat first | (with_reducible first | exact HB.out | apply ba_ | apply bn_ | apply bd_) | exact HB.out)))
        have HB2 := am_ (ba_ HB.out (.cells #[] 3))
        have BN2 := am_ (blk_alloc BN.out (.cells #[] 3))
        have NE := am_ (show wn.heap.size ≠ h39 from Nat.ne_of_gt (blk_lt BN.out))
        clear BN
        clear HB
        generalize wn.alloc (.cells #[] 3) = we at HE HB2 BN2 ⊢
        generalize wn.heap.size = g33 at HE NE ⊢
        have HB := HB2
        clear HB2
        have BN := BN2
        clear BN2
        have HOWN := am_ (show ∀ q, (Value.slice (some ⟨g33, 0, none⟩) 0 0).ownBlock = some q → q = g33 from fun q h => by injection h with h; exact h.symm)
        refine last_ (i := 4) (N := some 37) #[true, true, true, true, true, true, true, false, true, true, true, false, false] rfl rfl (one_of HT_.out (by kernel_rfl)) (by decide) (fun K hK => ?_)
        refine append_row_step (w0 := w) w.heap.size (by rfl) (.tmp 33) (.tmp 36) 32 rfl Try.underlying32 infoI (.slice (some ⟨g33, 0, none⟩) 0 0) [] (xs.take k) ⟨b, 0, none⟩ k c rfl rfl HTK.out (takeCells (by repeat first | exact (Kd.C_below HR0.out HB.out) | with_reducible refine ca_ ?_ _ | with_reducible refine cn_ ?_ _ | with_reducible refine cd_ ?_) HKL.out) HE.out HB.out (below_size HB.out) (by simp only [List.length_nil]; omega) ?_
        intro vp wp ho hb hg hat hsz
        refine hK.out _ _ ?_
        clear hK K
        refine norm_ (a' := ?_) ?_ ?_
        rotate_left
        focus (show Act.put _ (some 37) _ = _; simp only [Act.put, List.setIfInBounds_toArray, List.set_cons_zero, List.set_cons_succ, i64_w, i32_w]; rfl)
        rw [List.nil_append] at ho
        have BN2 := am_ (blk_grown BN.out hg (fun e => NE.out (HOWN.out _ e.symm).symm))
        have NP := am_ (show ∀ q, vp.ownBlock = some q → q ≠ h39 from fun q hq => by
          rcases hat with e | e
          · rw [e] at hq; rw [HOWN.out q hq]; exact NE.out
          · rw [e] at hq; injection hq with hq; rw [← hq]; exact Nat.ne_of_gt (blk_lt BN.out))
        clear BN
        have BN := BN2
        clear BN2
        clear HE HB
        have HE := am_ ho
        have HB := am_ hb
        clear ho hb hg hat hsz
        refine last_ (i := 7) (N := some 40) #[true, true, true, true, true, true, true, true, true, true, true, false, false] rfl rfl (one_of HT_.out (by kernel_rfl)) (by decide) (fun K hK => ?_)
        refine append_row_step (w0 := w) w.heap.size (by rfl) (.tmp 37) (.tmp 39) 32 rfl Try.underlying32 infoI vp (xs.take k) [n] ⟨h39, 0, none⟩ 1 1 rfl rfl rfl (fun j u hu => by
          rcases j with _ | j
          · obtain rfl : n = u := by simpa using hu
            rw [Addr.add_lit]; exact (blk_cell BN.out 0).trans rfl
          · simp at hu) HE.out HB.out (below_size HB.out) (by rw [HTK.out]; omega) ?_
        intro vs ws ho hb hg hat hsz
        refine hK.out _ _ ?_
        clear hK K
        refine norm_ (a' := ?_) ?_ ?_
        rotate_left
        focus (show Act.put _ (some 40) _ = _; simp only [Act.put, List.setIfInBounds_toArray, List.set_cons_zero, List.set_cons_succ, i64_w, i32_w]; rfl)
        clear HE HB BN NP
        have HE := am_ ho
        have HB := am_ hb
        clear ho hb hg hat hsz
        refine last_ (i := 11) (N := some 44) #[true, true, true, true, true, true, true, true, true, true, true, true, false] rfl rfl (one_of HT_.out (by kernel_rfl)) (by decide) (fun K hK => ?_)
        refine append_row_step (w0 := w) w.heap.size (by rfl) (.tmp 40) (.tmp 43) 32 rfl Try.underlying32 infoI vs (xs.take k ++ [n]) (xs.drop k) ⟨b, 0, none⟩ (xs.length - k) (c - k) rfl rfl List.length_drop (fun j u hu => by rw [List.drop_eq_nil_of_le (by omega)] at hu; cases hu) HE.out HB.out (below_size HB.out) (by rw [List.length_append, HTK.out, List.length_singleton]; omega) ?_
        intro vz wz ho hb hg hat hsz
        refine hK.out _ _ ?_
        clear hK K
        refine norm_ (a' := ?_) ?_ ?_
        rotate_left
        focus (show Act.put _ (some 44) _ = _; simp only [Act.put, List.setIfInBounds_toArray, List.set_cons_zero, List.set_cons_succ, i64_w, i32_w]; rfl)
        clear HE HB
        have HE := am_ ho
        have HB := am_ hb
        clear ho hb hg hat hsz
        refine pure_ (i := 12) (N := some 4) (v := ?_) (a' := ?_) #[true, true, true, true, true, true, true, true, true, true, true, true, true] rfl rfl (any_of HT_.out (by kernel_rfl)) (fun _ _ _ h => h) (Or.inl ⟨by rfl, ?_⟩) ?_ ?_
        rotate_left
        focus (intro w'; go_simp; with_reducible rfl)
        rotate_left
        focus (simp only [Act.put, List.setIfInBounds_toArray, List.set_cons_zero, List.set_cons_succ, i64_w, i32_w]; rfl)
        refine done_ (done_of HT_.out (by kernel_rfl)) ?_
        go_wp2
        go_ret
        exact ⟨_, rfl, by rw [HPA.out]; exact (by (with_reducible repeat first | apply ra_ | apply rn_ | apply rd_); exact HE.out), (by repeat first | (with_reducible first | exact HB.out | apply ba_ | apply bn_ | apply bd_) | exact HB.out)⟩
end Go.Proofs.Ytlmdghcpcohamaa.O
