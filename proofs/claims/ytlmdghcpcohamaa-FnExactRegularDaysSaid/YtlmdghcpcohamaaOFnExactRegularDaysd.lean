/- Walks of our own, a part of those for the law FnExactRegularDays: each function's contract in plain Lean. No condition beyond the bounds that each contract names. -/
import Derived.Test.YtlmdghcpcohamaaPureFnExactRegularDays
import Derived.Deep.RegionWith
import Derived.Shelf.Sort.Plain
import Derived.Shelf.Lays
import Derived.Test.YtlmdghcpcohamaaOFnExactRegularDaysa
import Derived.Test.YtlmdghcpcohamaaOFnExactRegularDaysb
import Derived.Test.YtlmdghcpcohamaaOFnExactRegularDaysc
namespace Go.Proofs.Ytlmdghcpcohamaa.O
open Go.RowKit Go.Proofs.YtlmdghcpcohamaaW.PrintWords Go.Proofs.YtlmdghcpcohamaaW.PrintLast Go.Proofs.YtlmdghcpcohamaaW.PrintMore Go.Proofs.Ytlmdghcpcohamaa.PL14R Go.Proofs.Ytlmdghcpcohamaa.EvKit Go.Proofs.Ytlmdghcpcohamaa.Pure
set_option linter.unusedVariables false
set_option linter.unusedSimpArgs false
attribute [local go_sem] max2_int min2_int max_two min_two max_three min_three max_four min_four
theorem l3M_ev {day : Int} (h : 0 ≤ day ∧ day ≤ 36524) {n : Int} (hn : -4800 ≤ n ∧ n ≤ 4800) : Ev (fun k => spec_l3Months.f k day n) (addD (dateC day).1 (dateC day).2.1 (dateC day).2.2 n) := specMonths_ev n (dateC_is day h) (specDateC_ev day h) hn
theorem putF {a x : Int} (ha : a < x) : ∀ l : List Int, l ≠ [] → (∀ y ∈ l, x < y) → putA (a :: l) x = a :: x :: l
  | [], h, _ => absurd rfl h
  | b :: t, _, h => putA_front ha (h b List.mem_cons_self) t
theorem mulC {k : Nat} {s : Int} (hk : k ≤ 40) (hs : 1 ≤ s ∧ s ≤ 120) : 0 ≤ (k : Int) * s ∧ (k : Int) * s ≤ 4800 := by
  have h1 := Int.mul_le_mul_of_nonneg_left hs.2 (show 0 ≤ (k : Int) by omega)
  have h2 := Int.mul_nonneg (show 0 ≤ (k : Int) by omega) (show 0 ≤ s by omega)
  omega
set_option maxHeartbeats 16000000 in
set_option maxRecDepth 100000 in
theorem regS_c (a b m : Int) (bk : Bool) (w : World) :
    Calls Try.prog 41 #[.int .i64 a, .int .i64 b, .int .i64 m, .bool bk] w fun e w' => ∃ v, e = .returned (.tuple #[v, .bool (regA a b m bk).2]) ∧ (Kd.int .i64).R 3 w' w.heap.size (fun _ => True) v (regA a b m bk).1 ∧ Below w.heap.size w w' := by
  have HB := am_ (Below.refl w.heap.size w)
  have hda := l3Good_eq a
  have hdb := l3Good_eq b
  have hw := l1In_eq m 1 120
  by_cases ha : 0 ≤ a ∧ a ≤ 36524
  rotate_left
  · rw [decide_eq_false ha] at hda
    have HA := am_ hda
    have HNO := am_ (regA_no (b := b) (m := m) (bk := bk) (fun q => ha q.1))
    clear hda hdb hw ha
    go_enter Try.func41, Try.ntmps41
    go_wp2_with fail
    refine (spec_l3Good.calls a false _ HA.out).mono ?_
    rintro e w1_ ⟨rfl, ⟨q1, rfl⟩⟩
    go_wp2_with (((with_reducible refine gate_dst (N := 32) rfl ?_); refine Kd.R_lit (Kd.int .i64) w.heap.size 3 (w0 := w) ?hg (N := 32) ?hd (xs := []) (inner := []) (ok := fun _ => True) (okp := fun _ => True) ?hr ?hp (fun _ hk => hk) trivial (by repeat first | (with_reducible first | exact HB.out | apply ba_ | apply bn_ | apply bd_) | exact HB.out) (below_size (by repeat first | (with_reducible first | exact HB.out | apply ba_ | apply bn_ | apply bd_) | exact HB.out)) (by simp) ?_; (case hd => rfl); (case hg => rfl); (case hr => first | (go_simp; done) | (go_simp; rfl)); (case hp => exact (Reps.none _ _)); intro v1 w1 ho hb hgr hnw); have HO5 := am_ ho; clear HB; have HB := am_ hb; clear ho hb hgr hnw)
    go_ret2
    exact ⟨_, by rw [HNO.out]; rfl, by rw [HNO.out]; exact (by (with_reducible repeat first | apply ra_ | apply rn_ | apply rd_); exact HO5.out), (by repeat first | (with_reducible first | exact HB.out | apply ba_ | apply bn_ | apply bd_) | exact HB.out)⟩
  rw [decide_eq_true ha] at hda
  have HA := am_ hda
  by_cases hb : 0 ≤ b ∧ b ≤ 36524
  rotate_left
  · rw [decide_eq_false hb] at hdb
    have HBD := am_ hdb
    have HNO := am_ (regA_no (a := a) (m := m) (bk := bk) (fun q => hb q.2.1))
    clear hda hdb hw ha hb
    go_enter Try.func41, Try.ntmps41
    go_wp2_with fail
    refine (spec_l3Good.calls a true _ HA.out).mono ?_
    rintro e w1_ ⟨rfl, ⟨q1, rfl⟩⟩
    go_wp2_with fail
    refine (spec_l3Good.calls b false _ HBD.out).mono ?_
    rintro e w1_ ⟨rfl, ⟨q1, rfl⟩⟩
    go_wp2_with (((with_reducible refine gate_dst (N := 32) rfl ?_); refine Kd.R_lit (Kd.int .i64) w.heap.size 3 (w0 := w) ?hg (N := 32) ?hd (xs := []) (inner := []) (ok := fun _ => True) (okp := fun _ => True) ?hr ?hp (fun _ hk => hk) trivial (by repeat first | (with_reducible first | exact HB.out | apply ba_ | apply bn_ | apply bd_) | exact HB.out) (below_size (by repeat first | (with_reducible first | exact HB.out | apply ba_ | apply bn_ | apply bd_) | exact HB.out)) (by simp) ?_; (case hd => rfl); (case hg => rfl); (case hr => first | (go_simp; done) | (go_simp; rfl)); (case hp => exact (Reps.none _ _)); intro v1 w1 ho hb hgr hnw); have HO5 := am_ ho; clear HB; have HB := am_ hb; clear ho hb hgr hnw)
    go_ret2
    exact ⟨_, by rw [HNO.out]; rfl, by rw [HNO.out]; exact (by (with_reducible repeat first | apply ra_ | apply rn_ | apply rd_); exact HO5.out), (by repeat first | (with_reducible first | exact HB.out | apply ba_ | apply bn_ | apply bd_) | exact HB.out)⟩
  rw [decide_eq_true hb] at hdb
  have HBD := am_ hdb
  by_cases hab : a < b
  rotate_left
  · have d0 : decide (b ≤ a) = true := decide_eq_true (by omega)
    have HNO := am_ (regA_no (m := m) (bk := bk) (fun q => hab q.2.2.1))
    clear hda hdb hw ha hb hab
    go_enter Try.func41, Try.ntmps41
    go_wp2_with fail
    refine (spec_l3Good.calls a true _ HA.out).mono ?_
    rintro e w1_ ⟨rfl, ⟨q1, rfl⟩⟩
    go_wp2_with fail
    refine (spec_l3Good.calls b true _ HBD.out).mono ?_
    rintro e w1_ ⟨rfl, ⟨q1, rfl⟩⟩
    go_wp2_with (((with_reducible refine gate_dst (N := 32) rfl ?_); refine Kd.R_lit (Kd.int .i64) w.heap.size 3 (w0 := w) ?hg (N := 32) ?hd (xs := []) (inner := []) (ok := fun _ => True) (okp := fun _ => True) ?hr ?hp (fun _ hk => hk) trivial (by repeat first | (with_reducible first | exact HB.out | apply ba_ | apply bn_ | apply bd_) | exact HB.out) (below_size (by repeat first | (with_reducible first | exact HB.out | apply ba_ | apply bn_ | apply bd_) | exact HB.out)) (by simp) ?_; (case hd => rfl); (case hg => rfl); (case hr => first | (go_simp; done) | (go_simp; rfl)); (case hp => exact (Reps.none _ _)); intro v1 w1 ho hb hgr hnw); have HO5 := am_ ho; clear HB; have HB := am_ hb; clear ho hb hgr hnw)
    go_ret2
    exact ⟨_, by rw [HNO.out]; rfl, by rw [HNO.out]; exact (by (with_reducible repeat first | apply ra_ | apply rn_ | apply rd_); exact HO5.out), (by repeat first | (with_reducible first | exact HB.out | apply ba_ | apply bn_ | apply bd_) | exact HB.out)⟩
  have d0 : decide (b ≤ a) = false := decide_eq_false (by omega)
  by_cases hm : 1 ≤ m ∧ m ≤ 120
  rotate_left
  · rw [decide_eq_false hm] at hw
    have HW := am_ hw
    have HNO := am_ (regA_no (a := a) (b := b) (bk := bk) (fun q => hm q.2.2.2))
    clear hda hdb hw ha hb hab hm
    go_enter Try.func41, Try.ntmps41
    go_wp2_with fail
    refine (spec_l3Good.calls a true _ HA.out).mono ?_
    rintro e w1_ ⟨rfl, ⟨q1, rfl⟩⟩
    go_wp2_with fail
    refine (spec_l3Good.calls b true _ HBD.out).mono ?_
    rintro e w1_ ⟨rfl, ⟨q1, rfl⟩⟩
    go_wp2_with fail
    refine (spec_l1In.calls m 1 120 false _ HW.out).mono ?_
    rintro e w3_ ⟨rfl, ⟨q3, rfl⟩⟩
    go_wp2_with (((with_reducible refine gate_dst (N := 32) rfl ?_); refine Kd.R_lit (Kd.int .i64) w.heap.size 3 (w0 := w) ?hg (N := 32) ?hd (xs := []) (inner := []) (ok := fun _ => True) (okp := fun _ => True) ?hr ?hp (fun _ hk => hk) trivial (by repeat first | (with_reducible first | exact HB.out | apply ba_ | apply bn_ | apply bd_) | exact HB.out) (below_size (by repeat first | (with_reducible first | exact HB.out | apply ba_ | apply bn_ | apply bd_) | exact HB.out)) (by simp) ?_; (case hd => rfl); (case hg => rfl); (case hr => first | (go_simp; done) | (go_simp; rfl)); (case hp => exact (Reps.none _ _)); intro v1 w1 ho hb hgr hnw); have HO5 := am_ ho; clear HB; have HB := am_ hb; clear ho hb hgr hnw)
    go_ret2
    exact ⟨_, by rw [HNO.out]; rfl, by rw [HNO.out]; exact (by (with_reducible repeat first | apply ra_ | apply rn_ | apply rd_); exact HO5.out), (by repeat first | (with_reducible first | exact HB.out | apply ba_ | apply bn_ | apply bd_) | exact HB.out)⟩
  rw [decide_eq_true hm] at hw
  have HW := am_ hw
  have HG := am_ (show (0 ≤ a ∧ a ≤ 36524) ∧ (0 ≤ b ∧ b ≤ 36524) ∧ a < b ∧ (1 ≤ m ∧ m ≤ 120) from ⟨ha, hb, hab, hm⟩)
  have hm1_ := hm.1
  have hm2_ := hm.2
  clear hda hdb hw ha hb hab hm
  cases bk with
  | false =>
    go_enter Try.func41, Try.ntmps41
    go_wp2_with fail
    refine (spec_l3Good.calls a true _ HA.out).mono ?_
    rintro e w1_ ⟨rfl, ⟨q1, rfl⟩⟩
    go_wp2_with fail
    refine (spec_l3Good.calls b true _ HBD.out).mono ?_
    rintro e w1_ ⟨rfl, ⟨q1, rfl⟩⟩
    go_wp2_with fail
    refine (spec_l1In.calls m 1 120 true _ HW.out).mono ?_
    rintro e w3_ ⟨rfl, ⟨q3, rfl⟩⟩
    go_wp2_with ((with_reducible refine gate_dst (N := 35) rfl ?_); refine Kd.R_lit (Kd.int .i64) w.heap.size 3 (w0 := w) ?hg (N := 35) ?hd (xs := ([a, b] : List Int)) (inner := [.int .i64 a, .int .i64 b]) (ok := fun _ => True) (okp := fun _ => True) ?hr ?hp (fun _ hk => hk) trivial (by repeat first | (with_reducible first | exact HB.out | apply ba_ | apply bn_ | apply bd_) | exact HB.out) (below_size (by repeat first | (with_reducible first | exact HB.out | apply ba_ | apply bn_ | apply bd_) | exact HB.out)) (by simp) ?_; (case hd => rfl); (case hg => rfl); (case hr => first | (go_simp; done) | (go_simp; rfl)); (case hp => exact (Reps.one (show Kd.M (Kd.int .i64) _ _ _ a [.int .i64 a] from rfl) (Reps.one (show Kd.M (Kd.int .i64) _ _ _ b [.int .i64 b] from rfl) (Reps.none _ _)))); intro v1 w1 ho hb hgr hnw; have HO := am_ ho; clear HB; have HB := am_ hb; clear ho hb hgr hnw)
    go_loopw [10, 11] (fun v10 v11 wr => ∃ (k : Nat) (pre XS : List Int), v11 = .int .i64 k ∧ Aside0 (1 ≤ k ∧ k ≤ 40 ∧ pre.length + 1 = k) ∧ Aside0 (regS a b m false = pre ++ regL a b a (m) (1202 - k) k) ∧ Aside0 (XS = a :: (pre ++ [b])) ∧ Aside0 ((Kd.int .i64).R 3 wr w.heap.size (fun _ => True) v10 XS) ∧ Aside0 (Below w.heap.size w wr)) (fun _ v11 _ => 100 - (intOf v11).toNat)
    case atStart => exact ⟨1, [], [a, b], rfl, ⟨by omega, by omega, rfl⟩, ⟨by rw [List.nil_append]; unfold regS; simp⟩, ⟨rfl⟩, ⟨(by (with_reducible repeat first | apply ra_ | apply rn_ | apply rd_); exact HO.out)⟩, ⟨(by repeat first | (with_reducible first | exact HB.out | apply ba_ | apply bn_ | apply bd_) | exact HB.out)⟩⟩
    case round =>
      clear HO HB
      obtain ⟨k, pre, XS, rfl, HK, HS, HXS, HO, HB⟩ := hrel
      have k0 := HK.out.1
      have k1 := HK.out.2.1
      have hkp := HK.out.2.2
      have hmc := mulC (s := m) k1 (by omega)
      have hm0 := hmc.1
      have hm9 := hmc.2
      obtain ⟨kf, hkf⟩ := roundsOf (l3M_ev HG.out.1 (n := (k : Int) * m) (by omega))
      have hsrt := regM_sorted (back := false) HG.out
      have hgo := fun h => regL_go (lo := a) (hi := b) (day := a) (s := m) (k := k) (by omega) h
      have hen := fun h => regL_end (lo := a) (hi := b) (day := a) (s := m) (k := k) (by omega) h
      have hkb := hkf
      rw [show addD (dateC a).1 (dateC a).2.1 (dateC a).2.2 ((k : Int) * m) = regD a m k from rfl] at hkb
      obtain ⟨D, hD⟩ : ∃ D, D = regD a (m) k := ⟨_, rfl⟩
      rw [← hD] at hkb hgo hen
      clear hD hmc hkf
      obtain ⟨dy, ok⟩ := D
      simp only at hgo hen
      have HKB := am_ hkb
      clear hkb
      go_wp2_with fail
      refine (spec_l3Months.calls kf a ((k : Int) * m) dy ok _ HKB.out).mono ?_
      rintro e w5 ⟨rfl, hb⟩
      replace HO := am_ (Kd.R_below (by (with_reducible repeat first | apply ra_ | apply rn_ | apply rd_); exact HO.out) hb); replace HB := am_ (below_step (by repeat first | (with_reducible first | exact HB.out | apply ba_ | apply bn_ | apply bd_) | exact HB.out) hb); clear hb
      have HXL := am_ (show XS.length = k + 1 from by rw [HXS.out]; simp; omega)
      by_cases hc : ok = true ∧ a < dy ∧ dy < b
      · obtain ⟨rfl, h1, h2⟩ := hc
        have HSX := am_ (show regS a b m false = pre ++ dy :: regL a b a (m) (1202 - (k + 1)) (k + 1) from by rw [HS.out, hgo ⟨rfl, h1, h2⟩])
        have HPE := am_ (show putA XS dy = a :: ((pre ++ [dy]) ++ [b]) from by
          rw [HXS.out, show a :: (pre ++ [b]) = (a :: pre) ++ [b] from rfl, putA_end h2 (a :: pre) (fun y hy => by
          rcases List.mem_cons.mp hy with q | q
          · rw [q]; exact h1
          · have hp := (regL_up (lo := a) (hi := b) HG.out.1 (s := m) (by omega) 1201 1).1
            have he : regL a b a m 1201 1 = pre ++ dy :: regL a b a m (1202 - (k + 1)) (k + 1) := by have h := HSX.out; unfold regS at h; simpa using h
            rw [he, List.pairwise_append] at hp
            exact hp.2.2 y q dy List.mem_cons_self)]; simp)
        have HNE := am_ (show ∀ y ∈ XS, y ≠ dy from fun y hy => by
          rw [HXS.out] at hy
          have hsx := HSX.out
          have hp := (regL_up (lo := a) (hi := b) HG.out.1 (s := m) (by omega) 1201 1).1
          have he : regL a b a m 1201 1 = pre ++ dy :: regL a b a (m) (1202 - (k + 1)) (k + 1) := by have h := HSX.out; unfold regS at h; simpa using h
          rw [he, List.pairwise_append] at hp
          rcases List.mem_cons.mp hy with q | q
          · omega
          · rcases List.mem_append.mp q with q | q
            · have h9 := hp.2.2 y q dy List.mem_cons_self
              omega
            · rw [List.mem_singleton.mp q]; omega)
        have HS2 := am_ (show regS a b m false = (pre ++ [dy]) ++ regL a b a (m) (1202 - (k + 1)) (k + 1) from by rw [HSX.out, List.append_assoc]; rfl)
        have d1 : decide (dy ≤ a) = false := decide_eq_false (by omega)
        have d2 : decide (b ≤ dy) = false := decide_eq_false (by omega)
        obtain ⟨g, cap, hv, _, _⟩ := Kd.R_form HO.out (by have := HXL.out; omega)
        subst hv
        clear hgo hen hsrt h1 h2
        go_wp2_with fail
        refine (putS_c g cap XS dy _ (by repeat first | exact (R_C HO.out) | with_reducible refine ca_ ?_ _ | with_reducible refine cn_ ?_ _ | with_reducible refine cd_ ?_) (R_cap HO.out) (by have := HXL.out; omega) HNE.out).mono ?_
        rintro e w7 ⟨v7, rfl, ho, hb⟩
        have HO2 := am_ (Kd.R_lower ho (show w.heap.size ≤ _ from below_size (by repeat first | (with_reducible first | exact HB.out | apply ba_ | apply bn_ | apply bd_) | exact HB.out)))
        replace HB := am_ (below_step (by repeat first | (with_reducible first | exact HB.out | apply ba_ | apply bn_ | apply bd_) | exact HB.out) hb); clear hb
        clear ho HO
        rw [HPE.out] at HO2
        obtain ⟨YS, hYS⟩ : ∃ Y, Y = a :: ((pre ++ [dy]) ++ [b]) := ⟨_, rfl⟩
        have HYL := am_ (show YS.length = k + 2 from by rw [hYS]; simp; omega)
        have HYS := am_ hYS
        rw [← hYS] at HO2
        clear hYS
        obtain ⟨g2, cap2, hv2, _, _⟩ := Kd.R_form HO2.out (by have := HYL.out; omega)
        subst hv2
        by_cases hk4 : k < 40
        · have d3 : decide (41 < YS.length) = false := decide_eq_false (by have := HYL.out; omega)
          have d4 : decide ((41 : Int) < (YS.length : Int)) = false := decide_eq_false (by have := HYL.out; omega)
          go_wp2
          go_roundw
          case rel => exact ⟨k + 1, pre ++ [dy], YS, by go_num, ⟨by omega, by omega, by rw [List.length_append]; simp; omega⟩, HS2, HYS, ⟨(by (with_reducible repeat first | apply ra_ | apply rn_ | apply rd_); exact HO2.out)⟩, ⟨(by repeat first | (with_reducible first | exact HB.out | apply ba_ | apply bn_ | apply bd_) | exact HB.out)⟩⟩
          case measure => simp [intOf]; omega
        · have d3 : decide (41 < YS.length) = true := decide_eq_true (by have := HYL.out; omega)
          have d4 : decide ((41 : Int) < (YS.length : Int)) = true := decide_eq_true (by have := HYL.out; omega)
          have HNO := am_ (show regA a b m false = ([], false) from (regA_yes HG.out).trans (if_neg (by rw [HS2.out, List.length_append, List.length_append]; simp; omega)))
          go_wp2_with (((with_reducible refine gate_dst (N := 74) rfl ?_); refine Kd.R_lit (Kd.int .i64) w.heap.size 3 (w0 := w) ?hg (N := 74) ?hd (xs := []) (inner := []) (ok := fun _ => True) (okp := fun _ => True) ?hr ?hp (fun _ hk => hk) trivial (by repeat first | (with_reducible first | exact HB.out | apply ba_ | apply bn_ | apply bd_) | exact HB.out) (below_size (by repeat first | (with_reducible first | exact HB.out | apply ba_ | apply bn_ | apply bd_) | exact HB.out)) (by simp) ?_; (case hd => rfl); (case hg => rfl); (case hr => first | (go_simp; done) | (go_simp; rfl)); (case hp => exact (Reps.none _ _)); intro v1 w1 ho hb hgr hnw); have HO5 := am_ ho; clear HB; have HB := am_ hb; clear ho hb hgr hnw)
          go_ret2
          exact ⟨_, by rw [HNO.out]; rfl, by rw [HNO.out]; exact (by (with_reducible repeat first | apply ra_ | apply rn_ | apply rd_); exact HO5.out), (by repeat first | (with_reducible first | exact HB.out | apply ba_ | apply bn_ | apply bd_) | exact HB.out)⟩
      · have HF := am_ (show regA a b m false = (XS, true) from by
          have h := HS.out
          rw [hen hc, List.append_nil] at h
          rw [regA_yes HG.out, if_pos (by rw [h]; omega), HXS.out]
          unfold regM
          rw [h]
          simp)
        clear hgo hen hsrt
        by_cases ho_ : ok = true
        · subst ho_
          by_cases h1 : dy ≤ a
          · have d1 : decide (dy ≤ a) = true := decide_eq_true h1
            clear hc h1
            go_wp2
            go_ret2
            exact ⟨_, by rw [HF.out]; rfl, by rw [HF.out]; exact (by (with_reducible repeat first | apply ra_ | apply rn_ | apply rd_); exact HO.out), (by repeat first | (with_reducible first | exact HB.out | apply ba_ | apply bn_ | apply bd_) | exact HB.out)⟩
          · have d1 : decide (dy ≤ a) = false := decide_eq_false h1
            have d2 : decide (b ≤ dy) = true := decide_eq_true (by
              by_cases q : b ≤ dy
              · exact q
              · exact absurd ⟨rfl, by omega, by omega⟩ hc)
            clear hc h1
            go_wp2
            go_ret2
            exact ⟨_, by rw [HF.out]; rfl, by rw [HF.out]; exact (by (with_reducible repeat first | apply ra_ | apply rn_ | apply rd_); exact HO.out), (by repeat first | (with_reducible first | exact HB.out | apply ba_ | apply bn_ | apply bd_) | exact HB.out)⟩
        · obtain rfl : ok = false := by simpa using ho_
          clear hc ho_
          go_wp2
          go_ret2
          exact ⟨_, by rw [HF.out]; rfl, by rw [HF.out]; exact (by (with_reducible repeat first | apply ra_ | apply rn_ | apply rd_); exact HO.out), (by repeat first | (with_reducible first | exact HB.out | apply ba_ | apply bn_ | apply bd_) | exact HB.out)⟩
  | true =>
    go_enter Try.func41, Try.ntmps41
    go_wp2_with fail
    refine (spec_l3Good.calls a true _ HA.out).mono ?_
    rintro e w1_ ⟨rfl, ⟨q1, rfl⟩⟩
    go_wp2_with fail
    refine (spec_l3Good.calls b true _ HBD.out).mono ?_
    rintro e w1_ ⟨rfl, ⟨q1, rfl⟩⟩
    go_wp2_with fail
    refine (spec_l1In.calls m 1 120 true _ HW.out).mono ?_
    rintro e w3_ ⟨rfl, ⟨q3, rfl⟩⟩
    go_wp2_with ((with_reducible refine gate_dst (N := 35) rfl ?_); refine Kd.R_lit (Kd.int .i64) w.heap.size 3 (w0 := w) ?hg (N := 35) ?hd (xs := ([a, b] : List Int)) (inner := [.int .i64 a, .int .i64 b]) (ok := fun _ => True) (okp := fun _ => True) ?hr ?hp (fun _ hk => hk) trivial (by repeat first | (with_reducible first | exact HB.out | apply ba_ | apply bn_ | apply bd_) | exact HB.out) (below_size (by repeat first | (with_reducible first | exact HB.out | apply ba_ | apply bn_ | apply bd_) | exact HB.out)) (by simp) ?_; (case hd => rfl); (case hg => rfl); (case hr => first | (go_simp; done) | (go_simp; rfl)); (case hp => exact (Reps.one (show Kd.M (Kd.int .i64) _ _ _ a [.int .i64 a] from rfl) (Reps.one (show Kd.M (Kd.int .i64) _ _ _ b [.int .i64 b] from rfl) (Reps.none _ _)))); intro v1 w1 ho hb hgr hnw; have HO := am_ ho; clear HB; have HB := am_ hb; clear ho hb hgr hnw)
    go_loopw [10, 11] (fun v10 v11 wr => ∃ (k : Nat) (pre XS : List Int), v11 = .int .i64 k ∧ Aside0 (1 ≤ k ∧ k ≤ 40 ∧ pre.length + 1 = k) ∧ Aside0 (regS a b m true = pre ++ regL a b b (-m) (1202 - k) k) ∧ Aside0 (XS = a :: (pre.reverse ++ [b])) ∧ Aside0 ((Kd.int .i64).R 3 wr w.heap.size (fun _ => True) v10 XS) ∧ Aside0 (Below w.heap.size w wr)) (fun _ v11 _ => 100 - (intOf v11).toNat)
    case atStart => exact ⟨1, [], [a, b], rfl, ⟨by omega, by omega, rfl⟩, ⟨by rw [List.nil_append]; unfold regS; simp⟩, ⟨rfl⟩, ⟨(by (with_reducible repeat first | apply ra_ | apply rn_ | apply rd_); exact HO.out)⟩, ⟨(by repeat first | (with_reducible first | exact HB.out | apply ba_ | apply bn_ | apply bd_) | exact HB.out)⟩⟩
    case round =>
      clear HO HB
      obtain ⟨k, pre, XS, rfl, HK, HS, HXS, HO, HB⟩ := hrel
      have k0 := HK.out.1
      have k1 := HK.out.2.1
      have hkp := HK.out.2.2
      have hmc := mulC (s := m) k1 (by omega)
      have hm0 := hmc.1
      have hm9 := hmc.2
      obtain ⟨kf, hkf⟩ := roundsOf (l3M_ev HG.out.1 (n := (k : Int) * m) (by omega))
      have hsrt := regM_sorted (back := true) HG.out
      have hgo := fun h => regL_go (lo := a) (hi := b) (day := b) (s := -m) (k := k) (by omega) h
      have hen := fun h => regL_end (lo := a) (hi := b) (day := b) (s := -m) (k := k) (by omega) h
      obtain ⟨DF, hDF⟩ : ∃ D, D = addD (dateC a).1 (dateC a).2.1 (dateC a).2.2 ((k : Int) * m) := ⟨_, rfl⟩
      rw [← hDF] at hkf
      clear hDF
      obtain ⟨df, of_⟩ := DF
      have HKF := am_ hkf
      obtain ⟨kb, hkb⟩ := roundsOf (l3M_ev HG.out.2.1 (n := (-(k : Int)) * m) (by rw [Int.neg_mul]; omega))
      have hm5 : -4800 ≤ -(k : Int) * m := by rw [Int.neg_mul]; omega
      have hm6 : -(k : Int) * m ≤ 0 := by rw [Int.neg_mul]; omega
      rw [show addD (dateC b).1 (dateC b).2.1 (dateC b).2.2 (-(k : Int) * m) = regD b (-m) k from by rw [regD, Int.neg_mul, Int.mul_neg]] at hkb
      obtain ⟨D, hD⟩ : ∃ D, D = regD b (-m) k := ⟨_, rfl⟩
      rw [← hD] at hkb hgo hen
      clear hD hmc hkf
      obtain ⟨dy, ok⟩ := D
      simp only at hgo hen
      have HKB := am_ hkb
      clear hkb
      go_wp2_with fail
      refine (spec_l3Months.calls kf a ((k : Int) * m) df of_ _ HKF.out).mono ?_
      rintro e w5 ⟨rfl, hb⟩
      replace HO := am_ (Kd.R_below (by (with_reducible repeat first | apply ra_ | apply rn_ | apply rd_); exact HO.out) hb); replace HB := am_ (below_step (by repeat first | (with_reducible first | exact HB.out | apply ba_ | apply bn_ | apply bd_) | exact HB.out) hb); clear hb
      go_wp2_with fail
      refine (spec_l3Months.calls kb b (-(k : Int) * m) dy ok _ HKB.out).mono ?_
      rintro e w6 ⟨rfl, hb⟩
      replace HO := am_ (Kd.R_below (by (with_reducible repeat first | apply ra_ | apply rn_ | apply rd_); exact HO.out) hb); replace HB := am_ (below_step (by repeat first | (with_reducible first | exact HB.out | apply ba_ | apply bn_ | apply bd_) | exact HB.out) hb); clear hb
      have HXL := am_ (show XS.length = k + 1 from by rw [HXS.out]; simp; omega)
      by_cases hc : ok = true ∧ a < dy ∧ dy < b
      · obtain ⟨rfl, h1, h2⟩ := hc
        have HSX := am_ (show regS a b m true = pre ++ dy :: regL a b b (-m) (1202 - (k + 1)) (k + 1) from by rw [HS.out, hgo ⟨rfl, h1, h2⟩])
        have HPE := am_ (show putA XS dy = a :: ((pre ++ [dy]).reverse ++ [b]) from by
          rw [HXS.out, putF h1 (pre.reverse ++ [b]) (by simp) (fun y hy => by
          rcases List.mem_append.mp hy with q | q
          · have hp := (regL_down (lo := a) (hi := b) HG.out.2.1 (s := -m) (by omega) 1201 1).1
            have he : regL a b b (-m) 1201 1 = pre ++ dy :: regL a b b (-m) (1202 - (k + 1)) (k + 1) := by have h := HSX.out; unfold regS at h; simpa using h
            rw [he, List.pairwise_append] at hp
            exact hp.2.2 y (List.mem_reverse.mp q) dy List.mem_cons_self
          · rw [List.mem_singleton.mp q]; exact h2), List.reverse_append]; rfl)
        have HNE := am_ (show ∀ y ∈ XS, y ≠ dy from fun y hy => by
          rw [HXS.out] at hy
          have hsx := HSX.out
          have hp := (regL_down (lo := a) (hi := b) HG.out.2.1 (s := -m) (by omega) 1201 1).1
          have he : regL a b b (-m) 1201 1 = pre ++ dy :: regL a b b (-m) (1202 - (k + 1)) (k + 1) := by have h := HSX.out; unfold regS at h; simpa using h
          rw [he, List.pairwise_append] at hp
          rcases List.mem_cons.mp hy with q | q
          · omega
          · rcases List.mem_append.mp q with q | q
            · have h9 := hp.2.2 y (List.mem_reverse.mp q) dy List.mem_cons_self
              omega
            · rw [List.mem_singleton.mp q]; omega)
        have HS2 := am_ (show regS a b m true = (pre ++ [dy]) ++ regL a b b (-m) (1202 - (k + 1)) (k + 1) from by rw [HSX.out, List.append_assoc]; rfl)
        have d1 : decide (dy ≤ a) = false := decide_eq_false (by omega)
        have d2 : decide (b ≤ dy) = false := decide_eq_false (by omega)
        obtain ⟨g, cap, hv, _, _⟩ := Kd.R_form HO.out (by have := HXL.out; omega)
        subst hv
        clear hgo hen hsrt h1 h2
        go_wp2_with fail
        refine (putS_c g cap XS dy _ (by repeat first | exact (R_C HO.out) | with_reducible refine ca_ ?_ _ | with_reducible refine cn_ ?_ _ | with_reducible refine cd_ ?_) (R_cap HO.out) (by have := HXL.out; omega) HNE.out).mono ?_
        rintro e w7 ⟨v7, rfl, ho, hb⟩
        have HO2 := am_ (Kd.R_lower ho (show w.heap.size ≤ _ from below_size (by repeat first | (with_reducible first | exact HB.out | apply ba_ | apply bn_ | apply bd_) | exact HB.out)))
        replace HB := am_ (below_step (by repeat first | (with_reducible first | exact HB.out | apply ba_ | apply bn_ | apply bd_) | exact HB.out) hb); clear hb
        clear ho HO
        rw [HPE.out] at HO2
        obtain ⟨YS, hYS⟩ : ∃ Y, Y = a :: ((pre ++ [dy]).reverse ++ [b]) := ⟨_, rfl⟩
        have HYL := am_ (show YS.length = k + 2 from by rw [hYS]; simp; omega)
        have HYS := am_ hYS
        rw [← hYS] at HO2
        clear hYS
        obtain ⟨g2, cap2, hv2, _, _⟩ := Kd.R_form HO2.out (by have := HYL.out; omega)
        subst hv2
        by_cases hk4 : k < 40
        · have d3 : decide (41 < YS.length) = false := decide_eq_false (by have := HYL.out; omega)
          have d4 : decide ((41 : Int) < (YS.length : Int)) = false := decide_eq_false (by have := HYL.out; omega)
          go_wp2
          go_roundw
          case rel => exact ⟨k + 1, pre ++ [dy], YS, by go_num, ⟨by omega, by omega, by rw [List.length_append]; simp; omega⟩, HS2, HYS, ⟨(by (with_reducible repeat first | apply ra_ | apply rn_ | apply rd_); exact HO2.out)⟩, ⟨(by repeat first | (with_reducible first | exact HB.out | apply ba_ | apply bn_ | apply bd_) | exact HB.out)⟩⟩
          case measure => simp [intOf]; omega
        · have d3 : decide (41 < YS.length) = true := decide_eq_true (by have := HYL.out; omega)
          have d4 : decide ((41 : Int) < (YS.length : Int)) = true := decide_eq_true (by have := HYL.out; omega)
          have HNO := am_ (show regA a b m true = ([], false) from (regA_yes HG.out).trans (if_neg (by rw [HS2.out, List.length_append, List.length_append]; simp; omega)))
          go_wp2_with (((with_reducible refine gate_dst (N := 74) rfl ?_); refine Kd.R_lit (Kd.int .i64) w.heap.size 3 (w0 := w) ?hg (N := 74) ?hd (xs := []) (inner := []) (ok := fun _ => True) (okp := fun _ => True) ?hr ?hp (fun _ hk => hk) trivial (by repeat first | (with_reducible first | exact HB.out | apply ba_ | apply bn_ | apply bd_) | exact HB.out) (below_size (by repeat first | (with_reducible first | exact HB.out | apply ba_ | apply bn_ | apply bd_) | exact HB.out)) (by simp) ?_; (case hd => rfl); (case hg => rfl); (case hr => first | (go_simp; done) | (go_simp; rfl)); (case hp => exact (Reps.none _ _)); intro v1 w1 ho hb hgr hnw); have HO5 := am_ ho; clear HB; have HB := am_ hb; clear ho hb hgr hnw)
          go_ret2
          exact ⟨_, by rw [HNO.out]; rfl, by rw [HNO.out]; exact (by (with_reducible repeat first | apply ra_ | apply rn_ | apply rd_); exact HO5.out), (by repeat first | (with_reducible first | exact HB.out | apply ba_ | apply bn_ | apply bd_) | exact HB.out)⟩
      · have HF := am_ (show regA a b m true = (XS, true) from by
          have h := HS.out
          rw [hen hc, List.append_nil] at h
          rw [regA_yes HG.out, if_pos (by rw [h]; omega), HXS.out]
          unfold regM
          rw [h]
          simp)
        clear hgo hen hsrt
        by_cases ho_ : ok = true
        · subst ho_
          by_cases h1 : dy ≤ a
          · have d1 : decide (dy ≤ a) = true := decide_eq_true h1
            clear hc h1
            go_wp2
            go_ret2
            exact ⟨_, by rw [HF.out]; rfl, by rw [HF.out]; exact (by (with_reducible repeat first | apply ra_ | apply rn_ | apply rd_); exact HO.out), (by repeat first | (with_reducible first | exact HB.out | apply ba_ | apply bn_ | apply bd_) | exact HB.out)⟩
          · have d1 : decide (dy ≤ a) = false := decide_eq_false h1
            have d2 : decide (b ≤ dy) = true := decide_eq_true (by
              by_cases q : b ≤ dy
              · exact q
              · exact absurd ⟨rfl, by omega, by omega⟩ hc)
            clear hc h1
            go_wp2
            go_ret2
            exact ⟨_, by rw [HF.out]; rfl, by rw [HF.out]; exact (by (with_reducible repeat first | apply ra_ | apply rn_ | apply rd_); exact HO.out), (by repeat first | (with_reducible first | exact HB.out | apply ba_ | apply bn_ | apply bd_) | exact HB.out)⟩
        · obtain rfl : ok = false := by simpa using ho_
          clear hc ho_
          go_wp2
          go_ret2
          exact ⟨_, by rw [HF.out]; rfl, by rw [HF.out]; exact (by (with_reducible repeat first | apply ra_ | apply rn_ | apply rd_); exact HO.out), (by repeat first | (with_reducible first | exact HB.out | apply ba_ | apply bn_ | apply bd_) | exact HB.out)⟩
end Go.Proofs.Ytlmdghcpcohamaa.O
