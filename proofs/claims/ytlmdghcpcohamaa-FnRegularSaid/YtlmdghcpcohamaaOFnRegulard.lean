/- Walks of our own, a part of those for the law FnRegular: each function's contract in plain Lean. No condition beyond the bounds that each contract names. -/
import Derived.Test.YtlmdghcpcohamaaPureFnRegular
import Derived.Deep.RegionWith
import Derived.Shelf.Sort.Plain
import Derived.Shelf.Lays
import Derived.Test.YtlmdghcpcohamaaOFnRegulara
import Derived.Test.YtlmdghcpcohamaaOFnRegularb
import Derived.Test.YtlmdghcpcohamaaOFnRegularc
namespace Go.Proofs.Ytlmdghcpcohamaa.O
open Go.RowKit Go.Proofs.YtlmdghcpcohamaaW.PrintWords Go.Proofs.YtlmdghcpcohamaaW.PrintLast Go.Proofs.YtlmdghcpcohamaaW.PrintMore Go.Proofs.Ytlmdghcpcohamaa.PL14G Go.Proofs.Ytlmdghcpcohamaa.EvKit Go.Proofs.Ytlmdghcpcohamaa.Pure
set_option linter.unusedVariables false
set_option linter.unusedSimpArgs false
attribute [local go_sem] max2_int min2_int max_two min_two max_three min_three max_four min_four
theorem l3M_ev {day : Int} (h : 0 ≤ day ∧ day ≤ 36524) {n : Int} (hn : -4800 ≤ n ∧ n ≤ 4800) : Ev (fun k => spec_l3Months.f k day n) (addD (dateC day).1 (dateC day).2.1 (dateC day).2.2 n) := specMonths_ev n (dateC_is day h) (specDateC_ev day h) hn
theorem putF {a x : Int} (ha : a < x) : ∀ l : List Int, l ≠ [] → (∀ y ∈ l, x < y) → putA (a :: l) x = a :: x :: l
  | [], h, _ => absurd rfl h
  | b :: t, _, h => putA_front ha (h b List.mem_cons_self) t
theorem mulC {k : Nat} {s : Int} (hk : k ≤ 40) (hs : 1 ≤ s ∧ s ≤ 120) : 0 ≤ (k : Int) * s ∧ (k : Int) * s ≤ 4800 := by
  have h1 := Int.mul_le_mul_of_nonneg_left hs.2 (show 0 ≤ (k : Int) by omega)
  have h2 := Int.mul_nonneg (show 0 ≤ (k : Int) by omega) (show 0 ≤ s by omega)
  omega
set_option maxHeartbeats 16000000 in
set_option maxRecDepth 100000 in
theorem regS_c (a b m : Int) (bk : Bool) (w : World) :
    Calls Try.prog 41 #[.int .i64 a, .int .i64 b, .int .i64 m, .bool bk] w fun e w' => ∃ v, e = .returned (.tuple #[v, .bool (regA a b m bk).2]) ∧ (Kd.int .i64).R 3 w' w.heap.size (fun _ => True) v (regA a b m bk).1 ∧ Below w.heap.size w w' := by
  have HB := am_ (Below.refl w.heap.size w)
  have hda := l3Good_eq a
  have hdb := l3Good_eq b
  have hw := l1In_eq m 1 120
  by_cases ha : 0 ≤ a ∧ a ≤ 36524
  rotate_left
  · rw [decide_eq_false ha] at hda
    have HA := am_ hda
    have HNO := am_ (regA_no (b := b) (m := m) (bk := bk) (fun q => ha q.1))
    clear hda hdb hw ha
    go_enter Try.func41, Try.ntmps41
    go_wp2_with fail
    refine (spec_l3Good.calls a false _ HA.out).mono ?_
    rintro e w1_ ⟨rfl, ⟨q1, rfl⟩⟩
    go_wp2_with (((with_reducible refine gate_dst (N := 32) rfl ?_); refine Kd.R_lit (Kd.int .i64) w.heap.size 3 (w0 := w) ?hg (N := 32) ?hd (xs := []) (inner := []) (ok := fun _ => True) (okp := fun _ => True) ?hr ?hp (fun _ hk => hk) trivial (by repeat first | (with_reducible first | exact HB.out | apply ba_ | apply bn_ | apply bd_) | exact HB.out) (below_size (by repeat first | (with_reducible first | exact HB.out | apply ba_ | apply bn_ | apply bd_) | exact HB.out)) (by simp) ?_; (case hd => rfl); (case hg => rfl); (case hr => first | (go_simp; done) | (go_simp; rfl)); (case hp => exact (Reps.none _ _)); intro v1 w1 ho hb hgr hnw); have HO5 := am_ ho; clear HB; have HB := am_ hb; clear ho hb hgr hnw)
    go_ret2
    exact ⟨_, by rw [HNO.out]; rfl, by rw [HNO.out]; exact (by (with_reducible repeat first | apply ra_ | apply rn_ | apply rd_); exact HO5.out), (by repeat first | (with_reducible first | exact HB.out | apply ba_ | apply bn_ | apply bd_) | exact HB.out)⟩
  rw [decide_eq_true ha] at hda
  have HA := am_ hda
  by_cases hb : 0 ≤ b ∧ b ≤ 36524
  rotate_left
  · rw [decide_eq_false hb] at hdb
    have HBD := am_ hdb
    have HNO := am_ (regA_no (a := a) (m := m) (bk := bk) (fun q => hb q.2.1))
    clear hda hdb hw ha hb
    go_enter Try.func41, Try.ntmps41
    go_wp2_with fail
    refine (spec_l3Good.calls a true _ HA.out).mono ?_
    rintro e w1_ ⟨rfl, ⟨q1, rfl⟩⟩
    go_wp2_with fail
    refine (spec_l3Good.calls b false _ HBD.out).mono ?_
    rintro e w1_ ⟨rfl, ⟨q1, rfl⟩⟩
    go_wp2_with (((with_reducible refine gate_dst (N := 32) rfl ?_); refine Kd.R_lit (Kd.int .i64) w.heap.size 3 (w0 := w) ?hg (N := 32) ?hd (xs := []) (inner := []) (ok := fun _ => True) (okp := fun _ => True) ?hr ?hp (fun _ hk => hk) trivial (by repeat first | (with_reducible first | exact HB.out | apply ba_ | apply bn_ | apply bd_) | exact HB.out) (below_size (by repeat first | (with_reducible first | exact HB.out | apply ba_ | apply bn_ | apply bd_) | exact HB.out)) (by simp) ?_; (case hd => rfl); (case hg => rfl); (case hr => first | (go_simp; done) | (go_simp; rfl)); (case hp => exact (Reps.none _ _)); intro v1 w1 ho hb hgr hnw); have HO5 := am_ ho; clear HB; have HB := am_ hb; clear ho hb hgr hnw)
    go_ret2
    exact ⟨_, by rw [HNO.out]; rfl, by rw [HNO.out]; exact (by (with_reducible repeat first | apply ra_ | apply rn_ | apply rd_); exact HO5.out), (by repeat first | (with_reducible first | exact HB.out | apply ba_ | apply bn_ | apply bd_) | exact HB.out)⟩
  rw [decide_eq_true hb] at hdb
  have HBD := am_ hdb
  by_cases hab : a < b
  rotate_left
  · have d0 : decide (b ≤ a) = true := decide_eq_true (by omega)
    have HNO := am_ (regA_no (m := m) (bk := bk) (fun q => hab q.2.2.1))
    clear hda hdb hw ha hb hab
    go_enter Try.func41, Try.ntmps41
    go_wp2_with fail
    refine (spec_l3Good.calls a true _ HA.out).mono ?_
    rintro e w1_ ⟨rfl, ⟨q1, rfl⟩⟩
    go_wp2_with fail
    refine (spec_l3Good.calls b true _ HBD.out).mono ?_
    rintro e w1_ ⟨rfl, ⟨q1, rfl⟩⟩
    go_wp2_with (((with_reducible refine gate_dst (N := 32) rfl ?_); refine Kd.R_lit (Kd.int .i64) w.heap.size 3 (w0 := w) ?hg (N := 32) ?hd (xs := []) (inner := []) (ok := fun _ => True) (okp := fun _ => True) ?hr ?hp (fun _ hk => hk) trivial (by repeat first | (with_reducible first | exact HB.out | apply ba_ | apply bn_ | apply bd_) | exact HB.out) (below_size (by repeat first | (with_reducible first | exact HB.out | apply ba_ | apply bn_ | apply bd_) | exact HB.out)) (by simp) ?_; (case hd => rfl); (case hg => rfl); (case hr => first | (go_simp; done) | (go_simp; rfl)); (case hp => exact (Reps.none _ _)); intro v1 w1 ho hb hgr hnw); have HO5 := am_ ho; clear HB; have HB := am_ hb; clear ho hb hgr hnw)
    go_ret2
    exact ⟨_, by rw [HNO.out]; rfl, by rw [HNO.out]; exact (by (with_reducible repeat first | apply ra_ | apply rn_ | apply rd_); exact HO5.out), (by repeat first | (with_reducible first | exact HB.out | apply ba_ | apply bn_ | apply bd_) | exact HB.out)⟩
  have d0 : decide (b ≤ a) = false := decide_eq_false (by omega)
  by_cases hm : 1 ≤ m ∧ m ≤ 120
  rotate_left
  · rw [decide_eq_false hm] at hw
    have HW := am_ hw
    have HNO := am_ (regA_no (a := a) (b := b) (bk := bk) (fun q => hm q.2.2.2))
    clear hda hdb hw ha hb hab hm
    go_enter Try.func41, Try.ntmps41
    go_wp2_with fail
    refine (spec_l3Good.calls a true _ HA.out).mono ?_
    rintro e w1_ ⟨rfl, ⟨q1, rfl⟩⟩
    go_wp2_with fail
    refine (spec_l3Good.calls b true _ HBD.out).mono ?_
    rintro e w1_ ⟨rfl, ⟨q1, rfl⟩⟩
    go_wp2_with fail
    refine (spec_l1In.calls m 1 120 false _ HW.out).mono ?_
    rintro e w3_ ⟨rfl, ⟨q3, rfl⟩⟩
    go_wp2_with (((with_reducible refine gate_dst (N := 32) rfl ?_); refine Kd.R_lit (Kd.int .i64) w.heap.size 3 (w0 := w) ?hg (N := 32) ?hd (xs := []) (inner := []) (ok := fun _ => True) (okp := fun _ => True) ?hr ?hp (fun _ hk => hk) trivial (by repeat first | (with_reducible first | exact HB.out | apply ba_ | apply bn_ | apply bd_) | exact HB.out) (below_size (by repeat first | (with_reducible first | exact HB.out | apply ba_ | apply bn_ | apply bd_) | exact HB.out)) (by simp) ?_; (case hd => rfl); (case hg => rfl); (case hr => first | (go_simp; done) | (go_simp; rfl)); (case hp => exact (Reps.none _ _)); intro v1 w1 ho hb hgr hnw); have HO5 := am_ ho; clear HB; have HB := am_ hb; clear ho hb hgr hnw)
    go_ret2
    exact ⟨_, by rw [HNO.out]; rfl, by rw [HNO.out]; exact (by (with_reducible repeat first | apply ra_ | apply rn_ | apply rd_); exact HO5.out), (by repeat first | (with_reducible first | exact HB.out | apply ba_ | apply bn_ | apply bd_) | exact HB.out)⟩
  rw [decide_eq_true hm] at hw
  have HW := am_ hw
  have HG := am_ (show (0 ≤ a ∧ a ≤ 36524) ∧ (0 ≤ b ∧ b ≤ 36524) ∧ a < b ∧ (1 ≤ m ∧ m ≤ 120) from ⟨ha, hb, hab, hm⟩)
  have hm1_ := hm.1
  have hm2_ := hm.2
  clear hda hdb hw ha hb hab hm
  cases bk with
  | false =>
    go_enter Try.func41, Try.ntmps41
    go_wp2_with fail
    refine (spec_l3Good.calls a true _ HA.out).mono ?_
    rintro e w1_ ⟨rfl, ⟨q1, rfl⟩⟩
    go_wp2_with fail
    refine (spec_l3Good.calls b true _ HBD.out).mono ?_
    rintro e w1_ ⟨rfl, ⟨q1, rfl⟩⟩
    go_wp2_with fail
    refine (spec_l1In.calls m 1 120 true _ HW.out).mono ?_
    rintro e w3_ ⟨rfl, ⟨q3, rfl⟩⟩
    go_wp2_with ((with_reducible refine gate_dst (N := 35) rfl ?_); refine Kd.R_lit (Kd.int .i64) w.heap.size 3 (w0 := w) ?hg (N := 35) ?hd (xs := ([a, b] : List Int)) (inner := [.int .i64 a, .int .i64 b]) (ok := fun _ => True) (okp := fun _ => True) ?hr ?hp (fun _ hk => hk) trivial (by repeat first | (with_reducible first | exact HB.out | apply ba_ | apply bn_ | apply bd_) | exact HB.out) (below_size (by repeat first | (with_reducible first | exact HB.out | apply ba_ | apply bn_ | apply bd_) | exact HB.out)) (by simp) ?_; (case hd => rfl); (case hg => rfl); (case hr => first | (go_simp; done) | (go_simp; rfl)); (case hp => exact (Reps.one (show Kd.M (Kd.int .i64) _ _ _ a [.int .i64 a] from rfl) (Reps.one (show Kd.M (Kd.int .i64) _ _ _ b [.int .i64 b] from rfl) (Reps.none _ _)))); intro v1 w1 ho hb hgr hnw; have HO := am_ ho; clear HB; have HB := am_ hb; clear ho hb hgr hnw)
    go_loopw [10, 11] (fun v10 v11 wr => ∃ (k : Nat) (pre XS : List Int), v11 = .int .i64 k ∧ Aside0 (1 ≤ k ∧ k ≤ 40 ∧ pre.length + 1 = k) ∧ Aside0 (regS a b m false = pre ++ regL a b a (m) (1202 - k) k) ∧ Aside0 (XS = a :: (pre ++ [b])) ∧ Aside0 ((Kd.int .i64).R 3 wr w.heap.size (fun _ => True) v10 XS) ∧ Aside0 (Below w.heap.size w wr)) (fun _ v11 _ => 100 - (intOf v11).toNat)
    case atStart => exact ⟨1, [], [a, b], rfl, ⟨by omega, by omega, rfl⟩, ⟨by rw [List.nil_append]; unfold regS; simp⟩, ⟨rfl⟩, ⟨(by (with_reducible repeat first | apply ra_ | apply rn_ | apply rd_); exact HO.out)⟩, ⟨(by repeat first | (with_reducible first | exact HB.out | apply ba_ | apply bn_ | apply bd_) | exact HB.out)⟩⟩
    case round =>
      clear HO HB
      obtain ⟨k, pre, XS, rfl, HK, HS, HXS, HO, HB⟩ := hrel
      have k0 := HK.out.1
      have k1 := HK.out.2.1
      have hkp := HK.out.2.2
      have hmc := mulC (s := m) k1 (by omega)
      have hm0 := hmc.1
      have hm9 := hmc.2
      obtain ⟨kf, hkf⟩ := roundsOf (l3M_ev HG.out.1 (n := (k : Int) * m) (by omega))
      have hsrt := regM_sorted (back := false) HG.out
      have hgo := fun h => regL_go (lo := a) (hi := b) (day := a) (s := m) (k := k) (by omega) h
      have hen := fun h => regL_end (lo := a) (hi := b) (day := a) (s := m) (k := k) (by omega) h
      have hkb := hkf
      rw [show addD (dateC a).1 (dateC a).2.1 (dateC a).2.2 ((k : Int) * m) = regD a m k from rfl] at hkb
      obtain ⟨D, hD⟩ : ∃ D, D = regD a (m) k := ⟨_, rfl⟩
      rw [← hD] at hkb hgo hen
      clear hD hmc hkf
      obtain ⟨dy, ok⟩ := D
      simp only at hgo hen
      have HKB := am_ hkb
      clear hkb
      go_wp2_with fail
      refine (spec_l3Months.calls kf a ((k : Int) * m) dy ok _ HKB.out).mono ?_
      rintro e w5 ⟨rfl, hb⟩
      replace HO := am_ (Kd.R_below (by (with_reducible repeat first | apply ra_ | apply rn_ | apply rd_); exact HO.out) hb); replace HB := am_ (below_step (by repeat first | (with_reducible first | exact HB.out | apply ba_ | apply bn_ | apply bd_) | exact HB.out) hb); clear hb
      have HXL := am_ (show XS.length = k + 1 from by rw [HXS.out]; simp; omega)
      by_cases hc : ok = true ∧ a < dy ∧ dy < b
      · obtain ⟨rfl, h1, h2⟩ := hc
        have HSX := am_ (show regS a b m false = pre ++ dy :: regL a b a (m) (1202 - (k + 1)) (k + 1) from by rw [HS.out, hgo ⟨rfl, h1, h2⟩])
        have HPE := am_ (show putA XS dy = a :: ((pre ++ [dy]) ++ [b]) from by
          rw [HXS.out, show a :: (pre ++ [b]) = (a :: pre) ++ [b] from rfl, putA_end h2 (a :: pre) (fun y hy => by
          rcases List.mem_cons.mp hy with q | q
          · rw [q]; exact h1
          · have hp := (regL_up (lo := a) (hi := b) HG.out.1 (s := m) (by omega) 1201 1).1
            have he : regL a b a m 1201 1 = pre ++ dy :: regL a b a m (1202 - (k + 1)) (k + 1) := by have h := HSX.out; unfold regS at h; simpa using h
            rw [he, List.pairwise_append] at hp
            exact hp.2.2 y q dy List.mem_cons_self)]; simp)
        have HNE := am_ (show ∀ y ∈ XS, y ≠ dy from fun y hy => by
          rw [HXS.out] at hy
          have hsx := HSX.out
          have hp := (regL_up (lo := a) (hi := b) HG.out.1 (s := m) (by omega) 1201 1).1
          have he : regL a b a m 1201 1 = pre ++ dy :: regL a b a (m) (1202 - (k + 1)) (k + 1) := by have h := HSX.out; unfold regS at h; simpa using h
          rw [he, List.pairwise_append] at hp
          rcases List.mem_cons.mp hy with q | q
          · omega
          · rcases List.mem_append.mp q with q | q
            · have h9 := hp.2.2 y q dy List.mem_cons_self
              omega
            · rw [List.mem_singleton.mp q]; omega)
        have HS2 := am_ (show regS a b m false = (pre ++ [dy]) ++ regL a b a (m) (1202 - (k + 1)) (k + 1) from by rw [HSX.out, List.append_assoc]; rfl)
        have d1 : decide (dy ≤ a) = false := decide_eq_false (by omega)
        have d2 : decide (b ≤ dy) = false := decide_eq_false (by omega)
        obtain ⟨g, cap, hv, _, _⟩ := Kd.R_form HO.out (by have := HXL.out; omega)
        subst hv
        clear hgo hen hsrt h1 h2
        go_wp2_with fail
        refine (putS_c g cap XS dy _ (by repeat first | exact (R_C HO.out) | with_reducible refine ca_ ?_ _ | with_reducible refine cn_ ?_ _ | with_reducible refine cd_ ?_) (R_cap HO.out) (by have := HXL.out; omega) HNE.out).mono ?_
        rintro e w7 ⟨v7, rfl, ho, hb⟩
        have HO2 := am_ (Kd.R_lower ho (show w.heap.size ≤ _ from below_size (by repeat first | (with_reducible first | exact HB.out | apply ba_ | apply bn_ | apply bd_) | exact HB.out)))
        replace HB := am_ (below_step (by repeat first | (with_reducible first | exact HB.out | apply ba_ | apply bn_ | apply bd_) | exact HB.out) hb); clear hb
        clear ho HO
        rw [HPE.out] at HO2
        obtain ⟨YS, hYS⟩ : ∃ Y, Y = a :: ((pre ++ [dy]) ++ [b]) := ⟨_, rfl⟩
        have HYL := am_ (show YS.length = k + 2 from by rw [hYS]; simp; omega)
        have HYS := am_ hYS
        rw [← hYS] at HO2
        clear hYS
        obtain ⟨g2, cap2, hv2, _, _⟩ := Kd.R_form HO2.out (by have := HYL.out; omega)
        subst hv2
        by_cases hk4 : k < 40
        · have d3 : decide (41 < YS.length) = false := decide_eq_false (by have := HYL.out; omega)
          have d4 : decide ((41 : Int) < (YS.length : Int)) = false := decide_eq_false (by have := HYL.out; omega)
          go_wp2
          go_roundw
          case rel => exact ⟨k + 1, pre ++ [dy], YS, by go_num, ⟨by omega, by omega, by rw [List.length_append]; simp; omega⟩, HS2, HYS, ⟨(by (with_reducible repeat first | apply ra_ | apply rn_ | apply rd_); exact HO2.out)⟩, ⟨(by repeat first | (with_reducible first | exact HB.out | apply ba_ | apply bn_ | apply bd_) | exact HB.out)⟩⟩
          case measure => simp [intOf]; omega
        · have d3 : decide (41 < YS.length) = true := decide_eq_true (by have := HYL.out; omega)
          have d4 : decide ((41 : Int) < (YS.length : Int)) = true := decide_eq_true (by have := HYL.out; omega)
          have HNO := am_ (show regA a b m false = ([], false) from (regA_yes HG.out).trans (if_neg (by rw [HS2.out, List.length_append, List.length_append]; simp; omega)))
          go_wp2_with (((with_reducible refine gate_dst (N := 74) rfl ?_); refine Kd.R_lit (Kd.int .i64) w.heap.size 3 (w0 := w) ?hg (N := 74) ?hd (xs := []) (inner := []) (ok := fun _ => True) (okp := fun _ => True) ?hr ?hp (fun _ hk => hk) trivial (by repeat first | (with_reducible first | exact HB.out | apply ba_ | apply bn_ | apply bd_) | exact HB.out) (below_size (by repeat first | (with_reducible first | exact HB.out | apply ba_ | apply bn_ | apply bd_) | exact HB.out)) (by simp) ?_; (case hd => rfl); (case hg => rfl); (case hr => first | (go_simp; done) | (go_simp; rfl)); (case hp => exact (Reps.none _ _)); intro v1 w1 ho hb hgr hnw); have HO5 := am_ ho; clear HB; have HB := am_ hb; clear ho hb hgr hnw)
          go_ret2
          exact ⟨_, by rw [HNO.out]; rfl, by rw [HNO.out]; exact (by (with_reducible repeat first | apply ra_ | apply rn_ | apply rd_); exact HO5.out), (by repeat first | (with_reducible first | exact HB.out | apply ba_ | apply bn_ | apply bd_) | exact HB.out)⟩
      · have HF := am_ (show regA a b m false = (XS, true) from by
          have h := HS.out
          rw [hen hc, List.append_nil] at h
          rw [regA_yes HG.out, if_pos (by rw [h]; omega), HXS.out]
          unfold regM
          rw [h]
          simp)
        clear hgo hen hsrt
        by_cases ho_ : ok = true
        · subst ho_
          by_cases h1 : dy ≤ a
          · have d1 : decide (dy ≤ a) = true := decide_eq_true h1
            clear hc h1
            go_wp2
            go_ret2
            exact ⟨_, by rw [HF.out]; rfl, by rw [HF.out]; exact (by (with_reducible repeat first | apply ra_ | apply rn_ | apply rd_); exact HO.out), (by repeat first | (with_reducible first | exact HB.out | apply ba_ | apply bn_ | apply bd_) | exact HB.out)⟩
          · have d1 : decide (dy ≤ a) = false := decide_eq_false h1
            have d2 : decide (b ≤ dy) = true := decide_eq_true (by
              by_cases q : b ≤ dy
              · exact q
              · exact absurd ⟨rfl, by omega, by omega⟩ hc)
            clear hc h1
            go_wp2
            go_ret2
            exact ⟨_, by rw [HF.out]; rfl, by rw [HF.out]; exact (by (with_reducible repeat first | apply ra_ | apply rn_ | apply rd_); exact HO.out), (by repeat first | (with_reducible first | exact HB.out | apply ba_ | apply bn_ | apply bd_) | exact HB.out)⟩
        · obtain rfl : ok = false := by simpa using ho_
          clear hc ho_
          go_wp2
          go_ret2
          exact ⟨_, by rw [HF.out]; rfl, by rw [HF.out]; exact (by (with_reducible repeat first | apply ra_ | apply rn_ | apply rd_); exact HO.out), (by repeat first | (with_reducible first | exact HB.out | apply ba_ | apply bn_ | apply bd_) | exact HB.out)⟩
  | true =>
    go_enter Try.func41, Try.ntmps41
    go_wp2_with fail
    refine (spec_l3Good.calls a true _ HA.out).mono ?_
    rintro e w1_ ⟨rfl, ⟨q1, rfl⟩⟩
    go_wp2_with fail
    refine (spec_l3Good.calls b true _ HBD.out).mono ?_
    rintro e w1_ ⟨rfl, ⟨q1, rfl⟩⟩
    go_wp2_with fail
    refine (spec_l1In.calls m 1 120 true _ HW.out).mono ?_
    rintro e w3_ ⟨rfl, ⟨q3, rfl⟩⟩
    go_wp2_with ((with_reducible refine gate_dst (N := 35) rfl ?_); refine Kd.R_lit (Kd.int .i64) w.heap.size 3 (w0 := w) ?hg (N := 35) ?hd (xs := ([a, b] : List Int)) (inner := [.int .i64 a, .int .i64 b]) (ok := fun _ => True) (okp := fun _ => True) ?hr ?hp (fun _ hk => hk) trivial (by repeat first | (with_reducible first | exact HB.out | apply ba_ | apply bn_ | apply bd_) | exact HB.out) (below_size (by repeat first | (with_reducible first | exact HB.out | apply ba_ | apply bn_ | apply bd_) | exact HB.out)) (by simp) ?_; (case hd => rfl); (case hg => rfl); (case hr => first | (go_simp; done) | (go_simp; rfl)); (case hp => exact (Reps.one (show Kd.M (Kd.int .i64) _ _ _ a [.int .i64 a] from rfl) (Reps.one (show Kd.M (Kd.int .i64) _ _ _ b [.int .i64 b] from rfl) (Reps.none _ _)))); intro v1 w1 ho hb hgr hnw; have HO := am_ ho; clear HB; have HB := am_ hb; clear ho hb hgr hnw)
    go_loopw [10, 11] (fun v10 v11 wr => ∃ (k : Nat) (pre XS : List Int), v11 = .int .i64 k ∧ Aside0 (1 ≤ k ∧ k ≤ 40 ∧ pre.length + 1 = k) ∧ Aside0 (regS a b m true = pre ++ regL a b b (-m) (1202 - k) k) ∧ Aside0 (XS = a :: (pre.reverse ++ [b])) ∧ Aside0 ((Kd.int .i64).R 3 wr w.heap.size (fun _ => True) v10 XS) ∧ Aside0 (Below w.heap.size w wr)) (fun _ v11 _ => 100 - (intOf v11).toNat)
    case atStart => exact ⟨1, [], [a, b], rfl, ⟨by omega, by omega, rfl⟩, ⟨by rw [List.nil_append]; unfold regS; simp⟩, ⟨rfl⟩, ⟨(by (with_reducible repeat first | apply ra_ | apply rn_ | apply rd_); exact HO.out)⟩, ⟨(by repeat first | (with_reducible first | exact HB.out | apply ba_ | apply bn_ | apply bd_) | exact HB.out)⟩⟩
    case round =>
      clear HO HB
      obtain ⟨k, pre, XS, rfl, HK, HS, HXS, HO, HB⟩ := hrel
      have k0 := HK.out.1
      have k1 := HK.out.2.1
      have hkp := HK.out.2.2
      have hmc := mulC (s := m) k1 (by omega)
      have hm0 := hmc.1
      have hm9 := hmc.2
      obtain ⟨kf, hkf⟩ := roundsOf (l3M_ev HG.out.1 (n := (k : Int) * m) (by omega))
      have hsrt := regM_sorted (back := true) HG.out
      have hgo := fun h => regL_go (lo := a) (hi := b) (day := b) (s := -m) (k := k) (by omega) h
      have hen := fun h => regL_end (lo := a) (hi := b) (day := b) (s := -m) (k := k) (by omega) h
      obtain ⟨DF, hDF⟩ : ∃ D, D = addD (dateC a).1 (dateC a).2.1 (dateC a).2.2 ((k : Int) * m) := ⟨_, rfl⟩
      rw [← hDF] at hkf
      clear hDF
      obtain ⟨df, of_⟩ := DF
      have HKF := am_ hkf
      obtain ⟨kb, hkb⟩ := roundsOf (l3M_ev HG.out.2.1 (n := (-(k : Int)) * m) (by rw [Int.neg_mul]; omega))
      have hm5 : -4800 ≤ -(k : Int) * m := by rw [Int.neg_mul]; omega
      have hm6 : -(k : Int) * m ≤ 0 := by rw [Int.neg_mul]; omega
      rw [show addD (dateC b).1 (dateC b).2.1 (dateC b).2.2 (-(k : Int) * m) = regD b (-m) k from by rw [regD, Int.neg_mul, Int.mul_neg]] at hkb
      obtain ⟨D, hD⟩ : ∃ D, D = regD b (-m) k := ⟨_, rfl⟩
      rw [← hD] at hkb hgo hen
      clear hD hmc hkf
      obtain ⟨dy, ok⟩ := D
      simp only at hgo hen
      have HKB := am_ hkb
      clear hkb
      go_wp2_with fail
      refine (spec_l3Months.calls kf a ((k : Int) * m) df of_ _ HKF.out).mono ?_
      rintro e w5 ⟨rfl, hb⟩
      replace HO := am_ (Kd.R_below (by (with_reducible repeat first | apply ra_ | apply rn_ | apply rd_); exact HO.out) hb); replace HB := am_ (below_step (by repeat first | (with_reducible first | exact HB.out | apply ba_ | apply bn_ | apply bd_) | exact HB.out) hb); clear hb
      go_wp2_with fail
      refine (spec_l3Months.calls kb b (-(k : Int) * m) dy ok _ HKB.out).mono ?_
      rintro e w6 ⟨rfl, hb⟩
      replace HO := am_ (Kd.R_below (by (with_reducible repeat first | apply ra_ | apply rn_ | apply rd_); exact HO.out) hb); replace HB := am_ (below_step (by repeat first | (with_reducible first | exact HB.out | apply ba_ | apply bn_ | apply bd_) | exact HB.out) hb); clear hb
      have HXL := am_ (show XS.length = k + 1 from by rw [HXS.out]; simp; omega)
      by_cases hc : ok = true ∧ a < dy ∧ dy < b
      · obtain ⟨rfl, h1, h2⟩ := hc
        have HSX := am_ (show regS a b m true = pre ++ dy :: regL a b b (-m) (1202 - (k + 1)) (k + 1) from by rw [HS.out, hgo ⟨rfl, h1, h2⟩])
        have HPE := am_ (show putA XS dy = a :: ((pre ++ [dy]).reverse ++ [b]) from by
          rw [HXS.out, putF h1 (pre.reverse ++ [b]) (by simp) (fun y hy => by
          rcases List.mem_append.mp hy with q | q
          · have hp := (regL_down (lo := a) (hi := b) HG.out.2.1 (s := -m) (by omega) 1201 1).1
            have he : regL a b b (-m) 1201 1 = pre ++ dy :: regL a b b (-m) (1202 - (k + 1)) (k + 1) := by have h := HSX.out; unfold regS at h; simpa using h
            rw [he, List.pairwise_append] at hp
            exact hp.2.2 y (List.mem_reverse.mp q) dy List.mem_cons_self
          · rw [List.mem_singleton.mp q]; exact h2), List.reverse_append]; rfl)
        have HNE := am_ (show ∀ y ∈ XS, y ≠ dy from fun y hy => by
          rw [HXS.out] at hy
          have hsx := HSX.out
          have hp := (regL_down (lo := a) (hi := b) HG.out.2.1 (s := -m) (by omega) 1201 1).1
          have he : regL a b b (-m) 1201 1 = pre ++ dy :: regL a b b (-m) (1202 - (k + 1)) (k + 1) := by have h := HSX.out; unfold regS at h; simpa using h
          rw [he, List.pairwise_append] at hp
          rcases List.mem_cons.mp hy with q | q
          · omega
          · rcases List.mem_append.mp q with q | q
            · have h9 := hp.2.2 y (List.mem_reverse.mp q) dy List.mem_cons_self
              omega
            · rw [List.mem_singleton.mp q]; omega)
        have HS2 := am_ (show regS a b m true = (pre ++ [dy]) ++ regL a b b (-m) (1202 - (k + 1)) (k + 1) from by rw [HSX.out, List.append_assoc]; rfl)
        have d1 : decide (dy ≤ a) = false := decide_eq_false (by omega)
        have d2 : decide (b ≤ dy) = false := decide_eq_false (by omega)
        obtain ⟨g, cap, hv, _, _⟩ := Kd.R_form HO.out (by have := HXL.out; omega)
        subst hv
        clear hgo hen hsrt h1 h2
        go_wp2_with fail
        refine (putS_c g cap XS dy _ (by repeat first | exact (R_C HO.out) | with_reducible refine ca_ ?_ _ | with_reducible refine cn_ ?_ _ | with_reducible refine cd_ ?_) (R_cap HO.out) (by have := HXL.out; omega) HNE.out).mono ?_
        rintro e w7 ⟨v7, rfl, ho, hb⟩
        have HO2 := am_ (Kd.R_lower ho (show w.heap.size ≤ _ from below_size (by repeat first | (with_reducible first | exact HB.out | apply ba_ | apply bn_ | apply bd_) | exact HB.out)))
        replace HB := am_ (below_step (by repeat first | (with_reducible first | exact HB.out | apply ba_ | apply bn_ | apply bd_) | exact HB.out) hb); clear hb
        clear ho HO
        rw [HPE.out] at HO2
        obtain ⟨YS, hYS⟩ : ∃ Y, Y = a :: ((pre ++ [dy]).reverse ++ [b]) := ⟨_, rfl⟩
        have HYL := am_ (show YS.length = k + 2 from by rw [hYS]; simp; omega)
        have HYS := am_ hYS
        rw [← hYS] at HO2
        clear hYS
        obtain ⟨g2, cap2, hv2, _, _⟩ := Kd.R_form HO2.out (by have := HYL.out; omega)
        subst hv2
        by_cases hk4 : k < 40
        · have d3 : decide (41 < YS.length) = false := decide_eq_false (by have := HYL.out; omega)
          have d4 : decide ((41 : Int) < (YS.length : Int)) = false := decide_eq_false (by have := HYL.out; omega)
          go_wp2
          go_roundw
          case rel => exact ⟨k + 1, pre ++ [dy], YS, by go_num, ⟨by omega, by omega, by rw [List.length_append]; simp; omega⟩, HS2, HYS, ⟨(by (with_reducible repeat first | apply ra_ | apply rn_ | apply rd_); exact HO2.out)⟩, ⟨(by repeat first | (with_reducible first | exact HB.out | apply ba_ | apply bn_ | apply bd_) | exact HB.out)⟩⟩
          case measure => simp [intOf]; omega
        · have d3 : decide (41 < YS.length) = true := decide_eq_true (by have := HYL.out; omega)
          have d4 : decide ((41 : Int) < (YS.length : Int)) = true := decide_eq_true (by have := HYL.out; omega)
          have HNO := am_ (show regA a b m true = ([], false) from (regA_yes HG.out).trans (if_neg (by rw [HS2.out, List.length_append, List.length_append]; simp; omega)))
          go_wp2_with (((with_reducible refine gate_dst (N := 74) rfl ?_); refine Kd.R_lit (Kd.int .i64) w.heap.size 3 (w0 := w) ?hg (N := 74) ?hd (xs := []) (inner := []) (ok := fun _ => True) (okp := fun _ => True) ?hr ?hp (fun _ hk => hk) trivial (by repeat first | (with_reducible first | exact HB.out | apply ba_ | apply bn_ | apply bd_) | exact HB.out) (below_size (by repeat first | (with_reducible first | exact HB.out | apply ba_ | apply bn_ | apply bd_) | exact HB.out)) (by simp) ?_; (case hd => rfl); (case hg => rfl); (case hr => first | (go_simp; done) | (go_simp; rfl)); (case hp => exact (Reps.none _ _)); intro v1 w1 ho hb hgr hnw); have HO5 := am_ ho; clear HB; have HB := am_ hb; clear ho hb hgr hnw)
          go_ret2
          exact ⟨_, by rw [HNO.out]; rfl, by rw [HNO.out]; exact (by (with_reducible repeat first | apply ra_ | apply rn_ | apply rd_); exact HO5.out), (by repeat first | (with_reducible first | exact HB.out | apply ba_ | apply bn_ | apply bd_) | exact HB.out)⟩
      · have HF := am_ (show regA a b m true = (XS, true) from by
          have h := HS.out
          rw [hen hc, List.append_nil] at h
          rw [regA_yes HG.out, if_pos (by rw [h]; omega), HXS.out]
          unfold regM
          rw [h]
          simp)
        clear hgo hen hsrt
        by_cases ho_ : ok = true
        · subst ho_
          by_cases h1 : dy ≤ a
          · have d1 : decide (dy ≤ a) = true := decide_eq_true h1
            clear hc h1
            go_wp2
            go_ret2
            exact ⟨_, by rw [HF.out]; rfl, by rw [HF.out]; exact (by (with_reducible repeat first | apply ra_ | apply rn_ | apply rd_); exact HO.out), (by repeat first | (with_reducible first | exact HB.out | apply ba_ | apply bn_ | apply bd_) | exact HB.out)⟩
          · have d1 : decide (dy ≤ a) = false := decide_eq_false h1
            have d2 : decide (b ≤ dy) = true := decide_eq_true (by
              by_cases q : b ≤ dy
              · exact q
              · exact absurd ⟨rfl, by omega, by omega⟩ hc)
            clear hc h1
            go_wp2
            go_ret2
            exact ⟨_, by rw [HF.out]; rfl, by rw [HF.out]; exact (by (with_reducible repeat first | apply ra_ | apply rn_ | apply rd_); exact HO.out), (by repeat first | (with_reducible first | exact HB.out | apply ba_ | apply bn_ | apply bd_) | exact HB.out)⟩
        · obtain rfl : ok = false := by simpa using ho_
          clear hc ho_
          go_wp2
          go_ret2
          exact ⟨_, by rw [HF.out]; rfl, by rw [HF.out]; exact (by (with_reducible repeat first | apply ra_ | apply rn_ | apply rd_); exact HO.out), (by repeat first | (with_reducible first | exact HB.out | apply ba_ | apply bn_ | apply bd_) | exact HB.out)⟩
theorem own_ne {α : Type} {k : Kd α} {e base : Nat} {w : World} {ok : Nat → Prop} {v : Value} {xs : List α} (h : k.R e w base ok v xs) {g t : Nat} {cs : Array Value} (hb : w.heap[g]? = some (.cells cs t (0, 0))) (ht : e ≠ t) : some g ≠ v.ownBlock := by
  intro he
  obtain ⟨inner, ho⟩ := Kd.R_own h
  obtain ⟨cells, hc⟩ := own_typed ho g he.symm
  rw [hb] at hc
  injection hc with h1
  injection h1 with _ h2
  exact ht h2.symm
/-- The cursor of the draws, in its box at g: the code that it reads came in, its place is at most B. -/
def Cur (w0 w : World) (g : Nat) (code : List Int) (B : Int) : Prop :=
  w0.heap.size ≤ g ∧ (∀ x ∈ code, 0 ≤ x ∧ x ≤ 255) ∧ ∃ (A : Option Addr) (c : Nat) (p s : Int), w.heap[g]? = some (.cells #[.slice A code.length c, .int .i64 p, .int .u64 s] 91 (0, 0)) ∧ (Kd.int .u8).C w0 A code.length code ∧ 0 ≤ p ∧ p ≤ B
theorem Cur.blk {w0 w : World} {g : Nat} {code : List Int} {B : Int} (h : Cur w0 w g code B) : ∃ cs, w.heap[g]? = some (.cells cs 91 (0, 0)) := by
  obtain ⟨_, _, A, c, p, s, h1, _⟩ := h
  exact ⟨_, h1⟩
theorem Cur.ge {w0 w : World} {g : Nat} {code : List Int} {B : Int} (h : Cur w0 w g code B) : w0.heap.size ≤ g := h.1
theorem Cur.lt {w0 w : World} {g : Nat} {code : List Int} {B : Int} (h : Cur w0 w g code B) : g < w.heap.size := by
  obtain ⟨cs, h1⟩ := h.blk
  exact blk_lt h1
theorem Cur.step {w0 w w1 : World} {g : Nat} {code : List Int} {B B' : Int} (h : Cur w0 w g code B) (hg : w1.heap[g]? = w.heap[g]?) (hb : B ≤ B') : Cur w0 w1 g code B' := by
  obtain ⟨h0, h1, A, c, p, s, h2, h3, h4, h5⟩ := h
  exact ⟨h0, h1, A, c, p, s, by rw [hg]; exact h2, h3, h4, by omega⟩
theorem Cur.below {w0 w w1 : World} {g : Nat} {code : List Int} {B : Int} (h : Cur w0 w g code B) (hb : Below w.heap.size w w1) : Cur w0 w1 g code B := by
  obtain ⟨h0, h1, A, c, p, s, h2, h3⟩ := h
  exact ⟨h0, h1, A, c, p, s, blk_below h2 hb, h3⟩
theorem Cur.drew {w0 w : World} {g : Nat} {code : List Int} {B : Int} (h : Cur w0 w g code B) : Cur w0 w.drew g code B := h
theorem Cur.drewN {w0 w : World} {g : Nat} {code : List Int} {B : Int} (h : Cur w0 w g code B) (n : Nat) : Cur w0 (w.drewN n) g code B := h
theorem Cur.alloc {w0 w : World} {g : Nat} {code : List Int} {B : Int} (h : Cur w0 w g code B) (o : Obj) : Cur w0 (w.alloc o) g code B := h.below (below_alloc (Below.refl _ _) o)
theorem Cur.new {w0 w : World} {A : Option Addr} {c : Nat} {code : List Int} (hb : Below w0.heap.size w0 w) (hc : (Kd.int .u8).C w0 A code.length code) (hx : ∀ x ∈ code, 0 ≤ x ∧ x ≤ 255) : Cur w0 (w.alloc (.cells #[.slice A code.length c, .int .i64 0, .int .u64 0] 91 (0, 0))) w.heap.size code 0 := ⟨below_size hb, hx, A, c, 0, 0, blk_new w _, hc, by decide, by decide⟩
/-- A row of one's own keeps what it holds while the cursor goes on. -/
theorem R_draw {α : Type} {d : Kd α} {e base : Nat} {w0 w w1 : World} {v : Value} {xs : List α} {g : Nat} {code : List Int} {B : Int} {ok : Nat → Prop} (hf : ∀ (w : World) (b : Nat) (p q : Nat → Prop) x cs, d.M w b p x cs → d.M w b q x cs) (h : d.R e w base ok v xs) (hI : Cur w0 w g code B) (ht : e ≠ 91) (hk : KeepBut w w1 g none) : d.R e w1 base (fun _ => True) v xs := by
  obtain ⟨cs, hb⟩ := hI.blk
  have h1 : d.R e w base (fun k => k ≠ g) v xs := R_flat hf h (fun k hk he => own_ne h hb ht (by rw [hk, he]))
  exact Kd.R_mono (Kd.R_keep h1 hk (fun _ h => h)) (fun _ _ => trivial)
theorem R_ne {α : Type} {d : Kd α} {e base : Nat} {w0 w : World} {A : Option Addr} {n c : Nat} {xs : List α} {g : Nat} {code : List Int} {B : Int} {ok : Nat → Prop} (h : d.R e w base ok (.slice A n c) xs) (hI : Cur w0 w g code B) (ht : e ≠ 91) : ∀ ad, A = some ad → 0 < n → ad.block ≠ g := by
  intro ad he hn hg
  obtain ⟨cs, hb⟩ := hI.blk
  subst he
  obtain ⟨e1, _, _⟩ := Kd.R_reads' h
  obtain ⟨b, cap, e2, _⟩ := Kd.R_form h (by omega)
  injection e2 with e2
  injection e2 with e2
  subst e2
  obtain ⟨cells, hc⟩ := R_block h hn
  rw [show b = g from hg, hb] at hc
  injection hc with h1
  injection h1 with _ h2
  exact ht h2.symm
theorem seed_bd (x : Int) : 0 ≤ Go.bits .and .u64 (IntKind.u64.wrap x / 1099511627776) 255 ∧ Go.bits .and .u64 (IntKind.u64.wrap x / 1099511627776) 255 ≤ 255 := by
  have hw : ∀ n : Int, 0 ≤ n → n < 2 ^ 64 → IntKind.u64.wrap n = n := fun n h1 h2 => by
    have e : IntKind.u64.wrap n = n % 18446744073709551616 := by simp [IntKind.wrap, IntKind.bits, IntKind.signed]
    rw [e]; omega
  have e : IntKind.u64.wrap x = x % 18446744073709551616 := by simp [IntKind.wrap, IntKind.bits, IntKind.signed]
  rw [e]
  obtain ⟨y, hy⟩ : ∃ y, y = x % 18446744073709551616 / 1099511627776 := ⟨_, rfl⟩
  have hb : 0 ≤ y ∧ y < 2 ^ 64 := by omega
  rw [← hy]
  have h := Go.bits_mask .u64 64 (by decide) hw 8 (by decide) y hb.1 hb.2
  have h2 : Go.bits .and .u64 y 255 = y % 256 := h
  rw [h2]; omega
theorem wrap_small (v : Int) (h : 0 ≤ v ∧ v ≤ 255) : IntKind.i64.wrap v = v := IntWalk.i64_in _ (by omega)
set_option maxHeartbeats 8000000 in
set_option maxRecDepth 100000 in
theorem next_c (g : Nat) (code : List Int) (B : Int) (w0 w : World) (hI : Cur w0 w g code B) (hB : Below w0.heap.size w0 w) (hb : B ≤ 1000000000000) :
    Calls Try.prog 115 #[.pointer (some ⟨g, 0, none⟩)] w fun e w' => ∃ v, e = .returned (.int .i64 v) ∧ (0 ≤ v ∧ v ≤ 255) ∧ Cur w0 w' g code (B + 1) ∧ Below w0.heap.size w0 w' ∧ KeepBut w w' g none := by
  obtain ⟨hge, hx, A, c, p, s, hg, hc, hp0, hp1⟩ := hI
  have BKg := am_ hg
  have GEg := am_ hge
  have HX := am_ hx
  have HC := am_ hc
  have HB := am_ hB
  have HK := am_ (KeepBut.refl w g none)
  have hbd : p ≤ 1000000000000 := by omega
  have HP := am_ (show p + 1 ≤ B + 1 from by omega)
  clear hg hge hx hc hB hp1
  by_cases cl : p < code.length
  · have c1 : decide (p < (code.length : Int)) = true := decide_eq_true cl
    have c2 : decide (p + 1 ≤ (code.length : Int)) = true := decide_eq_true (by omega)
    obtain ⟨ad, e1, hcx⟩ := Kd.at_int HC.out p hp0 cl
    cases e1
    replace hcx := HB.out.cell (World.block_lt_of_cell? w0 _ hcx) |>.trans hcx
    obtain ⟨x, hxe⟩ : ∃ x, x = rd code p := ⟨_, rfl⟩
    have hxb : 0 ≤ x ∧ x ≤ 255 := by
      rw [hxe, rd, List.getD_eq_getElem?_getD, List.getElem?_eq_getElem (by omega)]
      exact HX.out _ (List.getElem_mem _)
    rw [← hxe] at hcx
    have hwx := wrap_small x hxb
    have HXB := am_ hxb
    have p1 : (0 ≤ p) = True := eq_true hp0
    have p2 : (p < (code.length : Int)) = True := eq_true cl
    clear hxe hxb
    have yg_0 : w.cell? ⟨g, 0, none⟩ = some (.slice (some ad) code.length c) := (blk_cell BKg.out 0).trans rfl; have fg_0 := blk_frozen BKg.out 0; have yg_1 : w.cell? ⟨g, 1, none⟩ = some (.int .i64 p) := (blk_cell BKg.out 1).trans rfl; have fg_1 := blk_frozen BKg.out 1; have yg_2 : w.cell? ⟨g, 2, none⟩ = some (.int .u64 s) := (blk_cell BKg.out 2).trans rfl; have fg_2 := blk_frozen BKg.out 2
    go_enter Try.func115, Try.ntmps115
    go_wp2
    repeat (go_quiet (fail); try go_wp2)
    go_ret
    exact ⟨x, rfl, HXB.out, ⟨GEg.out, HX.out, some ad, c, p + 1, _, (by (with_reducible repeat first | refine kn_ ?_ _ | refine kd_ ?_ | refine ka_ ?_ _); refine blk_put (cs := #[.slice (some ad) code.length c, .int .i64 (p + 1), .int .u64 s]) ?_ 2 _ rfl; (with_reducible repeat first | refine kn_ ?_ _ | refine kd_ ?_ | refine ka_ ?_ _); refine blk_put (cs := #[.slice (some ad) code.length c, .int .i64 p, .int .u64 s]) ?_ 1 _ rfl; (with_reducible repeat first | refine kn_ ?_ _ | refine kd_ ?_ | refine ka_ ?_ _); exact BKg.out), HC.out, by omega, HP.out⟩, (by repeat first | (with_reducible first | exact HB.out | apply ba_ | apply bn_ | apply bd_ | refine below_set ?_ GEg.out) | exact HB.out), by repeat (first | (with_reducible first | exact HK.out | apply KeepBut.set_ | apply keep_drewN | apply keep_drew | apply keep_alloc) | exact HK.out)⟩
  · have c1 : decide (p < (code.length : Int)) = false := decide_eq_false cl
    have c2 : decide (p + 1 ≤ (code.length : Int)) = false := decide_eq_false (by omega)
    have yg_0 : w.cell? ⟨g, 0, none⟩ = some (.slice A code.length c) := (blk_cell BKg.out 0).trans rfl; have fg_0 := blk_frozen BKg.out 0; have yg_1 : w.cell? ⟨g, 1, none⟩ = some (.int .i64 p) := (blk_cell BKg.out 1).trans rfl; have fg_1 := blk_frozen BKg.out 1; have yg_2 : w.cell? ⟨g, 2, none⟩ = some (.int .u64 s) := (blk_cell BKg.out 2).trans rfl; have fg_2 := blk_frozen BKg.out 2
    go_enter Try.func115, Try.ntmps115
    go_wp2
    repeat (go_quiet (fail); try go_wp2)
    go_ret
    refine ⟨_, rfl, ?_, ⟨GEg.out, HX.out, A, c, p + 1, _, (by (with_reducible repeat first | refine kn_ ?_ _ | refine kd_ ?_ | refine ka_ ?_ _); refine blk_put (cs := #[.slice A code.length c, .int .i64 (p + 1), .int .u64 s]) ?_ 2 _ rfl; (with_reducible repeat first | refine kn_ ?_ _ | refine kd_ ?_ | refine ka_ ?_ _); refine blk_put (cs := #[.slice A code.length c, .int .i64 p, .int .u64 s]) ?_ 1 _ rfl; (with_reducible repeat first | refine kn_ ?_ _ | refine kd_ ?_ | refine ka_ ?_ _); exact BKg.out), HC.out, by omega, HP.out⟩, (by repeat first | (with_reducible first | exact HB.out | apply ba_ | apply bn_ | apply bd_ | refine below_set ?_ GEg.out) | exact HB.out), by repeat (first | (with_reducible first | exact HK.out | apply KeepBut.set_ | apply keep_drewN | apply keep_drew | apply keep_alloc) | exact HK.out)⟩
    have h := seed_bd (IntKind.u64.wrap (IntKind.u64.wrap (s * 6364136223846793005)) + 902902)
    rw [wrapId (by omega)]
    exact h
/-- A row of numbers, as it lies. -/
def numsA (ls : List Int) : Array Value := (ls.map (fun x => Value.int .i64 x)).toArray
theorem C_blk {w : World} {b : Nat} {ls : List Int} (h : w.heap[b]? = some (.cells (numsA ls) 3 (0, 0))) {j : Nat} (hj : j < ls.length) : w.cell? ⟨b, j, none⟩ = some (.int .i64 (ls.getD j 0)) := by
  refine (blk_cell h j).trans ?_
  rw [numsA, List.getElem?_toArray, List.getElem?_map, List.getD_eq_getElem?_getD, List.getElem?_eq_getElem hj]
  rfl
theorem blk_ne {w : World} {b g t t' : Nat} {cs cs' : Array Value} (h : w.heap[b]? = some (.cells cs t (0, 0))) (h' : w.heap[g]? = some (.cells cs' t' (0, 0))) (ht : t ≠ t') : b ≠ g := by
  rintro rfl
  rw [h] at h'
  injection h' with h'
  injection h' with _ h'
  exact ht h'
/-- What a draw leaves: the cursor, what lay before, and all but the cursor's block. -/
def Dr (w0 w w' : World) (g : Nat) (code : List Int) (B : Int) : Prop := Cur w0 w' g code B ∧ Below w0.heap.size w0 w' ∧ KeepBut w w' g none
theorem Dr.refl {w0 w : World} {g : Nat} {code : List Int} {B B' : Int} (h : Cur w0 w g code B) (hb : Below w0.heap.size w0 w) (hB : B ≤ B') : Dr w0 w w g code B' := ⟨h.step rfl hB, hb, KeepBut.refl w g none⟩
theorem Dr.trans {w0 w w1 w2 : World} {g : Nat} {code : List Int} {B B' : Int} (h : Dr w0 w w1 g code B) (k : Dr w0 w1 w2 g code B') : Dr w0 w w2 g code B' := ⟨k.1, k.2.1, h.2.2.trans k.2.2 (.inl rfl)⟩
theorem Dr.more {w0 w w1 : World} {g : Nat} {code : List Int} {B B' : Int} (h : Dr w0 w w1 g code B) (hB : B ≤ B') : Dr w0 w w1 g code B' := ⟨h.1.step rfl hB, h.2⟩
set_option maxHeartbeats 8000000 in
set_option maxRecDepth 100000 in
theorem pick_c (n : Int) (hn : n ≤ 200) (g : Nat) (code : List Int) (B : Int) (w0 w : World) (hI : Cur w0 w g code B) (hB : Below w0.heap.size w0 w) (hb : B ≤ 900000000000) :
    Calls Try.prog 85 #[.pointer (some ⟨g, 0, none⟩), .int .i64 n] w fun e w' => ∃ v, e = .returned (.int .i64 v) ∧ (0 ≤ v ∧ (1 ≤ n → v < n)) ∧ Dr w0 w w' g code (B + 1) := by
  by_cases h1 : n ≤ 1
  · have HD := am_ (Dr.refl hI hB (show B ≤ B + 1 by omega))
    have c1 : decide (n ≤ 1) = true := decide_eq_true h1
    clear hI hB
    go_enter Try.func85, Try.ntmps85
    go_wp2
    go_ret
    exact ⟨0, rfl, ⟨by omega, by omega⟩, HD.out⟩
  · have c1 : decide (n ≤ 1) = false := decide_eq_false h1
    have c2 : decide (200 < n) = false := decide_eq_false (by omega)
    have HN := am_ (next_c g code B w0 w hI hB (by omega))
    have hnz : ¬ n = 0 := by omega
    clear hI hB
    go_enter Try.func85, Try.ntmps85
    go_wp2_with fail
    refine HN.out.mono ?_
    rintro e w1 ⟨x, rfl, hx, hc, hb1, hk⟩
    have HD := am_ (show Dr w0 w w1 g code (B + 1) from ⟨hc, hb1, hk⟩)
    have hme : x.tmod n = x % n := Int.tmod_eq_emod_of_nonneg hx.1
    have hm : 0 ≤ x % n ∧ x % n < n := ⟨Int.emod_nonneg _ hnz, Int.emod_lt_of_pos _ (by omega)⟩
    have HM := am_ hm
    have hw : wrap64 (x % n) = x % n := wrapId (by omega)
    have x0 := hx.1
    clear hc hb1 hk hm
    go_wp2
    go_ret
    exact ⟨_, rfl, ⟨HM.out.1, fun _ => HM.out.2⟩, HD.out⟩
set_option maxHeartbeats 8000000 in
set_option maxRecDepth 100000 in
theorem among_c (ls : List Int) (b n cap : Nat) (hn : 1 ≤ n ∧ n ≤ ls.length ∧ n ≤ 200) (g : Nat) (code : List Int) (B : Int) (w0 w : World) (hI : Cur w0 w g code B) (hB : Below w0.heap.size w0 w) (hb : B ≤ 900000000000) (hl : w.heap[b]? = some (.cells (numsA ls) 3 (0, 0))) :
    Calls Try.prog 84 #[.pointer (some ⟨g, 0, none⟩), .slice (some ⟨b, 0, none⟩) n cap] w fun e w' => ∃ v, e = .returned (.int .i64 v) ∧ v ∈ ls ∧ Dr w0 w w' g code (B + 1) := by
  obtain ⟨cs, hcs⟩ := hI.blk
  have hne := blk_ne hl hcs (by decide)
  have HP := am_ (pick_c (n : Int) (by omega) g code B w0 w hI hB hb)
  have HL := am_ hl
  have n1 := hn.1
  have n2 := hn.2.1
  clear hcs hI hB hl hn
  go_enter Try.func84, Try.ntmps84
  go_wp2_with fail
  refine HP.out.mono ?_
  rintro e w1 ⟨v, rfl, ⟨v0, v1⟩, hd⟩
  have HD := am_ hd
  have v2 := v1 (by omega)
  obtain ⟨k, rfl⟩ : ∃ k : Nat, v = k := ⟨v.toNat, by omega⟩
  have hkn : k < ls.length := by omega
  have hy : w1.cell? ⟨b, k, none⟩ = some (.int .i64 (ls.getD k 0)) := C_blk (hd.2.2.blk HL.out hne (by simp)) hkn
  obtain ⟨x, hx⟩ : ∃ x, x = ls.getD k 0 := ⟨_, rfl⟩
  have HX := am_ (show x ∈ ls from by rw [hx, List.getD_eq_getElem?_getD, List.getElem?_eq_getElem hkn]; exact List.getElem_mem hkn)
  rw [← hx] at hy
  have tk : (k : Int).toNat = k := Int.toNat_natCast k
  clear hd hx v1 hkn
  go_wp2
  go_ret
  exact ⟨x, rfl, HX.out, HD.out⟩
theorem Dr.cur {w0 w w1 : World} {g : Nat} {code : List Int} {B : Int} (h : Dr w0 w w1 g code B) : Cur w0 w1 g code B := h.1
theorem Dr.below {w0 w w1 : World} {g : Nat} {code : List Int} {B : Int} (h : Dr w0 w w1 g code B) : Below w0.heap.size w0 w1 := h.2.1
theorem Dr.drew {w0 w w1 : World} {g : Nat} {code : List Int} {B : Int} (h : Dr w0 w w1 g code B) : Dr w0 w w1.drew g code B := ⟨h.1, below_drew1 h.2.1, keep_drew h.2.2⟩
theorem Dr.drewN {w0 w w1 : World} {g : Nat} {code : List Int} {B : Int} (h : Dr w0 w w1 g code B) (n : Nat) : Dr w0 w (w1.drewN n) g code B := ⟨h.1, pw_below_drewN h.2.1 n, keep_drewN h.2.2 n⟩
theorem Dr.alloc {w0 w w1 : World} {g : Nat} {code : List Int} {B : Int} (h : Dr w0 w w1 g code B) (o : Obj) : Dr w0 w (w1.alloc o) g code B := ⟨h.1.alloc o, below_alloc h.2.1 o, keep_alloc h.2.2 o⟩
/-- A row's block is none that lay in w. -/
def Late (w : World) (v : Value) : Prop := ∀ k, v.ownBlock = some k → w.heap.size ≤ k
theorem Late.lit {w w1 : World} {v : Value} (hs : w.heap.size ≤ w1.heap.size) (hn : ∃ b, v.ownBlock = some b ∧ w1.heap.size ≤ b) : Late w v := by
  obtain ⟨b, e, hb⟩ := hn
  intro k hk
  rw [e] at hk
  injection hk with hk
  omega
theorem Late.app {w w1 : World} {v v1 : Value} (h : Late w v) (hs : w.heap.size ≤ w1.heap.size) (hat : v1.ownBlock = v.ownBlock ∨ ∃ b, v1.ownBlock = some b ∧ w1.heap.size ≤ b) : Late w v1 := by
  rcases hat with e | hn
  · intro k hk; exact h k (e ▸ hk)
  · exact Late.lit hs hn
theorem Dr.grown {w0 w w1 w2 : World} {g : Nat} {code : List Int} {B : Int} {v : Value} (h : Dr w0 w w1 g code B) (hg : w1.grownBy w2 v.ownBlock) (hl : Late w v) (hb : Below w0.heap.size w0 w2) (hne : some g ≠ v.ownBlock) : Dr w0 w w2 g code B :=
  ⟨h.1.step (hg.block g h.1.lt hne) (Int.le_refl _), hb, ⟨Nat.le_trans h.2.2.1 hg.size, fun i hi hgi hr => (hg.block i (Nat.lt_of_lt_of_le hi h.2.2.1) (fun e => by have := hl i e.symm; omega)).trans (h.2.2.2 i hi hgi hr)⟩⟩
theorem Dr.lit {w0 w w1 w2 : World} {g : Nat} {code : List Int} {B : Int} (h : Dr w0 w w1 g code B) (hg : w1.grownBy w2 none) (hb : Below w0.heap.size w0 w2) : Dr w0 w w2 g code B :=
  ⟨h.1.step (hg.block g h.1.lt (by simp)) (Int.le_refl _), hb, ⟨Nat.le_trans h.2.2.1 hg.size, fun i hi hgi hr => (hg.block i (Nat.lt_of_lt_of_le hi h.2.2.1) (by simp)).trans (h.2.2.2 i hi hgi hr)⟩⟩
theorem Dr.size {w0 w w1 : World} {g : Nat} {code : List Int} {B : Int} (h : Dr w0 w w1 g code B) : w.heap.size ≤ w1.heap.size := h.2.2.1
/-- A row of one's own behind a draw. -/
theorem R_dr {α : Type} {d : Kd α} {e base : Nat} {w0 w w1 : World} {v : Value} {xs : List α} {g : Nat} {code : List Int} {B B' : Int} (hf : ∀ (w : World) (b : Nat) (p q : Nat → Prop) x cs, d.M w b p x cs → d.M w b q x cs) (h : d.R e w base (fun _ => True) v xs) (hI : Cur w0 w g code B) (ht : e ≠ 91) (hd : Dr w0 w w1 g code B') : d.R e w1 base (fun _ => True) v xs := R_draw hf h hI ht hd.2.2
theorem own_cur {α : Type} {d : Kd α} {e base : Nat} {ok : Nat → Prop} {w0 w : World} {v : Value} {xs : List α} {g : Nat} {code : List Int} {B : Int} (h : d.R e w base ok v xs) (hI : Cur w0 w g code B) (ht : e ≠ 91) : some g ≠ v.ownBlock := by
  obtain ⟨cs, hb⟩ := hI.blk
  exact own_ne h hb ht
theorem Dr.set {w0 w w1 : World} {g : Nat} {code : List Int} {B : Int} (h : Dr w0 w w1 g code B) {q : Nat} (hq : w.heap.size ≤ q) (hb : w0.heap.size ≤ w.heap.size) (hg : g ≠ q) (j : Nat) (v : Value) : Dr w0 w (w1.setCell ⟨q, j, none⟩ v) g code B :=
  ⟨h.1.step (Below.heap_setCell w1 ⟨q, j, none⟩ v g hg) (Int.le_refl _), below_set h.2.1 (Nat.le_trans hb hq), keep_far h.2.2 hq v⟩
theorem Dr.bel {w0 w w1 w2 : World} {g : Nat} {code : List Int} {B : Int} (h : Dr w0 w w1 g code B) (hb : Below w1.heap.size w1 w2) : Dr w0 w w2 g code B :=
  ⟨h.1.below hb, below_step h.2.1 hb, h.2.2.trans (KeepBut.of_below hb g none) (.inl rfl)⟩
end Go.Proofs.Ytlmdghcpcohamaa.O
