/- The program's PresentValue, and the reference's, answer as one plain function does. No other condition. -/
import Derived.Test.YtacfepaemphdgaaPureFnExactPresentValue
import Derived.Shelf.SlicesE.IndexFunc
import Derived.Shelf.SlLaysH
import Derived.Test.YtacfepaemphdgaaOFnExactPresentValuea
namespace Go.Proofs.Ytacfepaemphdgaa.O
open Go.RowKit Go.Proofs.YtacfepaemphdgaaW.PrintWords Go.Proofs.YtacfepaemphdgaaW.PrintLast Go.Proofs.YtacfepaemphdgaaW.PrintMore Go.Proofs.Ytacfepaemphdgaa.PL15PV Go.Proofs.Ytacfepaemphdgaa.EvKit Go.Proofs.Ytacfepaemphdgaa.Pure
set_option linter.unusedVariables false
set_option linter.unusedSimpArgs false
attribute [local go_sem] max2_int min2_int max_two min_two max_three min_three max_four min_four
set_option maxHeartbeats 8000000 in
set_option maxRecDepth 100000 in
theorem dayCountI_c (a b c : Int) (w : World) :
    Calls Try.prog 106 #[.int .i64 a, .int .i64 b, .int .i64 c] w fun e w' => e = .returned (.tuple #[.agg #[.int .i64 (dayCountA a b c).1, .int .i64 (dayCountA a b c).2.1], .bool (dayCountA a b c).2.2]) ∧ Below w.heap.size w w' := by
  have HB := Aside0.mk (Below.refl w.heap.size w)
  have g0_ := isDay_eq a
  by_cases c0_ : 0 ≤ a ∧ a ≤ 36524
  · rw [decide_eq_true c0_] at g0_
    have G1 := Aside0.mk g0_
    clear g0_
    have g1_ := isDay_eq b
    by_cases c1_ : 0 ≤ b ∧ b ≤ 36524
    · rw [decide_eq_true c1_] at g1_
      have G2 := Aside0.mk g1_
      clear g1_
      by_cases c2_ : ¬ b < a
      · have cb2_ : decide (¬ b < a) = true := decide_eq_true c2_
        have g3_ := within_eq c 1 4
        by_cases c3_ : 1 ≤ c ∧ c ≤ 4
        · rw [decide_eq_true c3_] at g3_
          have G3 := Aside0.mk g3_
          clear g3_
          have hv : validC a b c := ⟨c0_, c1_, by omega, c3_⟩
          have hfin : dayCountA a b c = countA a b c := by unfold dayCountA; rw [if_pos hv]
          rw [hfin]
          obtain ⟨FR, hFR⟩ : ∃ F, F = countA a b c := ⟨_, rfl⟩
          have HFR := Aside0.mk hFR.symm
          rw [← hFR]
          obtain ⟨n, d, o⟩ := FR
          clear hFR
          have HV := Aside0.mk hv
          have cab_ : decide (b < a) = false := decide_eq_false c2_
          clear hfin hv c0_ c1_ c3_
          go_enter Try.func106, Try.ntmps106
          go_wp2_with (((with_reducible refine gate_dst (N := 6) rfl ?_); refine box_event ?hg (N := 6) ?hd (cs := #[.int .i64 0,.int .i64 0]) (t := 24) ?hr ?_; (case hd => rfl); (case hg => rfl); (case hr => first | (go_simp; done) | (go_simp; rfl))); intro g1 hg w_g1 hbox hb; have n_ := Aside0.mk (below_step (by repeat (first | (with_reducible first | exact HB.out | apply below_alloc | apply pw_below_drewN | apply below_drew1) | exact HB.out)) hb); have BKg1 := Aside0.mk hbox; have GEg1 := Aside0.mk (show w.heap.size ≤ g1 from by rw [hg]; exact below_size (by repeat (first | (with_reducible first | exact HB.out | apply below_alloc | apply pw_below_drewN | apply below_drew1) | exact HB.out))); clear HB ; have HB := n_; clear n_ hb hbox hg)
          refine (impl_isDay.calls a true _ G1.out).mono ?_
          rintro e w1_ ⟨rfl, hb0⟩
          have hb := Drawn0.below hb0
          clear hb0
          have n_ := Aside0.mk (blk_below (blk_below BKg1.out (by repeat (first | (with_reducible first | exact Below.refl _ _ | apply below_alloc | apply pw_below_drewN | apply below_drew1) | exact Below.refl _ _))) hb); clear BKg1; have BKg1 := n_; clear n_; have n_ := Aside0.mk (below_step (by repeat (first | (with_reducible first | exact HB.out | apply below_alloc | apply pw_below_drewN | apply below_drew1) | exact HB.out)) hb); clear HB; have HB := n_; clear n_ hb
          go_wp2_with fail
          refine (impl_isDay.calls b true _ G2.out).mono ?_
          rintro e w2_ ⟨rfl, hb0⟩
          have hb := Drawn0.below hb0
          clear hb0
          have n_ := Aside0.mk (blk_below (blk_below BKg1.out (by repeat (first | (with_reducible first | exact Below.refl _ _ | apply below_alloc | apply pw_below_drewN | apply below_drew1) | exact Below.refl _ _))) hb); clear BKg1; have BKg1 := n_; clear n_; have n_ := Aside0.mk (below_step (by repeat (first | (with_reducible first | exact HB.out | apply below_alloc | apply pw_below_drewN | apply below_drew1) | exact HB.out)) hb); clear HB; have HB := n_; clear n_ hb
          go_wp2_with fail
          refine (impl_within.calls c 1 4 true _ G3.out).mono ?_
          rintro e w3_ ⟨rfl, hb0⟩
          have hb := Drawn0.below hb0
          clear hb0
          have n_ := Aside0.mk (blk_below (blk_below BKg1.out (by repeat (first | (with_reducible first | exact Below.refl _ _ | apply below_alloc | apply pw_below_drewN | apply below_drew1) | exact Below.refl _ _))) hb); clear BKg1; have BKg1 := n_; clear n_; have n_ := Aside0.mk (below_step (by repeat (first | (with_reducible first | exact HB.out | apply below_alloc | apply pw_below_drewN | apply below_drew1) | exact HB.out)) hb); clear HB; have HB := n_; clear n_ hb
          go_wp2_with fail
          refine (countI_c a b c HV.out _).mono ?_
          rw [HFR.out]
          rintro e w9_ ⟨rfl, hb⟩
          have n_ := Aside0.mk (blk_below (blk_below BKg1.out (by repeat (first | (with_reducible first | exact Below.refl _ _ | apply below_alloc | apply pw_below_drewN | apply below_drew1) | exact Below.refl _ _))) hb); clear BKg1; have BKg1 := n_; clear n_; have n_ := Aside0.mk (below_step (by repeat (first | (with_reducible first | exact HB.out | apply below_alloc | apply pw_below_drewN | apply below_drew1) | exact HB.out)) hb); clear HB; have HB := n_; clear n_ hb
          have yg1_0 : w9_.cell? ⟨g1, 0, none⟩ = some (.int .i64 0) := (blk_cell BKg1.out 0).trans rfl; have fg1_0 := blk_frozen BKg1.out 0; have yg1_1 : w9_.cell? ⟨g1, 1, none⟩ = some (.int .i64 0) := (blk_cell BKg1.out 1).trans rfl; have fg1_1 := blk_frozen BKg1.out 1
          go_wp2
          refine bodyPost_ret (results_ct rfl _ _ g1 24 #[.int .i64 n, .int .i64 d] (0, 0) _ rfl (by (with_reducible repeat (first | refine blk_drewN ?_ _ | refine blk_drew ?_ | refine blk_alloc ?_ _)); refine blk_put (cs := #[.int .i64 n, .int .i64 0]) ?_ 1 _ rfl; (with_reducible repeat (first | refine blk_drewN ?_ _ | refine blk_drew ?_ | refine blk_alloc ?_ _)); refine blk_put (cs := #[.int .i64 0, .int .i64 0]) ?_ 0 _ rfl; (with_reducible repeat (first | refine blk_drewN ?_ _ | refine blk_drew ?_ | refine blk_alloc ?_ _)); exact BKg1.out) Try.underlying24 rfl (by kernel_rfl)) rfl ?_
          exact ⟨rfl, (by repeat (first | (with_reducible first | exact HB.out | apply below_alloc | apply pw_below_drewN | apply below_drew1 | refine below_set ?_ GEg1.out) | exact HB.out))⟩
        · rw [decide_eq_false c3_] at g3_
          have G3 := Aside0.mk g3_
          clear g3_
          have hfin : dayCountA a b c = (0, 0, false) := by unfold dayCountA; rw [if_neg (fun v => c3_ v.2.2.2)]
          rw [hfin]
          clear hfin
          have cab_ : decide (b < a) = false := decide_eq_false c2_
          go_enter Try.func106, Try.ntmps106
          go_wp2_with (((with_reducible refine gate_dst (N := 6) rfl ?_); refine box_event ?hg (N := 6) ?hd (cs := #[.int .i64 0,.int .i64 0]) (t := 24) ?hr ?_; (case hd => rfl); (case hg => rfl); (case hr => first | (go_simp; done) | (go_simp; rfl))); intro g1 hg w_g1 hbox hb; have n_ := Aside0.mk (below_step (by repeat (first | (with_reducible first | exact HB.out | apply below_alloc | apply pw_below_drewN | apply below_drew1) | exact HB.out)) hb); have BKg1 := Aside0.mk hbox; have GEg1 := Aside0.mk (show w.heap.size ≤ g1 from by rw [hg]; exact below_size (by repeat (first | (with_reducible first | exact HB.out | apply below_alloc | apply pw_below_drewN | apply below_drew1) | exact HB.out))); clear HB ; have HB := n_; clear n_ hb hbox hg)
          refine (impl_isDay.calls a true _ G1.out).mono ?_
          rintro e w1_ ⟨rfl, hb0⟩
          have hb := Drawn0.below hb0
          clear hb0
          have n_ := Aside0.mk (blk_below (blk_below BKg1.out (by repeat (first | (with_reducible first | exact Below.refl _ _ | apply below_alloc | apply pw_below_drewN | apply below_drew1) | exact Below.refl _ _))) hb); clear BKg1; have BKg1 := n_; clear n_; have n_ := Aside0.mk (below_step (by repeat (first | (with_reducible first | exact HB.out | apply below_alloc | apply pw_below_drewN | apply below_drew1) | exact HB.out)) hb); clear HB; have HB := n_; clear n_ hb
          go_wp2_with fail
          refine (impl_isDay.calls b true _ G2.out).mono ?_
          rintro e w2_ ⟨rfl, hb0⟩
          have hb := Drawn0.below hb0
          clear hb0
          have n_ := Aside0.mk (blk_below (blk_below BKg1.out (by repeat (first | (with_reducible first | exact Below.refl _ _ | apply below_alloc | apply pw_below_drewN | apply below_drew1) | exact Below.refl _ _))) hb); clear BKg1; have BKg1 := n_; clear n_; have n_ := Aside0.mk (below_step (by repeat (first | (with_reducible first | exact HB.out | apply below_alloc | apply pw_below_drewN | apply below_drew1) | exact HB.out)) hb); clear HB; have HB := n_; clear n_ hb
          go_wp2_with fail
          refine (impl_within.calls c 1 4 false _ G3.out).mono ?_
          rintro e w3_ ⟨rfl, hb0⟩
          have hb := Drawn0.below hb0
          clear hb0
          have n_ := Aside0.mk (blk_below (blk_below BKg1.out (by repeat (first | (with_reducible first | exact Below.refl _ _ | apply below_alloc | apply pw_below_drewN | apply below_drew1) | exact Below.refl _ _))) hb); clear BKg1; have BKg1 := n_; clear n_; have n_ := Aside0.mk (below_step (by repeat (first | (with_reducible first | exact HB.out | apply below_alloc | apply pw_below_drewN | apply below_drew1) | exact HB.out)) hb); clear HB; have HB := n_; clear n_ hb
          have yg1_0 : w3_.cell? ⟨g1, 0, none⟩ = some (.int .i64 0) := (blk_cell BKg1.out 0).trans rfl; have fg1_0 := blk_frozen BKg1.out 0; have yg1_1 : w3_.cell? ⟨g1, 1, none⟩ = some (.int .i64 0) := (blk_cell BKg1.out 1).trans rfl; have fg1_1 := blk_frozen BKg1.out 1
          go_wp2
          refine bodyPost_ret (results_ct rfl _ _ g1 24 #[.int .i64 0, .int .i64 0] (0, 0) _ rfl (by (with_reducible repeat (first | refine blk_drewN ?_ _ | refine blk_drew ?_ | refine blk_alloc ?_ _)); refine blk_put (cs := #[.int .i64 0, .int .i64 0]) ?_ 1 _ rfl; (with_reducible repeat (first | refine blk_drewN ?_ _ | refine blk_drew ?_ | refine blk_alloc ?_ _)); refine blk_put (cs := #[.int .i64 0, .int .i64 0]) ?_ 0 _ rfl; (with_reducible repeat (first | refine blk_drewN ?_ _ | refine blk_drew ?_ | refine blk_alloc ?_ _)); exact BKg1.out) Try.underlying24 rfl (by kernel_rfl)) rfl ?_
          exact ⟨rfl, (by repeat (first | (with_reducible first | exact HB.out | apply below_alloc | apply pw_below_drewN | apply below_drew1 | refine below_set ?_ GEg1.out) | exact HB.out))⟩
      · have cb2_ : decide (¬ b < a) = false := decide_eq_false c2_
        have hfin : dayCountA a b c = (0, 0, false) := by unfold dayCountA; rw [if_neg (fun v => c2_ (by have := v.2.2.1; omega))]
        rw [hfin]
        clear hfin
        have cab_ : decide (b < a) = true := decide_eq_true (by omega)
        go_enter Try.func106, Try.ntmps106
        go_wp2_with (((with_reducible refine gate_dst (N := 6) rfl ?_); refine box_event ?hg (N := 6) ?hd (cs := #[.int .i64 0,.int .i64 0]) (t := 24) ?hr ?_; (case hd => rfl); (case hg => rfl); (case hr => first | (go_simp; done) | (go_simp; rfl))); intro g1 hg w_g1 hbox hb; have n_ := Aside0.mk (below_step (by repeat (first | (with_reducible first | exact HB.out | apply below_alloc | apply pw_below_drewN | apply below_drew1) | exact HB.out)) hb); have BKg1 := Aside0.mk hbox; have GEg1 := Aside0.mk (show w.heap.size ≤ g1 from by rw [hg]; exact below_size (by repeat (first | (with_reducible first | exact HB.out | apply below_alloc | apply pw_below_drewN | apply below_drew1) | exact HB.out))); clear HB ; have HB := n_; clear n_ hb hbox hg)
        refine (impl_isDay.calls a true _ G1.out).mono ?_
        rintro e w1_ ⟨rfl, hb0⟩
        have hb := Drawn0.below hb0
        clear hb0
        have n_ := Aside0.mk (blk_below (blk_below BKg1.out (by repeat (first | (with_reducible first | exact Below.refl _ _ | apply below_alloc | apply pw_below_drewN | apply below_drew1) | exact Below.refl _ _))) hb); clear BKg1; have BKg1 := n_; clear n_; have n_ := Aside0.mk (below_step (by repeat (first | (with_reducible first | exact HB.out | apply below_alloc | apply pw_below_drewN | apply below_drew1) | exact HB.out)) hb); clear HB; have HB := n_; clear n_ hb
        go_wp2_with fail
        refine (impl_isDay.calls b true _ G2.out).mono ?_
        rintro e w2_ ⟨rfl, hb0⟩
        have hb := Drawn0.below hb0
        clear hb0
        have n_ := Aside0.mk (blk_below (blk_below BKg1.out (by repeat (first | (with_reducible first | exact Below.refl _ _ | apply below_alloc | apply pw_below_drewN | apply below_drew1) | exact Below.refl _ _))) hb); clear BKg1; have BKg1 := n_; clear n_; have n_ := Aside0.mk (below_step (by repeat (first | (with_reducible first | exact HB.out | apply below_alloc | apply pw_below_drewN | apply below_drew1) | exact HB.out)) hb); clear HB; have HB := n_; clear n_ hb
        have yg1_0 : w2_.cell? ⟨g1, 0, none⟩ = some (.int .i64 0) := (blk_cell BKg1.out 0).trans rfl; have fg1_0 := blk_frozen BKg1.out 0; have yg1_1 : w2_.cell? ⟨g1, 1, none⟩ = some (.int .i64 0) := (blk_cell BKg1.out 1).trans rfl; have fg1_1 := blk_frozen BKg1.out 1
        go_wp2
        refine bodyPost_ret (results_ct rfl _ _ g1 24 #[.int .i64 0, .int .i64 0] (0, 0) _ rfl (by (with_reducible repeat (first | refine blk_drewN ?_ _ | refine blk_drew ?_ | refine blk_alloc ?_ _)); refine blk_put (cs := #[.int .i64 0, .int .i64 0]) ?_ 1 _ rfl; (with_reducible repeat (first | refine blk_drewN ?_ _ | refine blk_drew ?_ | refine blk_alloc ?_ _)); refine blk_put (cs := #[.int .i64 0, .int .i64 0]) ?_ 0 _ rfl; (with_reducible repeat (first | refine blk_drewN ?_ _ | refine blk_drew ?_ | refine blk_alloc ?_ _)); exact BKg1.out) Try.underlying24 rfl (by kernel_rfl)) rfl ?_
        exact ⟨rfl, (by repeat (first | (with_reducible first | exact HB.out | apply below_alloc | apply pw_below_drewN | apply below_drew1 | refine below_set ?_ GEg1.out) | exact HB.out))⟩
    · rw [decide_eq_false c1_] at g1_
      have G2 := Aside0.mk g1_
      clear g1_
      have hfin : dayCountA a b c = (0, 0, false) := by unfold dayCountA; rw [if_neg (fun v => c1_ v.2.1)]
      rw [hfin]
      clear hfin
      go_enter Try.func106, Try.ntmps106
      go_wp2_with (((with_reducible refine gate_dst (N := 6) rfl ?_); refine box_event ?hg (N := 6) ?hd (cs := #[.int .i64 0,.int .i64 0]) (t := 24) ?hr ?_; (case hd => rfl); (case hg => rfl); (case hr => first | (go_simp; done) | (go_simp; rfl))); intro g1 hg w_g1 hbox hb; have n_ := Aside0.mk (below_step (by repeat (first | (with_reducible first | exact HB.out | apply below_alloc | apply pw_below_drewN | apply below_drew1) | exact HB.out)) hb); have BKg1 := Aside0.mk hbox; have GEg1 := Aside0.mk (show w.heap.size ≤ g1 from by rw [hg]; exact below_size (by repeat (first | (with_reducible first | exact HB.out | apply below_alloc | apply pw_below_drewN | apply below_drew1) | exact HB.out))); clear HB ; have HB := n_; clear n_ hb hbox hg)
      refine (impl_isDay.calls a true _ G1.out).mono ?_
      rintro e w1_ ⟨rfl, hb0⟩
      have hb := Drawn0.below hb0
      clear hb0
      have n_ := Aside0.mk (blk_below (blk_below BKg1.out (by repeat (first | (with_reducible first | exact Below.refl _ _ | apply below_alloc | apply pw_below_drewN | apply below_drew1) | exact Below.refl _ _))) hb); clear BKg1; have BKg1 := n_; clear n_; have n_ := Aside0.mk (below_step (by repeat (first | (with_reducible first | exact HB.out | apply below_alloc | apply pw_below_drewN | apply below_drew1) | exact HB.out)) hb); clear HB; have HB := n_; clear n_ hb
      go_wp2_with fail
      refine (impl_isDay.calls b false _ G2.out).mono ?_
      rintro e w2_ ⟨rfl, hb0⟩
      have hb := Drawn0.below hb0
      clear hb0
      have n_ := Aside0.mk (blk_below (blk_below BKg1.out (by repeat (first | (with_reducible first | exact Below.refl _ _ | apply below_alloc | apply pw_below_drewN | apply below_drew1) | exact Below.refl _ _))) hb); clear BKg1; have BKg1 := n_; clear n_; have n_ := Aside0.mk (below_step (by repeat (first | (with_reducible first | exact HB.out | apply below_alloc | apply pw_below_drewN | apply below_drew1) | exact HB.out)) hb); clear HB; have HB := n_; clear n_ hb
      have yg1_0 : w2_.cell? ⟨g1, 0, none⟩ = some (.int .i64 0) := (blk_cell BKg1.out 0).trans rfl; have fg1_0 := blk_frozen BKg1.out 0; have yg1_1 : w2_.cell? ⟨g1, 1, none⟩ = some (.int .i64 0) := (blk_cell BKg1.out 1).trans rfl; have fg1_1 := blk_frozen BKg1.out 1
      go_wp2
      refine bodyPost_ret (results_ct rfl _ _ g1 24 #[.int .i64 0, .int .i64 0] (0, 0) _ rfl (by (with_reducible repeat (first | refine blk_drewN ?_ _ | refine blk_drew ?_ | refine blk_alloc ?_ _)); refine blk_put (cs := #[.int .i64 0, .int .i64 0]) ?_ 1 _ rfl; (with_reducible repeat (first | refine blk_drewN ?_ _ | refine blk_drew ?_ | refine blk_alloc ?_ _)); refine blk_put (cs := #[.int .i64 0, .int .i64 0]) ?_ 0 _ rfl; (with_reducible repeat (first | refine blk_drewN ?_ _ | refine blk_drew ?_ | refine blk_alloc ?_ _)); exact BKg1.out) Try.underlying24 rfl (by kernel_rfl)) rfl ?_
      exact ⟨rfl, (by repeat (first | (with_reducible first | exact HB.out | apply below_alloc | apply pw_below_drewN | apply below_drew1 | refine below_set ?_ GEg1.out) | exact HB.out))⟩
  · rw [decide_eq_false c0_] at g0_
    have G1 := Aside0.mk g0_
    clear g0_
    have hfin : dayCountA a b c = (0, 0, false) := by unfold dayCountA; rw [if_neg (fun v => c0_ v.1)]
    rw [hfin]
    clear hfin
    go_enter Try.func106, Try.ntmps106
    go_wp2_with (((with_reducible refine gate_dst (N := 6) rfl ?_); refine box_event ?hg (N := 6) ?hd (cs := #[.int .i64 0,.int .i64 0]) (t := 24) ?hr ?_; (case hd => rfl); (case hg => rfl); (case hr => first | (go_simp; done) | (go_simp; rfl))); intro g1 hg w_g1 hbox hb; have n_ := Aside0.mk (below_step (by repeat (first | (with_reducible first | exact HB.out | apply below_alloc | apply pw_below_drewN | apply below_drew1) | exact HB.out)) hb); have BKg1 := Aside0.mk hbox; have GEg1 := Aside0.mk (show w.heap.size ≤ g1 from by rw [hg]; exact below_size (by repeat (first | (with_reducible first | exact HB.out | apply below_alloc | apply pw_below_drewN | apply below_drew1) | exact HB.out))); clear HB ; have HB := n_; clear n_ hb hbox hg)
    refine (impl_isDay.calls a false _ G1.out).mono ?_
    rintro e w1_ ⟨rfl, hb0⟩
    have hb := Drawn0.below hb0
    clear hb0
    have n_ := Aside0.mk (blk_below (blk_below BKg1.out (by repeat (first | (with_reducible first | exact Below.refl _ _ | apply below_alloc | apply pw_below_drewN | apply below_drew1) | exact Below.refl _ _))) hb); clear BKg1; have BKg1 := n_; clear n_; have n_ := Aside0.mk (below_step (by repeat (first | (with_reducible first | exact HB.out | apply below_alloc | apply pw_below_drewN | apply below_drew1) | exact HB.out)) hb); clear HB; have HB := n_; clear n_ hb
    have yg1_0 : w1_.cell? ⟨g1, 0, none⟩ = some (.int .i64 0) := (blk_cell BKg1.out 0).trans rfl; have fg1_0 := blk_frozen BKg1.out 0; have yg1_1 : w1_.cell? ⟨g1, 1, none⟩ = some (.int .i64 0) := (blk_cell BKg1.out 1).trans rfl; have fg1_1 := blk_frozen BKg1.out 1
    go_wp2
    refine bodyPost_ret (results_ct rfl _ _ g1 24 #[.int .i64 0, .int .i64 0] (0, 0) _ rfl (by (with_reducible repeat (first | refine blk_drewN ?_ _ | refine blk_drew ?_ | refine blk_alloc ?_ _)); refine blk_put (cs := #[.int .i64 0, .int .i64 0]) ?_ 1 _ rfl; (with_reducible repeat (first | refine blk_drewN ?_ _ | refine blk_drew ?_ | refine blk_alloc ?_ _)); refine blk_put (cs := #[.int .i64 0, .int .i64 0]) ?_ 0 _ rfl; (with_reducible repeat (first | refine blk_drewN ?_ _ | refine blk_drew ?_ | refine blk_alloc ?_ _)); exact BKg1.out) Try.underlying24 rfl (by kernel_rfl)) rfl ?_
    exact ⟨rfl, (by repeat (first | (with_reducible first | exact HB.out | apply below_alloc | apply pw_below_drewN | apply below_drew1 | refine below_set ?_ GEg1.out) | exact HB.out))⟩
set_option maxHeartbeats 8000000 in
set_option maxRecDepth 100000 in
theorem growthI_c (n d x y c : Int) (w : World) :
    Calls Try.prog 55 #[.agg #[.int .i64 n, .int .i64 d], .int .i64 x, .int .i64 y, .int .i64 c] w fun e w' => e = .returned (.tuple #[.agg #[.int .i64 (growthA n d x y c).1, .int .i64 (growthA n d x y c).2.1], .bool (growthA n d x y c).2.2]) ∧ Below w.heap.size w w' := by
  have HB := Aside0.mk (Below.refl w.heap.size w)
  obtain ⟨DC, hDC⟩ : ∃ F, F = dayCountA x y c := ⟨_, rfl⟩
  have HDC := Aside0.mk hDC.symm
  obtain ⟨n1, d1, ok⟩ := DC
  cases ok with
  | false =>
    have hfin : growthA n d x y c = (0, 0, false) := by unfold growthA; rw [← hDC]; rfl
    rw [hfin]
    clear hfin hDC
    go_enter Try.func55, Try.ntmps55
    go_wp2_with (first
      | (((with_reducible refine gate_dst (N := 4) rfl ?_); refine box_event ?hg (N := 4) ?hd (cs := #[.int .i64 n,.int .i64 d]) (t := 24) ?hr ?_; (case hd => rfl); (case hg => rfl); (case hr => first | (go_simp; done) | (go_simp; rfl))); intro g1 hg w_g1 hbox hb; have n_ := Aside0.mk (below_step (by repeat (first | (with_reducible first | exact HB.out | apply below_alloc | apply pw_below_drewN | apply below_drew1) | exact HB.out)) hb); have BKg1 := Aside0.mk hbox; have GEg1 := Aside0.mk (show w.heap.size ≤ g1 from by rw [hg]; exact below_size (by repeat (first | (with_reducible first | exact HB.out | apply below_alloc | apply pw_below_drewN | apply below_drew1) | exact HB.out))); clear HB ; have HB := n_; clear n_ hb hbox hg)
      | (((with_reducible refine gate_dst (N := 8) rfl ?_); refine box_event ?hg (N := 8) ?hd (cs := #[.int .i64 0,.int .i64 0]) (t := 24) ?hr ?_; (case hd => rfl); (case hg => rfl); (case hr => first | (go_simp; done) | (go_simp; rfl))); intro g2 hg w_g2 hbox hb; have n_ := Aside0.mk (below_step (by repeat (first | (with_reducible first | exact HB.out | apply below_alloc | apply pw_below_drewN | apply below_drew1 | refine below_set ?_ GEg1.out) | exact HB.out)) hb); have m_g1 := Aside0.mk (blk_below (blk_below BKg1.out (by repeat (first | (with_reducible first | exact Below.refl _ _ | apply below_alloc | apply pw_below_drewN | apply below_drew1) | exact Below.refl _ _))) hb); have NEg1_g2 := Aside0.mk (show g1 ≠ g2 from by rw [hg]; exact Nat.ne_of_lt (blk_lt (blk_below BKg1.out (by repeat (first | (with_reducible first | exact Below.refl _ _ | apply below_alloc | apply pw_below_drewN | apply below_drew1) | exact Below.refl _ _))))); have NEg2_g1 := Aside0.mk (Ne.symm NEg1_g2.out); have BKg2 := Aside0.mk hbox; have GEg2 := Aside0.mk (show w.heap.size ≤ g2 from by rw [hg]; exact below_size (by repeat (first | (with_reducible first | exact HB.out | apply below_alloc | apply pw_below_drewN | apply below_drew1 | refine below_set ?_ GEg1.out) | exact HB.out))); clear HB BKg1; have HB := n_; clear n_ hb hbox hg; have BKg1 := m_g1; clear m_g1)
      )
    refine (dayCountI_c x y c _).mono ?_
    rw [HDC.out]
    rintro e w1_ ⟨rfl, hb⟩
    have n_ := Aside0.mk (blk_below (blk_below BKg1.out (by repeat (first | (with_reducible first | exact Below.refl _ _ | apply below_alloc | apply pw_below_drewN | apply below_drew1) | exact Below.refl _ _))) hb); clear BKg1; have BKg1 := n_; clear n_; have n_ := Aside0.mk (blk_below (blk_below BKg2.out (by repeat (first | (with_reducible first | exact Below.refl _ _ | apply below_alloc | apply pw_below_drewN | apply below_drew1) | exact Below.refl _ _))) hb); clear BKg2; have BKg2 := n_; clear n_; have n_ := Aside0.mk (below_step (by repeat (first | (with_reducible first | exact HB.out | apply below_alloc | apply pw_below_drewN | apply below_drew1) | exact HB.out)) hb); clear HB; have HB := n_; clear n_ hb
    go_wp2_with ((((with_reducible refine gate_dst (N := 10) rfl ?_); refine box_event ?hg (N := 10) ?hd (cs := #[.int .i64 0, .int .i64 0]) (t := 24) ?hr ?_; (case hd => rfl); (case hg => rfl); (case hr => first | (go_simp; done) | (go_simp; rfl))); intro g3 hg w_g3 hbox hb; have n_ := Aside0.mk (below_step (by repeat (first | (with_reducible first | exact HB.out | apply below_alloc | apply pw_below_drewN | apply below_drew1 | refine below_set ?_ GEg1.out | refine below_set ?_ GEg2.out) | exact HB.out)) hb); have m_g1 := Aside0.mk (blk_below (blk_below BKg1.out (by repeat (first | (with_reducible first | exact Below.refl _ _ | apply below_alloc | apply pw_below_drewN | apply below_drew1) | exact Below.refl _ _))) hb); have NEg1_g3 := Aside0.mk (show g1 ≠ g3 from by rw [hg]; exact Nat.ne_of_lt (blk_lt (blk_below BKg1.out (by repeat (first | (with_reducible first | exact Below.refl _ _ | apply below_alloc | apply pw_below_drewN | apply below_drew1) | exact Below.refl _ _))))); have NEg3_g1 := Aside0.mk (Ne.symm NEg1_g3.out); have m_g2 := Aside0.mk (blk_below (blk_below BKg2.out (by repeat (first | (with_reducible first | exact Below.refl _ _ | apply below_alloc | apply pw_below_drewN | apply below_drew1) | exact Below.refl _ _))) hb); have NEg2_g3 := Aside0.mk (show g2 ≠ g3 from by rw [hg]; exact Nat.ne_of_lt (blk_lt (blk_below BKg2.out (by repeat (first | (with_reducible first | exact Below.refl _ _ | apply below_alloc | apply pw_below_drewN | apply below_drew1) | exact Below.refl _ _))))); have NEg3_g2 := Aside0.mk (Ne.symm NEg2_g3.out); have BKg3 := Aside0.mk hbox; have GEg3 := Aside0.mk (show w.heap.size ≤ g3 from by rw [hg]; exact below_size (by repeat (first | (with_reducible first | exact HB.out | apply below_alloc | apply pw_below_drewN | apply below_drew1 | refine below_set ?_ GEg1.out | refine below_set ?_ GEg2.out) | exact HB.out))); clear HB BKg1 BKg2; have HB := n_; clear n_ hb hbox hg; have BKg1 := m_g1; clear m_g1; have BKg2 := m_g2; clear m_g2); have yg2_0 : w_g3.cell? ⟨g2, 0, none⟩ = some (.int .i64 0) := (blk_cell BKg2.out 0).trans rfl; have fg2_0 := blk_frozen BKg2.out 0; have yg2_1 : w_g3.cell? ⟨g2, 1, none⟩ = some (.int .i64 0) := (blk_cell BKg2.out 1).trans rfl; have fg2_1 := blk_frozen BKg2.out 1; have yg3_0 : w_g3.cell? ⟨g3, 0, none⟩ = some (.int .i64 0) := (blk_cell BKg3.out 0).trans rfl; have fg3_0 := blk_frozen BKg3.out 0; have yg3_1 : w_g3.cell? ⟨g3, 1, none⟩ = some (.int .i64 0) := (blk_cell BKg3.out 1).trans rfl; have fg3_1 := blk_frozen BKg3.out 1; have hn1_ := NEg2_g3.out; have hn2_ := NEg3_g2.out)
    refine bodyPost_ret (results_ct rfl _ _ g2 24 #[.int .i64 0, .int .i64 0] (0, 0) _ rfl (by (with_reducible repeat (first | refine blk_drewN ?_ _ | refine blk_drew ?_ | refine blk_alloc ?_ _)); refine blk_put (cs := #[.int .i64 0, .int .i64 0]) ?_ 1 _ rfl; (with_reducible repeat (first | refine blk_drewN ?_ _ | refine blk_drew ?_ | refine blk_alloc ?_ _)); refine blk_put (cs := #[.int .i64 0, .int .i64 0]) ?_ 0 _ rfl; (with_reducible repeat (first | refine blk_drewN ?_ _ | refine blk_drew ?_ | refine blk_alloc ?_ _ | refine blk_far ?_ NEg2_g3.out _)); exact BKg2.out) Try.underlying24 rfl (by kernel_rfl)) rfl ?_
    exact ⟨rfl, (by repeat (first | (with_reducible first | exact HB.out | apply below_alloc | apply pw_below_drewN | apply below_drew1 | refine below_set ?_ GEg1.out | refine below_set ?_ GEg2.out | refine below_set ?_ GEg3.out) | exact HB.out))⟩
  | true =>
    have hfin : growthA n d x y c = multA n d n1 d1 := by unfold growthA; rw [← hDC]; rfl
    rw [hfin]
    obtain ⟨FR, hFR⟩ : ∃ F, F = multA n d n1 d1 := ⟨_, rfl⟩
    have HFR := Aside0.mk hFR.symm
    rw [← hFR]
    obtain ⟨n2, d2, o2⟩ := FR
    clear hFR
    obtain ⟨k, hk⟩ := roundsOf (implMult_ev n d n1 d1)
    rw [HFR.out] at hk
    have HK := Aside0.mk hk
    clear hk HFR
    clear hfin hDC
    go_enter Try.func55, Try.ntmps55
    go_wp2_with (first
      | (((with_reducible refine gate_dst (N := 4) rfl ?_); refine box_event ?hg (N := 4) ?hd (cs := #[.int .i64 n,.int .i64 d]) (t := 24) ?hr ?_; (case hd => rfl); (case hg => rfl); (case hr => first | (go_simp; done) | (go_simp; rfl))); intro g1 hg w_g1 hbox hb; have n_ := Aside0.mk (below_step (by repeat (first | (with_reducible first | exact HB.out | apply below_alloc | apply pw_below_drewN | apply below_drew1) | exact HB.out)) hb); have BKg1 := Aside0.mk hbox; have GEg1 := Aside0.mk (show w.heap.size ≤ g1 from by rw [hg]; exact below_size (by repeat (first | (with_reducible first | exact HB.out | apply below_alloc | apply pw_below_drewN | apply below_drew1) | exact HB.out))); clear HB ; have HB := n_; clear n_ hb hbox hg)
      | (((with_reducible refine gate_dst (N := 8) rfl ?_); refine box_event ?hg (N := 8) ?hd (cs := #[.int .i64 0,.int .i64 0]) (t := 24) ?hr ?_; (case hd => rfl); (case hg => rfl); (case hr => first | (go_simp; done) | (go_simp; rfl))); intro g2 hg w_g2 hbox hb; have n_ := Aside0.mk (below_step (by repeat (first | (with_reducible first | exact HB.out | apply below_alloc | apply pw_below_drewN | apply below_drew1 | refine below_set ?_ GEg1.out) | exact HB.out)) hb); have m_g1 := Aside0.mk (blk_below (blk_below BKg1.out (by repeat (first | (with_reducible first | exact Below.refl _ _ | apply below_alloc | apply pw_below_drewN | apply below_drew1) | exact Below.refl _ _))) hb); have NEg1_g2 := Aside0.mk (show g1 ≠ g2 from by rw [hg]; exact Nat.ne_of_lt (blk_lt (blk_below BKg1.out (by repeat (first | (with_reducible first | exact Below.refl _ _ | apply below_alloc | apply pw_below_drewN | apply below_drew1) | exact Below.refl _ _))))); have NEg2_g1 := Aside0.mk (Ne.symm NEg1_g2.out); have BKg2 := Aside0.mk hbox; have GEg2 := Aside0.mk (show w.heap.size ≤ g2 from by rw [hg]; exact below_size (by repeat (first | (with_reducible first | exact HB.out | apply below_alloc | apply pw_below_drewN | apply below_drew1 | refine below_set ?_ GEg1.out) | exact HB.out))); clear HB BKg1; have HB := n_; clear n_ hb hbox hg; have BKg1 := m_g1; clear m_g1)
      )
    refine (dayCountI_c x y c _).mono ?_
    rw [HDC.out]
    rintro e w1_ ⟨rfl, hb⟩
    have n_ := Aside0.mk (blk_below (blk_below BKg1.out (by repeat (first | (with_reducible first | exact Below.refl _ _ | apply below_alloc | apply pw_below_drewN | apply below_drew1) | exact Below.refl _ _))) hb); clear BKg1; have BKg1 := n_; clear n_; have n_ := Aside0.mk (blk_below (blk_below BKg2.out (by repeat (first | (with_reducible first | exact Below.refl _ _ | apply below_alloc | apply pw_below_drewN | apply below_drew1) | exact Below.refl _ _))) hb); clear BKg2; have BKg2 := n_; clear n_; have n_ := Aside0.mk (below_step (by repeat (first | (with_reducible first | exact HB.out | apply below_alloc | apply pw_below_drewN | apply below_drew1) | exact HB.out)) hb); clear HB; have HB := n_; clear n_ hb
    go_wp2_with ((((with_reducible refine gate_dst (N := 10) rfl ?_); refine box_event ?hg (N := 10) ?hd (cs := #[.int .i64 0, .int .i64 0]) (t := 24) ?hr ?_; (case hd => rfl); (case hg => rfl); (case hr => first | (go_simp; done) | (go_simp; rfl))); intro g3 hg w_g3 hbox hb; have n_ := Aside0.mk (below_step (by repeat (first | (with_reducible first | exact HB.out | apply below_alloc | apply pw_below_drewN | apply below_drew1 | refine below_set ?_ GEg1.out | refine below_set ?_ GEg2.out) | exact HB.out)) hb); have m_g1 := Aside0.mk (blk_below (blk_below BKg1.out (by repeat (first | (with_reducible first | exact Below.refl _ _ | apply below_alloc | apply pw_below_drewN | apply below_drew1) | exact Below.refl _ _))) hb); have NEg1_g3 := Aside0.mk (show g1 ≠ g3 from by rw [hg]; exact Nat.ne_of_lt (blk_lt (blk_below BKg1.out (by repeat (first | (with_reducible first | exact Below.refl _ _ | apply below_alloc | apply pw_below_drewN | apply below_drew1) | exact Below.refl _ _))))); have NEg3_g1 := Aside0.mk (Ne.symm NEg1_g3.out); have m_g2 := Aside0.mk (blk_below (blk_below BKg2.out (by repeat (first | (with_reducible first | exact Below.refl _ _ | apply below_alloc | apply pw_below_drewN | apply below_drew1) | exact Below.refl _ _))) hb); have NEg2_g3 := Aside0.mk (show g2 ≠ g3 from by rw [hg]; exact Nat.ne_of_lt (blk_lt (blk_below BKg2.out (by repeat (first | (with_reducible first | exact Below.refl _ _ | apply below_alloc | apply pw_below_drewN | apply below_drew1) | exact Below.refl _ _))))); have NEg3_g2 := Aside0.mk (Ne.symm NEg2_g3.out); have BKg3 := Aside0.mk hbox; have GEg3 := Aside0.mk (show w.heap.size ≤ g3 from by rw [hg]; exact below_size (by repeat (first | (with_reducible first | exact HB.out | apply below_alloc | apply pw_below_drewN | apply below_drew1 | refine below_set ?_ GEg1.out | refine below_set ?_ GEg2.out) | exact HB.out))); clear HB BKg1 BKg2; have HB := n_; clear n_ hb hbox hg; have BKg1 := m_g1; clear m_g1; have BKg2 := m_g2; clear m_g2); have yg1_0 : w_g3.cell? ⟨g1, 0, none⟩ = some (.int .i64 n) := (blk_cell BKg1.out 0).trans rfl; have fg1_0 := blk_frozen BKg1.out 0; have yg1_1 : w_g3.cell? ⟨g1, 1, none⟩ = some (.int .i64 d) := (blk_cell BKg1.out 1).trans rfl; have fg1_1 := blk_frozen BKg1.out 1; have yg3_0 : w_g3.cell? ⟨g3, 0, none⟩ = some (.int .i64 0) := (blk_cell BKg3.out 0).trans rfl; have fg3_0 := blk_frozen BKg3.out 0; have yg3_1 : w_g3.cell? ⟨g3, 1, none⟩ = some (.int .i64 0) := (blk_cell BKg3.out 1).trans rfl; have fg3_1 := blk_frozen BKg3.out 1; have hn1_ := NEg1_g3.out; have hn2_ := NEg3_g1.out)
    refine (impl_MultiplyFractions.calls k n d n1 d1 n2 d2 o2 _ HK.out).mono ?_
    rintro e v1_ ⟨rfl, hb⟩
    have m_g2 := Aside0.mk (blk_below (g := g2) (o := .cells #[.int .i64 0, .int .i64 0] 24 (0, 0)) (by repeat (first | (with_reducible first | exact BKg2.out | refine blk_drewN ?_ _ | refine blk_drew ?_ | refine blk_alloc ?_ _ | refine blk_far ?_ NEg2_g3.out _))) hb)
    have n_ := Aside0.mk (below_step (by repeat (first | (with_reducible first | exact HB.out | apply below_alloc | apply pw_below_drewN | apply below_drew1 | refine below_set ?_ GEg3.out) | exact HB.out)) hb)
    clear HB hb BKg2 BKg1 BKg3
    have HB := n_
    clear n_
    have BKg2 := m_g2
    clear m_g2
    have yg2_0 : v1_.cell? ⟨g2, 0, none⟩ = some (.int .i64 0) := (blk_cell BKg2.out 0).trans rfl; have fg2_0 := blk_frozen BKg2.out 0; have yg2_1 : v1_.cell? ⟨g2, 1, none⟩ = some (.int .i64 0) := (blk_cell BKg2.out 1).trans rfl; have fg2_1 := blk_frozen BKg2.out 1
    go_wp2
    refine bodyPost_ret (results_ct rfl _ _ g2 24 #[.int .i64 n2, .int .i64 d2] (0, 0) _ rfl (by (with_reducible repeat (first | refine blk_drewN ?_ _ | refine blk_drew ?_ | refine blk_alloc ?_ _)); refine blk_put (cs := #[.int .i64 n2, .int .i64 0]) ?_ 1 _ rfl; (with_reducible repeat (first | refine blk_drewN ?_ _ | refine blk_drew ?_ | refine blk_alloc ?_ _)); refine blk_put (cs := #[.int .i64 0, .int .i64 0]) ?_ 0 _ rfl; (with_reducible repeat (first | refine blk_drewN ?_ _ | refine blk_drew ?_ | refine blk_alloc ?_ _)); exact BKg2.out) Try.underlying24 rfl (by kernel_rfl)) rfl ?_
    exact ⟨rfl, (by repeat (first | (with_reducible first | exact HB.out | apply below_alloc | apply pw_below_drewN | apply below_drew1 | refine below_set ?_ GEg1.out | refine below_set ?_ GEg2.out | refine below_set ?_ GEg3.out) | exact HB.out))⟩
set_option maxHeartbeats 8000000 in
set_option maxRecDepth 100000 in
theorem discI_c (n d x y c : Int) (w : World) :
    Calls Try.prog 16 #[.agg #[.int .i64 n, .int .i64 d], .int .i64 x, .int .i64 y, .int .i64 c] w fun e w' => e = .returned (.tuple #[.agg #[.int .i64 (discA n d x y c).1, .int .i64 (discA n d x y c).2.1], .bool (discA n d x y c).2.2]) ∧ Below w.heap.size w w' := by
  have HB := Aside0.mk (Below.refl w.heap.size w)
  obtain ⟨kr, hr⟩ := roundsOf (implRate_ev n d)
  have g0_ := hr
  by_cases c0_ : okF n d ∧ 0 ≤ n
  · rw [decide_eq_true c0_] at g0_
    have G1 := Aside0.mk g0_
    clear g0_
    obtain ⟨GR, hGR⟩ : ∃ F, F = growthA n d x y c := ⟨_, rfl⟩
    have HGR := Aside0.mk hGR.symm
    obtain ⟨n1, d1, ok⟩ := GR
    cases ok with
    | false =>
      have hfin : discA n d x y c = (0, 0, false) := by unfold discA; rw [if_pos c0_, ← hGR]; rfl
      rw [hfin]
      clear hfin hGR
      go_enter Try.func16, Try.ntmps16
      go_wp2_with (first
        | (((with_reducible refine gate_dst (N := 4) rfl ?_); refine box_event ?hg (N := 4) ?hd (cs := #[.int .i64 n,.int .i64 d]) (t := 24) ?hr ?_; (case hd => rfl); (case hg => rfl); (case hr => first | (go_simp; done) | (go_simp; rfl))); intro g1 hg w_g1 hbox hb; have n_ := Aside0.mk (below_step (by repeat (first | (with_reducible first | exact HB.out | apply below_alloc | apply pw_below_drewN | apply below_drew1) | exact HB.out)) hb); have BKg1 := Aside0.mk hbox; have GEg1 := Aside0.mk (show w.heap.size ≤ g1 from by rw [hg]; exact below_size (by repeat (first | (with_reducible first | exact HB.out | apply below_alloc | apply pw_below_drewN | apply below_drew1) | exact HB.out))); clear HB ; have HB := n_; clear n_ hb hbox hg)
        | ((((with_reducible refine gate_dst (N := 8) rfl ?_); refine box_event ?hg (N := 8) ?hd (cs := #[.int .i64 0,.int .i64 0]) (t := 24) ?hr ?_; (case hd => rfl); (case hg => rfl); (case hr => first | (go_simp; done) | (go_simp; rfl))); intro g2 hg w_g2 hbox hb; have n_ := Aside0.mk (below_step (by repeat (first | (with_reducible first | exact HB.out | apply below_alloc | apply pw_below_drewN | apply below_drew1 | refine below_set ?_ GEg1.out) | exact HB.out)) hb); have m_g1 := Aside0.mk (blk_below (blk_below BKg1.out (by repeat (first | (with_reducible first | exact Below.refl _ _ | apply below_alloc | apply pw_below_drewN | apply below_drew1) | exact Below.refl _ _))) hb); have NEg1_g2 := Aside0.mk (show g1 ≠ g2 from by rw [hg]; exact Nat.ne_of_lt (blk_lt (blk_below BKg1.out (by repeat (first | (with_reducible first | exact Below.refl _ _ | apply below_alloc | apply pw_below_drewN | apply below_drew1) | exact Below.refl _ _))))); have NEg2_g1 := Aside0.mk (Ne.symm NEg1_g2.out); have BKg2 := Aside0.mk hbox; have GEg2 := Aside0.mk (show w.heap.size ≤ g2 from by rw [hg]; exact below_size (by repeat (first | (with_reducible first | exact HB.out | apply below_alloc | apply pw_below_drewN | apply below_drew1 | refine below_set ?_ GEg1.out) | exact HB.out))); clear HB BKg1; have HB := n_; clear n_ hb hbox hg; have BKg1 := m_g1; clear m_g1); have yg1_0 : w_g2.cell? ⟨g1, 0, none⟩ = some (.int .i64 n) := (blk_cell BKg1.out 0).trans rfl; have fg1_0 := blk_frozen BKg1.out 0; have yg1_1 : w_g2.cell? ⟨g1, 1, none⟩ = some (.int .i64 d) := (blk_cell BKg1.out 1).trans rfl; have fg1_1 := blk_frozen BKg1.out 1)
        )
      clear yg1_0 fg1_0 yg1_1 fg1_1
      refine (impl_isRate.calls kr n d true _ G1.out).mono ?_
      rintro e w1_ ⟨rfl, hb⟩
      have n_ := Aside0.mk (blk_below (blk_below BKg1.out (by repeat (first | (with_reducible first | exact Below.refl _ _ | apply below_alloc | apply pw_below_drewN | apply below_drew1) | exact Below.refl _ _))) hb); clear BKg1; have BKg1 := n_; clear n_; have n_ := Aside0.mk (blk_below (blk_below BKg2.out (by repeat (first | (with_reducible first | exact Below.refl _ _ | apply below_alloc | apply pw_below_drewN | apply below_drew1) | exact Below.refl _ _))) hb); clear BKg2; have BKg2 := n_; clear n_; have n_ := Aside0.mk (below_step (by repeat (first | (with_reducible first | exact HB.out | apply below_alloc | apply pw_below_drewN | apply below_drew1) | exact HB.out)) hb); clear HB; have HB := n_; clear n_ hb
      have yg1_0 : w1_.cell? ⟨g1, 0, none⟩ = some (.int .i64 n) := (blk_cell BKg1.out 0).trans rfl; have fg1_0 := blk_frozen BKg1.out 0; have yg1_1 : w1_.cell? ⟨g1, 1, none⟩ = some (.int .i64 d) := (blk_cell BKg1.out 1).trans rfl; have fg1_1 := blk_frozen BKg1.out 1
      go_wp2_with fail
      clear yg1_0 fg1_0 yg1_1 fg1_1
      refine (growthI_c n d x y c _).mono ?_
      rw [HGR.out]
      rintro e w1_ ⟨rfl, hb⟩
      have n_ := Aside0.mk (blk_below (blk_below BKg1.out (by repeat (first | (with_reducible first | exact Below.refl _ _ | apply below_alloc | apply pw_below_drewN | apply below_drew1) | exact Below.refl _ _))) hb); clear BKg1; have BKg1 := n_; clear n_; have n_ := Aside0.mk (blk_below (blk_below BKg2.out (by repeat (first | (with_reducible first | exact Below.refl _ _ | apply below_alloc | apply pw_below_drewN | apply below_drew1) | exact Below.refl _ _))) hb); clear BKg2; have BKg2 := n_; clear n_; have n_ := Aside0.mk (below_step (by repeat (first | (with_reducible first | exact HB.out | apply below_alloc | apply pw_below_drewN | apply below_drew1) | exact HB.out)) hb); clear HB; have HB := n_; clear n_ hb
      go_wp2_with ((((with_reducible refine gate_dst (N := 10) rfl ?_); refine box_event ?hg (N := 10) ?hd (cs := #[.int .i64 0, .int .i64 0]) (t := 24) ?hr ?_; (case hd => rfl); (case hg => rfl); (case hr => first | (go_simp; done) | (go_simp; rfl))); intro g3 hg w_g3 hbox hb; have n_ := Aside0.mk (below_step (by repeat (first | (with_reducible first | exact HB.out | apply below_alloc | apply pw_below_drewN | apply below_drew1 | refine below_set ?_ GEg1.out | refine below_set ?_ GEg2.out) | exact HB.out)) hb); have m_g1 := Aside0.mk (blk_below (blk_below BKg1.out (by repeat (first | (with_reducible first | exact Below.refl _ _ | apply below_alloc | apply pw_below_drewN | apply below_drew1) | exact Below.refl _ _))) hb); have NEg1_g3 := Aside0.mk (show g1 ≠ g3 from by rw [hg]; exact Nat.ne_of_lt (blk_lt (blk_below BKg1.out (by repeat (first | (with_reducible first | exact Below.refl _ _ | apply below_alloc | apply pw_below_drewN | apply below_drew1) | exact Below.refl _ _))))); have NEg3_g1 := Aside0.mk (Ne.symm NEg1_g3.out); have m_g2 := Aside0.mk (blk_below (blk_below BKg2.out (by repeat (first | (with_reducible first | exact Below.refl _ _ | apply below_alloc | apply pw_below_drewN | apply below_drew1) | exact Below.refl _ _))) hb); have NEg2_g3 := Aside0.mk (show g2 ≠ g3 from by rw [hg]; exact Nat.ne_of_lt (blk_lt (blk_below BKg2.out (by repeat (first | (with_reducible first | exact Below.refl _ _ | apply below_alloc | apply pw_below_drewN | apply below_drew1) | exact Below.refl _ _))))); have NEg3_g2 := Aside0.mk (Ne.symm NEg2_g3.out); have BKg3 := Aside0.mk hbox; have GEg3 := Aside0.mk (show w.heap.size ≤ g3 from by rw [hg]; exact below_size (by repeat (first | (with_reducible first | exact HB.out | apply below_alloc | apply pw_below_drewN | apply below_drew1 | refine below_set ?_ GEg1.out | refine below_set ?_ GEg2.out) | exact HB.out))); clear HB BKg1 BKg2; have HB := n_; clear n_ hb hbox hg; have BKg1 := m_g1; clear m_g1; have BKg2 := m_g2; clear m_g2); have yg2_0 : w_g3.cell? ⟨g2, 0, none⟩ = some (.int .i64 0) := (blk_cell BKg2.out 0).trans rfl; have fg2_0 := blk_frozen BKg2.out 0; have yg2_1 : w_g3.cell? ⟨g2, 1, none⟩ = some (.int .i64 0) := (blk_cell BKg2.out 1).trans rfl; have fg2_1 := blk_frozen BKg2.out 1; have yg3_0 : w_g3.cell? ⟨g3, 0, none⟩ = some (.int .i64 0) := (blk_cell BKg3.out 0).trans rfl; have fg3_0 := blk_frozen BKg3.out 0; have yg3_1 : w_g3.cell? ⟨g3, 1, none⟩ = some (.int .i64 0) := (blk_cell BKg3.out 1).trans rfl; have fg3_1 := blk_frozen BKg3.out 1; have hn1_ := NEg2_g3.out; have hn2_ := NEg3_g2.out)
      refine bodyPost_ret (results_ct rfl _ _ g2 24 #[.int .i64 0, .int .i64 0] (0, 0) _ rfl (by (with_reducible repeat (first | refine blk_drewN ?_ _ | refine blk_drew ?_ | refine blk_alloc ?_ _)); refine blk_put (cs := #[.int .i64 0, .int .i64 0]) ?_ 1 _ rfl; (with_reducible repeat (first | refine blk_drewN ?_ _ | refine blk_drew ?_ | refine blk_alloc ?_ _)); refine blk_put (cs := #[.int .i64 0, .int .i64 0]) ?_ 0 _ rfl; (with_reducible repeat (first | refine blk_drewN ?_ _ | refine blk_drew ?_ | refine blk_alloc ?_ _ | refine blk_far ?_ NEg2_g3.out _)); exact BKg2.out) Try.underlying24 rfl (by kernel_rfl)) rfl ?_
      exact ⟨rfl, (by repeat (first | (with_reducible first | exact HB.out | apply below_alloc | apply pw_below_drewN | apply below_drew1 | refine below_set ?_ GEg1.out | refine below_set ?_ GEg2.out | refine below_set ?_ GEg3.out) | exact HB.out))⟩
    | true =>
      have hfin : discA n d x y c = fracA d1 (d1 + n1) := by unfold discA; rw [if_pos c0_, ← hGR]; rfl
      rw [hfin]
      have hgo := growth_ok n d x y c c0_.2 (by rw [← hGR])
      rw [← hGR] at hgo
      obtain ⟨⟨hd1, hn1, _⟩, hn0⟩ := hgo
      simp only at hd1 hn1 hn0
      obtain ⟨FR, hFR⟩ : ∃ F, F = fracA d1 (d1 + n1) := ⟨_, rfl⟩
      have HFR := Aside0.mk hFR.symm
      rw [← hFR]
      obtain ⟨n2, d2, o2⟩ := FR
      clear hFR
      obtain ⟨k, hk⟩ := roundsOf (implFrac_ev d1 (d1 + n1) (by omega) (by omega) (by omega))
      rw [HFR.out] at hk
      have HK := Aside0.mk hk
      clear hk HFR
      clear hfin hGR
      go_enter Try.func16, Try.ntmps16
      go_wp2_with (first
        | (((with_reducible refine gate_dst (N := 4) rfl ?_); refine box_event ?hg (N := 4) ?hd (cs := #[.int .i64 n,.int .i64 d]) (t := 24) ?hr ?_; (case hd => rfl); (case hg => rfl); (case hr => first | (go_simp; done) | (go_simp; rfl))); intro g1 hg w_g1 hbox hb; have n_ := Aside0.mk (below_step (by repeat (first | (with_reducible first | exact HB.out | apply below_alloc | apply pw_below_drewN | apply below_drew1) | exact HB.out)) hb); have BKg1 := Aside0.mk hbox; have GEg1 := Aside0.mk (show w.heap.size ≤ g1 from by rw [hg]; exact below_size (by repeat (first | (with_reducible first | exact HB.out | apply below_alloc | apply pw_below_drewN | apply below_drew1) | exact HB.out))); clear HB ; have HB := n_; clear n_ hb hbox hg)
        | ((((with_reducible refine gate_dst (N := 8) rfl ?_); refine box_event ?hg (N := 8) ?hd (cs := #[.int .i64 0,.int .i64 0]) (t := 24) ?hr ?_; (case hd => rfl); (case hg => rfl); (case hr => first | (go_simp; done) | (go_simp; rfl))); intro g2 hg w_g2 hbox hb; have n_ := Aside0.mk (below_step (by repeat (first | (with_reducible first | exact HB.out | apply below_alloc | apply pw_below_drewN | apply below_drew1 | refine below_set ?_ GEg1.out) | exact HB.out)) hb); have m_g1 := Aside0.mk (blk_below (blk_below BKg1.out (by repeat (first | (with_reducible first | exact Below.refl _ _ | apply below_alloc | apply pw_below_drewN | apply below_drew1) | exact Below.refl _ _))) hb); have NEg1_g2 := Aside0.mk (show g1 ≠ g2 from by rw [hg]; exact Nat.ne_of_lt (blk_lt (blk_below BKg1.out (by repeat (first | (with_reducible first | exact Below.refl _ _ | apply below_alloc | apply pw_below_drewN | apply below_drew1) | exact Below.refl _ _))))); have NEg2_g1 := Aside0.mk (Ne.symm NEg1_g2.out); have BKg2 := Aside0.mk hbox; have GEg2 := Aside0.mk (show w.heap.size ≤ g2 from by rw [hg]; exact below_size (by repeat (first | (with_reducible first | exact HB.out | apply below_alloc | apply pw_below_drewN | apply below_drew1 | refine below_set ?_ GEg1.out) | exact HB.out))); clear HB BKg1; have HB := n_; clear n_ hb hbox hg; have BKg1 := m_g1; clear m_g1); have yg1_0 : w_g2.cell? ⟨g1, 0, none⟩ = some (.int .i64 n) := (blk_cell BKg1.out 0).trans rfl; have fg1_0 := blk_frozen BKg1.out 0; have yg1_1 : w_g2.cell? ⟨g1, 1, none⟩ = some (.int .i64 d) := (blk_cell BKg1.out 1).trans rfl; have fg1_1 := blk_frozen BKg1.out 1)
        )
      clear yg1_0 fg1_0 yg1_1 fg1_1
      refine (impl_isRate.calls kr n d true _ G1.out).mono ?_
      rintro e w1_ ⟨rfl, hb⟩
      have n_ := Aside0.mk (blk_below (blk_below BKg1.out (by repeat (first | (with_reducible first | exact Below.refl _ _ | apply below_alloc | apply pw_below_drewN | apply below_drew1) | exact Below.refl _ _))) hb); clear BKg1; have BKg1 := n_; clear n_; have n_ := Aside0.mk (blk_below (blk_below BKg2.out (by repeat (first | (with_reducible first | exact Below.refl _ _ | apply below_alloc | apply pw_below_drewN | apply below_drew1) | exact Below.refl _ _))) hb); clear BKg2; have BKg2 := n_; clear n_; have n_ := Aside0.mk (below_step (by repeat (first | (with_reducible first | exact HB.out | apply below_alloc | apply pw_below_drewN | apply below_drew1) | exact HB.out)) hb); clear HB; have HB := n_; clear n_ hb
      have yg1_0 : w1_.cell? ⟨g1, 0, none⟩ = some (.int .i64 n) := (blk_cell BKg1.out 0).trans rfl; have fg1_0 := blk_frozen BKg1.out 0; have yg1_1 : w1_.cell? ⟨g1, 1, none⟩ = some (.int .i64 d) := (blk_cell BKg1.out 1).trans rfl; have fg1_1 := blk_frozen BKg1.out 1
      go_wp2_with fail
      clear yg1_0 fg1_0 yg1_1 fg1_1
      refine (growthI_c n d x y c _).mono ?_
      rw [HGR.out]
      rintro e w1_ ⟨rfl, hb⟩
      have n_ := Aside0.mk (blk_below (blk_below BKg1.out (by repeat (first | (with_reducible first | exact Below.refl _ _ | apply below_alloc | apply pw_below_drewN | apply below_drew1) | exact Below.refl _ _))) hb); clear BKg1; have BKg1 := n_; clear n_; have n_ := Aside0.mk (blk_below (blk_below BKg2.out (by repeat (first | (with_reducible first | exact Below.refl _ _ | apply below_alloc | apply pw_below_drewN | apply below_drew1) | exact Below.refl _ _))) hb); clear BKg2; have BKg2 := n_; clear n_; have n_ := Aside0.mk (below_step (by repeat (first | (with_reducible first | exact HB.out | apply below_alloc | apply pw_below_drewN | apply below_drew1) | exact HB.out)) hb); clear HB; have HB := n_; clear n_ hb
      go_wp2_with ((((with_reducible refine gate_dst (N := 10) rfl ?_); refine box_event ?hg (N := 10) ?hd (cs := #[.int .i64 0, .int .i64 0]) (t := 24) ?hr ?_; (case hd => rfl); (case hg => rfl); (case hr => first | (go_simp; done) | (go_simp; rfl))); intro g3 hg w_g3 hbox hb; have n_ := Aside0.mk (below_step (by repeat (first | (with_reducible first | exact HB.out | apply below_alloc | apply pw_below_drewN | apply below_drew1 | refine below_set ?_ GEg1.out | refine below_set ?_ GEg2.out) | exact HB.out)) hb); have m_g1 := Aside0.mk (blk_below (blk_below BKg1.out (by repeat (first | (with_reducible first | exact Below.refl _ _ | apply below_alloc | apply pw_below_drewN | apply below_drew1) | exact Below.refl _ _))) hb); have NEg1_g3 := Aside0.mk (show g1 ≠ g3 from by rw [hg]; exact Nat.ne_of_lt (blk_lt (blk_below BKg1.out (by repeat (first | (with_reducible first | exact Below.refl _ _ | apply below_alloc | apply pw_below_drewN | apply below_drew1) | exact Below.refl _ _))))); have NEg3_g1 := Aside0.mk (Ne.symm NEg1_g3.out); have m_g2 := Aside0.mk (blk_below (blk_below BKg2.out (by repeat (first | (with_reducible first | exact Below.refl _ _ | apply below_alloc | apply pw_below_drewN | apply below_drew1) | exact Below.refl _ _))) hb); have NEg2_g3 := Aside0.mk (show g2 ≠ g3 from by rw [hg]; exact Nat.ne_of_lt (blk_lt (blk_below BKg2.out (by repeat (first | (with_reducible first | exact Below.refl _ _ | apply below_alloc | apply pw_below_drewN | apply below_drew1) | exact Below.refl _ _))))); have NEg3_g2 := Aside0.mk (Ne.symm NEg2_g3.out); have BKg3 := Aside0.mk hbox; have GEg3 := Aside0.mk (show w.heap.size ≤ g3 from by rw [hg]; exact below_size (by repeat (first | (with_reducible first | exact HB.out | apply below_alloc | apply pw_below_drewN | apply below_drew1 | refine below_set ?_ GEg1.out | refine below_set ?_ GEg2.out) | exact HB.out))); clear HB BKg1 BKg2; have HB := n_; clear n_ hb hbox hg; have BKg1 := m_g1; clear m_g1; have BKg2 := m_g2; clear m_g2); have yg3_0 : w_g3.cell? ⟨g3, 0, none⟩ = some (.int .i64 0) := (blk_cell BKg3.out 0).trans rfl; have fg3_0 := blk_frozen BKg3.out 0; have yg3_1 : w_g3.cell? ⟨g3, 1, none⟩ = some (.int .i64 0) := (blk_cell BKg3.out 1).trans rfl; have fg3_1 := blk_frozen BKg3.out 1)
      refine (impl_fraction.calls k _ _ n2 d2 o2 _ HK.out).mono ?_
      rintro e v2_ ⟨rfl, hb⟩
      have m_g2 := Aside0.mk (blk_below (g := g2) (o := .cells #[.int .i64 0, .int .i64 0] 24 (0, 0)) (by repeat (first | (with_reducible first | exact BKg2.out | refine blk_drewN ?_ _ | refine blk_drew ?_ | refine blk_alloc ?_ _ | refine blk_far ?_ NEg2_g3.out _))) hb)
      have n_ := Aside0.mk (below_step (by repeat (first | (with_reducible first | exact HB.out | apply below_alloc | apply pw_below_drewN | apply below_drew1 | refine below_set ?_ GEg3.out) | exact HB.out)) hb)
      clear HB hb BKg2 BKg1 BKg3
      have HB := n_
      clear n_
      have BKg2 := m_g2
      clear m_g2
      have yg2_0 : v2_.cell? ⟨g2, 0, none⟩ = some (.int .i64 0) := (blk_cell BKg2.out 0).trans rfl; have fg2_0 := blk_frozen BKg2.out 0; have yg2_1 : v2_.cell? ⟨g2, 1, none⟩ = some (.int .i64 0) := (blk_cell BKg2.out 1).trans rfl; have fg2_1 := blk_frozen BKg2.out 1
      go_wp2
      refine bodyPost_ret (results_ct rfl _ _ g2 24 #[.int .i64 n2, .int .i64 d2] (0, 0) _ rfl (by (with_reducible repeat (first | refine blk_drewN ?_ _ | refine blk_drew ?_ | refine blk_alloc ?_ _)); refine blk_put (cs := #[.int .i64 n2, .int .i64 0]) ?_ 1 _ rfl; (with_reducible repeat (first | refine blk_drewN ?_ _ | refine blk_drew ?_ | refine blk_alloc ?_ _)); refine blk_put (cs := #[.int .i64 0, .int .i64 0]) ?_ 0 _ rfl; (with_reducible repeat (first | refine blk_drewN ?_ _ | refine blk_drew ?_ | refine blk_alloc ?_ _)); exact BKg2.out) Try.underlying24 rfl (by kernel_rfl)) rfl ?_
      exact ⟨rfl, (by repeat (first | (with_reducible first | exact HB.out | apply below_alloc | apply pw_below_drewN | apply below_drew1 | refine below_set ?_ GEg1.out | refine below_set ?_ GEg2.out | refine below_set ?_ GEg3.out) | exact HB.out))⟩
  · rw [decide_eq_false c0_] at g0_
    have G1 := Aside0.mk g0_
    clear g0_
    have hfin : discA n d x y c = (0, 0, false) := by unfold discA; rw [if_neg (fun v => c0_ v)]
    rw [hfin]
    clear hfin
    go_enter Try.func16, Try.ntmps16
    go_wp2_with (first
      | (((with_reducible refine gate_dst (N := 4) rfl ?_); refine box_event ?hg (N := 4) ?hd (cs := #[.int .i64 n,.int .i64 d]) (t := 24) ?hr ?_; (case hd => rfl); (case hg => rfl); (case hr => first | (go_simp; done) | (go_simp; rfl))); intro g1 hg w_g1 hbox hb; have n_ := Aside0.mk (below_step (by repeat (first | (with_reducible first | exact HB.out | apply below_alloc | apply pw_below_drewN | apply below_drew1) | exact HB.out)) hb); have BKg1 := Aside0.mk hbox; have GEg1 := Aside0.mk (show w.heap.size ≤ g1 from by rw [hg]; exact below_size (by repeat (first | (with_reducible first | exact HB.out | apply below_alloc | apply pw_below_drewN | apply below_drew1) | exact HB.out))); clear HB ; have HB := n_; clear n_ hb hbox hg)
      | ((((with_reducible refine gate_dst (N := 8) rfl ?_); refine box_event ?hg (N := 8) ?hd (cs := #[.int .i64 0,.int .i64 0]) (t := 24) ?hr ?_; (case hd => rfl); (case hg => rfl); (case hr => first | (go_simp; done) | (go_simp; rfl))); intro g2 hg w_g2 hbox hb; have n_ := Aside0.mk (below_step (by repeat (first | (with_reducible first | exact HB.out | apply below_alloc | apply pw_below_drewN | apply below_drew1 | refine below_set ?_ GEg1.out) | exact HB.out)) hb); have m_g1 := Aside0.mk (blk_below (blk_below BKg1.out (by repeat (first | (with_reducible first | exact Below.refl _ _ | apply below_alloc | apply pw_below_drewN | apply below_drew1) | exact Below.refl _ _))) hb); have NEg1_g2 := Aside0.mk (show g1 ≠ g2 from by rw [hg]; exact Nat.ne_of_lt (blk_lt (blk_below BKg1.out (by repeat (first | (with_reducible first | exact Below.refl _ _ | apply below_alloc | apply pw_below_drewN | apply below_drew1) | exact Below.refl _ _))))); have NEg2_g1 := Aside0.mk (Ne.symm NEg1_g2.out); have BKg2 := Aside0.mk hbox; have GEg2 := Aside0.mk (show w.heap.size ≤ g2 from by rw [hg]; exact below_size (by repeat (first | (with_reducible first | exact HB.out | apply below_alloc | apply pw_below_drewN | apply below_drew1 | refine below_set ?_ GEg1.out) | exact HB.out))); clear HB BKg1; have HB := n_; clear n_ hb hbox hg; have BKg1 := m_g1; clear m_g1); have yg1_0 : w_g2.cell? ⟨g1, 0, none⟩ = some (.int .i64 n) := (blk_cell BKg1.out 0).trans rfl; have fg1_0 := blk_frozen BKg1.out 0; have yg1_1 : w_g2.cell? ⟨g1, 1, none⟩ = some (.int .i64 d) := (blk_cell BKg1.out 1).trans rfl; have fg1_1 := blk_frozen BKg1.out 1)
      )
    clear yg1_0 fg1_0 yg1_1 fg1_1
    refine (impl_isRate.calls kr n d false _ G1.out).mono ?_
    rintro e w1_ ⟨rfl, hb⟩
    have n_ := Aside0.mk (blk_below (blk_below BKg1.out (by repeat (first | (with_reducible first | exact Below.refl _ _ | apply below_alloc | apply pw_below_drewN | apply below_drew1) | exact Below.refl _ _))) hb); clear BKg1; have BKg1 := n_; clear n_; have n_ := Aside0.mk (blk_below (blk_below BKg2.out (by repeat (first | (with_reducible first | exact Below.refl _ _ | apply below_alloc | apply pw_below_drewN | apply below_drew1) | exact Below.refl _ _))) hb); clear BKg2; have BKg2 := n_; clear n_; have n_ := Aside0.mk (below_step (by repeat (first | (with_reducible first | exact HB.out | apply below_alloc | apply pw_below_drewN | apply below_drew1) | exact HB.out)) hb); clear HB; have HB := n_; clear n_ hb
    have yg2_0 : w1_.cell? ⟨g2, 0, none⟩ = some (.int .i64 0) := (blk_cell BKg2.out 0).trans rfl; have fg2_0 := blk_frozen BKg2.out 0; have yg2_1 : w1_.cell? ⟨g2, 1, none⟩ = some (.int .i64 0) := (blk_cell BKg2.out 1).trans rfl; have fg2_1 := blk_frozen BKg2.out 1
    go_wp2
    refine bodyPost_ret (results_ct rfl _ _ g2 24 #[.int .i64 0, .int .i64 0] (0, 0) _ rfl (by (with_reducible repeat (first | refine blk_drewN ?_ _ | refine blk_drew ?_ | refine blk_alloc ?_ _)); refine blk_put (cs := #[.int .i64 0, .int .i64 0]) ?_ 1 _ rfl; (with_reducible repeat (first | refine blk_drewN ?_ _ | refine blk_drew ?_ | refine blk_alloc ?_ _)); refine blk_put (cs := #[.int .i64 0, .int .i64 0]) ?_ 0 _ rfl; (with_reducible repeat (first | refine blk_drewN ?_ _ | refine blk_drew ?_ | refine blk_alloc ?_ _)); exact BKg2.out) Try.underlying24 rfl (by kernel_rfl)) rfl ?_
    exact ⟨rfl, (by repeat (first | (with_reducible first | exact HB.out | apply below_alloc | apply pw_below_drewN | apply below_drew1 | refine below_set ?_ GEg1.out | refine below_set ?_ GEg2.out) | exact HB.out))⟩
def Lcf_ren : Go.Shelf.Ren := ⟨fun | 6 => 112 | 8 => 71 | n => n, fun | 22 => 35 | 23 => 3 | 25 => 81 | n => n, fun | n => n⟩
theorem Lcf : Go.Proofs.SlLaysH.n8 Try.prog Lcf_ren := {
  mixed := by kernel_rfl,
  f6 := ⟨Try.f112.name, by decide, Try.func112.trans (congrArg some (by kernel_rfl))⟩,
  f8 := ⟨Try.f71.name, by decide, Try.func71.trans (congrArg some (by kernel_rfl))⟩,
  t0 := Try.underlying0,
  a0 := Try.isAgg0,
  z0 := Try.sizeOf0,
  v0 := Try.zeroValue0,
  t3 := Try.underlying3,
  a3 := Try.isAgg3,
  z3 := Try.sizeOf3,
  v3 := Try.zeroValue3,
  t4 := Try.underlying4,
  a4 := Try.isAgg4,
  z4 := Try.sizeOf4,
  v4 := Try.zeroValue4,
  t22 := Try.underlying35,
  a22 := Try.isAgg35,
  z22 := Try.sizeOf35,
  v22 := Try.zeroValue35,
  a23 := Try.isAgg3,
  z23 := Try.sizeOf3,
  t25 := Try.underlying81,
  a25 := Try.isAgg81,
  z25 := Try.sizeOf81,
  v25 := Try.zeroValue81 }

/-- slices.ContainsFunc over a row of whole numbers, a predicate given. -/
theorem containsFunc_c (g : Nat) (eg : ∀ args w, (callFunc g args).run Try.prog w = .ok (.enter g args) w) (lb : Array Value) (p : Int → Bool) (A : Option Addr) (c : Nat) (xs : List Int) (w : World) (hp : PredAt Try.prog g lb (Value.int .i64) p w) (hr : (Kd.int .i64).C w A xs.length xs) (ha : 0 < xs.length → ∃ b, A = some ⟨b, 0, none⟩) :
    Calls Try.prog 71 #[.slice A xs.length c, .func (.func g) #[] lb] w fun e w' => e = .returned (.bool (xs.any p)) ∧ ∃ q, w' = w.drewN q := by
  by_cases hp0 : 0 < xs.length
  · obtain ⟨b, rfl⟩ := ha hp0
    have h := AnyE.slices_ContainsFunc Lcf (Value.int .i64) p g lb eg b 0 xs.length c xs w hp (Nat.le_refl _) (Kd.C_max hr) (cellsOf hr)
    rw [List.take_length] at h
    exact h
  · obtain rfl : xs = [] := List.length_eq_zero_iff.mp (by omega)
    exact (AnyE.slices_ContainsFunc_empty Lcf A c _ w).mono fun e w' ⟨he, hw⟩ => ⟨he, 0, hw⟩
def amsF (xs : List Int) : Option Bool := some (decide (okAm xs))
theorem amsF_eq (xs : List Int) : amsF xs = some (decide (okAm xs)) := rfl
def amB (x : Int) : Bool := decide (-1000000000 ≤ x ∧ x ≤ 1000000000)
theorem amPred (w : World) : PredAt Try.prog 111 #[] (Value.int .i64) (fun x => !amB x) w := fun W x _ => by
  unfold FnGives
  have h : impl_isAmount.f x = some (amB x) := isAmount_eq x
  go_enter Try.func111, Try.ntmps111
  go_wp2_with (go_at_call 68; refine (impl_isAmount.calls x _ _ h).mono ?_; rintro e w' ⟨rfl, ⟨n, rfl⟩⟩)
  go_ret
  exact ⟨rfl, n, rfl⟩
set_option maxHeartbeats 8000000 in
set_option maxRecDepth 100000 in
theorem areAms_c (A0 : Option Addr) (c0 : Nat) (xs : List Int) (v : Bool) (hv : amsF xs = some v) (w : World) (hr0 : (Kd.int .i64).C w A0 xs.length xs) (ha0 : 0 < xs.length → ∃ b, A0 = some ⟨b, 0, none⟩) :
    Calls Try.prog 70 #[.slice A0 xs.length c0] w fun e w' => e = .returned (.bool v) ∧ Below w.heap.size w w' := by
  have EG := Aside0.mk (show ∀ args w, (callFunc 111 args).run Try.prog w = .ok (.enter 111 args) w from enters_of Try.func111 (by kernel_rfl) rfl)
  rw [amsF_eq, Option.some.injEq] at hv
  have HR0 := Aside0.mk hr0
  have HA0 := Aside0.mk ha0
  by_cases hl : xs.length ≤ 20
  · have hq : decide (okAm xs) = !(xs.any (fun x => !amB x)) := okAm_any hl
    rw [hv] at hq
    obtain ⟨q, hqe⟩ : ∃ q, q = xs.any (fun x => !amB x) := ⟨_, rfl⟩
    rw [← hqe] at hq
    have HQ := Aside0.mk hqe
    have HV := Aside0.mk hq
    have cl : decide ((xs.length : Int) ≤ 20) = true := decide_eq_true (by omega)
    clear hq hqe hv hr0 ha0
    go_enter Try.func70, Try.ntmps70
    go_wp2_with (go_at_call 71; refine (containsFunc_c 111 EG.out #[] (fun x => !amB x) _ _ xs _ (amPred _) HR0.out HA0.out).mono ?_; rw [← HQ.out]; rintro e w2 ⟨rfl, ⟨n, rfl⟩⟩)
    go_ret
    exact ⟨by rw [HV.out]; rfl, (by repeat (first | (with_reducible first | exact (Below.refl _ _) | apply below_alloc | apply pw_below_drewN | apply below_drew1) | exact (Below.refl _ _)))⟩
  · obtain rfl : v = false := by rw [← hv]; exact decide_eq_false (fun g => hl g.1)
    have cl : decide ((xs.length : Int) ≤ 20) = false := decide_eq_false (by omega)
    clear hv hr0 ha0
    go_enter Try.func70, Try.ntmps70
    go_wp2
    go_ret
    exact ⟨rfl, (by repeat (first | (with_reducible first | exact (Below.refl _ _) | apply below_alloc | apply pw_below_drewN | apply below_drew1) | exact (Below.refl _ _)))⟩
set_option maxHeartbeats 8000000 in
set_option maxRecDepth 100000 in
theorem dayPred (g8 : Nat) (t0 : Int) (w : World) (hk : w.heap[g8]? = some (.cells #[.int .i64 t0] 3 (0, 0))) : PredAt Try.prog 72 #[.pointer (some ⟨g8, 0, none⟩)] (Value.int .i64) (fun y => !okDay t0 y) w := fun W y hb => by
  unfold FnGives
  have h := isDay_eq y
  have y0 : W.cell? ⟨g8, 0, none⟩ = some (.int .i64 t0) := (blk_cell (blk_below hk hb) 0).trans rfl
  have HK := Aside0.mk (blk_below hk hb)
  by_cases c : 0 ≤ y ∧ y ≤ 36524
  · rw [decide_eq_true c] at h
    have H := Aside0.mk h
    by_cases c2 : t0 ≤ y
    · have cb : decide (y < t0) = false := decide_eq_false (by omega)
      have HF := Aside0.mk (show okDay t0 y = true from decide_eq_true ⟨c, c2⟩)
      clear h
      go_enter Try.func72, Try.ntmps72
      go_wp2_with (go_at_call 64; refine (impl_isDay.calls y true _ H.out).mono ?_; rintro e w' ⟨rfl, ⟨n, rfl⟩⟩; have y1 : (W.drewN n).cell? ⟨g8, 0, none⟩ = some (.int .i64 t0) := y0)
      go_ret
      exact ⟨by rw [HF.out]; rfl, n, rfl⟩
    · have cb : decide (y < t0) = true := decide_eq_true (by omega)
      have HF := Aside0.mk (show okDay t0 y = false from decide_eq_false (fun g => c2 g.2))
      clear h
      go_enter Try.func72, Try.ntmps72
      go_wp2_with (go_at_call 64; refine (impl_isDay.calls y true _ H.out).mono ?_; rintro e w' ⟨rfl, ⟨n, rfl⟩⟩; have y1 : (W.drewN n).cell? ⟨g8, 0, none⟩ = some (.int .i64 t0) := y0)
      go_ret
      exact ⟨by rw [HF.out]; rfl, n, rfl⟩
  · rw [decide_eq_false c] at h
    have H := Aside0.mk h
    have HF := Aside0.mk (show okDay t0 y = false from decide_eq_false (fun g => c g.1))
    clear h
    go_enter Try.func72, Try.ntmps72
    go_wp2_with (go_at_call 64; refine (impl_isDay.calls y false _ H.out).mono ?_; rintro e w' ⟨rfl, ⟨n, rfl⟩⟩)
    go_ret
    exact ⟨by rw [HF.out]; rfl, n, rfl⟩
set_option maxHeartbeats 8000000 in
set_option maxRecDepth 100000 in
theorem presI_c (A0 : Option Addr) (c0 : Nat) (xs : List Int) (A1 : Option Addr) (c1 : Nat) (ys : List Int) (t0 n d c mode : Int) (hn : xs.length ≤ 1048576) (w : World) (hr0 : (Kd.int .i64).C w A0 xs.length xs) (hc0 : xs.length ≤ c0) (ha0 : 0 < xs.length → ∃ b, A0 = some ⟨b, 0, none⟩) (hr1 : (Kd.int .i64).C w A1 ys.length ys) (ha1 : 0 < ys.length → ∃ b, A1 = some ⟨b, 0, none⟩) :
    Calls Try.prog 27 #[.slice A0 xs.length c0, .slice A1 ys.length c1, .int .i64 t0, .agg #[.int .i64 n, .int .i64 d], .int .i64 c, .int .i64 mode] w fun e w' => e = .returned (.tuple #[.int .i64 (presA xs ys t0 n d c mode).1, .bool (presA xs ys t0 n d c mode).2]) ∧ Below w.heap.size w w' := by
  have HB := Aside0.mk (Below.refl w.heap.size w)
  have HR0 := Aside0.mk hr0
  have HC0 := Aside0.mk hc0
  have HA0 := Aside0.mk ha0
  have HR1 := Aside0.mk hr1
  have HA1 := Aside0.mk ha1
  clear hr0 hc0 ha0 hr1 ha1
  obtain ⟨kr, hr⟩ := roundsOf (implInterest_ev n d c mode)
  have g0_ := amsF_eq xs
  by_cases c0_ : okAm xs
  · rw [decide_eq_true c0_] at g0_
    have G1 := Aside0.mk g0_
    clear g0_
    by_cases c1_ : ys.length = xs.length
    · have cb1_ : decide (ys.length = xs.length) = true := decide_eq_true c1_
      have g2_ := isDay_eq t0
      by_cases c2_ : 0 ≤ t0 ∧ t0 ≤ 36524
      · rw [decide_eq_true c2_] at g2_
        have G3 := Aside0.mk g2_
        clear g2_
        have g3_ := hr
        by_cases c3_ : intOk n d c mode
        · rw [decide_eq_true c3_] at g3_
          have G4 := Aside0.mk g3_
          clear g3_
          have hfin : presA xs ys t0 n d c mode = pvL n d t0 c mode xs ys 0 := by unfold presA; rw [if_pos ⟨c0_, c1_, c2_, c3_⟩]
          rw [hfin]
          have hlq : ((ys.length : Int) = (xs.length : Int)) := by omega
          obtain ⟨FIN, hFIN⟩ : ∃ F, F = pvL n d t0 c mode xs ys 0 := ⟨_, rfl⟩
          rw [← hFIN]
          have HFIN := Aside0.mk (show pvL n d t0 c mode (xs.drop 0) (ys.drop 0) 0 = FIN from hFIN.symm)
          have HLQ := Aside0.mk c1_
          have h20 : xs.length ≤ 20 := c0_.1
          have hy20 : ys.length ≤ 20 := by omega
          clear hfin hFIN c1_ hn hr
          have EG := Aside0.mk (show ∀ args w, (callFunc 72 args).run Try.prog w = .ok (.enter 72 args) w from enters_of Try.func72 (by kernel_rfl) rfl)
          obtain ⟨q, hqe⟩ : ∃ q, q = ys.any (fun y => !okDay t0 y) := ⟨_, rfl⟩
          have HQ := Aside0.mk hqe
          clear hqe
          cases q with
          | true =>
            have HFZ := Aside0.mk (show FIN = (0, false) from by rw [← HFIN.out]; exact pvL_bad xs ys 0 HLQ.out HQ.out.symm)
            go_enter Try.func27, Try.ntmps27
            go_wp2_with (first
              | (((with_reducible refine gate_dst (N := 8) rfl ?_); refine box_event ?hg (N := 8) ?hd (cs := #[.int .i64 t0]) (t := 3) ?hr ?_; (case hd => rfl); (case hg => rfl); (case hr => first | (go_simp; done) | (go_simp; rfl))); intro g8 hg w_g8 hbox hb; have n_ := Aside0.mk (below_step (by repeat (first | (with_reducible first | exact HB.out | apply below_alloc | apply pw_below_drewN | apply below_drew1) | exact HB.out)) hb); have BKg8 := Aside0.mk hbox; have GEg8 := Aside0.mk (show w.heap.size ≤ g8 from by rw [hg]; exact below_size (by repeat (first | (with_reducible first | exact HB.out | apply below_alloc | apply pw_below_drewN | apply below_drew1) | exact HB.out))); clear HB ; have HB := n_; clear n_ hb hbox hg)
              | (((with_reducible refine gate_dst (N := 9) rfl ?_); refine box_event ?hg (N := 9) ?hd (cs := #[.int .i64 n,.int .i64 d]) (t := 24) ?hr ?_; (case hd => rfl); (case hg => rfl); (case hr => first | (go_simp; done) | (go_simp; rfl))); intro g1 hg w_g1 hbox hb; have n_ := Aside0.mk (below_step (by repeat (first | (with_reducible first | exact HB.out | apply below_alloc | apply pw_below_drewN | apply below_drew1 | refine below_set ?_ GEg8.out) | exact HB.out)) hb); have m_g8 := Aside0.mk (blk_below (blk_below BKg8.out (by repeat (first | (with_reducible first | exact Below.refl _ _ | apply below_alloc | apply pw_below_drewN | apply below_drew1) | exact Below.refl _ _))) hb); have NEg8_g1 := Aside0.mk (show g8 ≠ g1 from by rw [hg]; exact Nat.ne_of_lt (blk_lt (blk_below BKg8.out (by repeat (first | (with_reducible first | exact Below.refl _ _ | apply below_alloc | apply pw_below_drewN | apply below_drew1) | exact Below.refl _ _))))); have NEg1_g8 := Aside0.mk (Ne.symm NEg8_g1.out); have BKg1 := Aside0.mk hbox; have GEg1 := Aside0.mk (show w.heap.size ≤ g1 from by rw [hg]; exact below_size (by repeat (first | (with_reducible first | exact HB.out | apply below_alloc | apply pw_below_drewN | apply below_drew1 | refine below_set ?_ GEg8.out) | exact HB.out))); clear HB BKg8; have HB := n_; clear n_ hb hbox hg; have BKg8 := m_g8; clear m_g8)
              )
            refine (areAms_c _ _ xs true G1.out _ (by repeat (first | exact (Kd.C_below HR0.out HB.out) | (with_reducible refine Kd.C_alloc ?_ _) | (with_reducible refine Kd.C_drewN ?_ _) | (with_reducible refine Kd.C_drew ?_))) HA0.out).mono ?_
            rintro e w1_ ⟨rfl, hb⟩
            have n_ := Aside0.mk (blk_below (blk_below BKg8.out (by repeat (first | (with_reducible first | exact Below.refl _ _ | apply below_alloc | apply pw_below_drewN | apply below_drew1) | exact Below.refl _ _))) hb); clear BKg8; have BKg8 := n_; clear n_; have n_ := Aside0.mk (blk_below (blk_below BKg1.out (by repeat (first | (with_reducible first | exact Below.refl _ _ | apply below_alloc | apply pw_below_drewN | apply below_drew1) | exact Below.refl _ _))) hb); clear BKg1; have BKg1 := n_; clear n_; have n_ := Aside0.mk (below_step (by repeat (first | (with_reducible first | exact HB.out | apply below_alloc | apply pw_below_drewN | apply below_drew1) | exact HB.out)) hb); clear HB; have HB := n_; clear n_ hb
            have yg8_0 : w1_.cell? ⟨g8, 0, none⟩ = some (.int .i64 t0) := (blk_cell BKg8.out 0).trans rfl; have fg8_0 := blk_frozen BKg8.out 0
            go_wp2_with fail
            clear yg8_0 fg8_0
            refine (impl_isDay.calls t0 true _ G3.out).mono ?_
            rintro e w2_ ⟨rfl, hb0⟩
            have hb := Drawn0.below hb0
            clear hb0
            have n_ := Aside0.mk (blk_below (blk_below BKg8.out (by repeat (first | (with_reducible first | exact Below.refl _ _ | apply below_alloc | apply pw_below_drewN | apply below_drew1) | exact Below.refl _ _))) hb); clear BKg8; have BKg8 := n_; clear n_; have n_ := Aside0.mk (blk_below (blk_below BKg1.out (by repeat (first | (with_reducible first | exact Below.refl _ _ | apply below_alloc | apply pw_below_drewN | apply below_drew1) | exact Below.refl _ _))) hb); clear BKg1; have BKg1 := n_; clear n_; have n_ := Aside0.mk (below_step (by repeat (first | (with_reducible first | exact HB.out | apply below_alloc | apply pw_below_drewN | apply below_drew1) | exact HB.out)) hb); clear HB; have HB := n_; clear n_ hb
            have yg1_0 : w2_.cell? ⟨g1, 0, none⟩ = some (.int .i64 n) := (blk_cell BKg1.out 0).trans rfl; have fg1_0 := blk_frozen BKg1.out 0; have yg1_1 : w2_.cell? ⟨g1, 1, none⟩ = some (.int .i64 d) := (blk_cell BKg1.out 1).trans rfl; have fg1_1 := blk_frozen BKg1.out 1
            go_wp2_with fail
            clear yg1_0 fg1_0 yg1_1 fg1_1
            refine (impl_isInterest.calls kr n d c mode true _ G4.out).mono ?_
            rintro e w3_ ⟨rfl, hb⟩
            have n_ := Aside0.mk (blk_below (blk_below BKg8.out (by repeat (first | (with_reducible first | exact Below.refl _ _ | apply below_alloc | apply pw_below_drewN | apply below_drew1) | exact Below.refl _ _))) hb); clear BKg8; have BKg8 := n_; clear n_; have n_ := Aside0.mk (blk_below (blk_below BKg1.out (by repeat (first | (with_reducible first | exact Below.refl _ _ | apply below_alloc | apply pw_below_drewN | apply below_drew1) | exact Below.refl _ _))) hb); clear BKg1; have BKg1 := n_; clear n_; have n_ := Aside0.mk (below_step (by repeat (first | (with_reducible first | exact HB.out | apply below_alloc | apply pw_below_drewN | apply below_drew1) | exact HB.out)) hb); clear HB; have HB := n_; clear n_ hb
            go_wp2_with fail
            refine (containsFunc_c 72 EG.out #[.pointer (some ⟨g8, 0, none⟩)] (fun y => !okDay t0 y) _ _ ys _ (dayPred g8 t0 _ (by (with_reducible repeat (first | refine blk_drewN ?_ _ | refine blk_drew ?_ | refine blk_alloc ?_ _)); exact BKg8.out)) (by repeat (first | exact (Kd.C_below HR1.out HB.out) | (with_reducible refine Kd.C_alloc ?_ _) | (with_reducible refine Kd.C_drewN ?_ _) | (with_reducible refine Kd.C_drew ?_))) HA1.out).mono ?_
            rw [← HQ.out]
            rintro e w8_ ⟨rfl, ⟨q_, rfl⟩⟩
            go_wp2
            go_ret2
            exact ⟨by rw [HFZ.out]; rfl, (by repeat (first | (with_reducible first | exact HB.out | apply below_alloc | apply pw_below_drewN | apply below_drew1) | exact HB.out))⟩
          | false =>
            go_enter Try.func27, Try.ntmps27
            go_wp2_with (first
              | (((with_reducible refine gate_dst (N := 8) rfl ?_); refine box_event ?hg (N := 8) ?hd (cs := #[.int .i64 t0]) (t := 3) ?hr ?_; (case hd => rfl); (case hg => rfl); (case hr => first | (go_simp; done) | (go_simp; rfl))); intro g8 hg w_g8 hbox hb; have n_ := Aside0.mk (below_step (by repeat (first | (with_reducible first | exact HB.out | apply below_alloc | apply pw_below_drewN | apply below_drew1) | exact HB.out)) hb); have BKg8 := Aside0.mk hbox; have GEg8 := Aside0.mk (show w.heap.size ≤ g8 from by rw [hg]; exact below_size (by repeat (first | (with_reducible first | exact HB.out | apply below_alloc | apply pw_below_drewN | apply below_drew1) | exact HB.out))); clear HB ; have HB := n_; clear n_ hb hbox hg)
              | (((with_reducible refine gate_dst (N := 9) rfl ?_); refine box_event ?hg (N := 9) ?hd (cs := #[.int .i64 n,.int .i64 d]) (t := 24) ?hr ?_; (case hd => rfl); (case hg => rfl); (case hr => first | (go_simp; done) | (go_simp; rfl))); intro g1 hg w_g1 hbox hb; have n_ := Aside0.mk (below_step (by repeat (first | (with_reducible first | exact HB.out | apply below_alloc | apply pw_below_drewN | apply below_drew1 | refine below_set ?_ GEg8.out) | exact HB.out)) hb); have m_g8 := Aside0.mk (blk_below (blk_below BKg8.out (by repeat (first | (with_reducible first | exact Below.refl _ _ | apply below_alloc | apply pw_below_drewN | apply below_drew1) | exact Below.refl _ _))) hb); have NEg8_g1 := Aside0.mk (show g8 ≠ g1 from by rw [hg]; exact Nat.ne_of_lt (blk_lt (blk_below BKg8.out (by repeat (first | (with_reducible first | exact Below.refl _ _ | apply below_alloc | apply pw_below_drewN | apply below_drew1) | exact Below.refl _ _))))); have NEg1_g8 := Aside0.mk (Ne.symm NEg8_g1.out); have BKg1 := Aside0.mk hbox; have GEg1 := Aside0.mk (show w.heap.size ≤ g1 from by rw [hg]; exact below_size (by repeat (first | (with_reducible first | exact HB.out | apply below_alloc | apply pw_below_drewN | apply below_drew1 | refine below_set ?_ GEg8.out) | exact HB.out))); clear HB BKg8; have HB := n_; clear n_ hb hbox hg; have BKg8 := m_g8; clear m_g8)
              )
            refine (areAms_c _ _ xs true G1.out _ (by repeat (first | exact (Kd.C_below HR0.out HB.out) | (with_reducible refine Kd.C_alloc ?_ _) | (with_reducible refine Kd.C_drewN ?_ _) | (with_reducible refine Kd.C_drew ?_))) HA0.out).mono ?_
            rintro e w1_ ⟨rfl, hb⟩
            have n_ := Aside0.mk (blk_below (blk_below BKg8.out (by repeat (first | (with_reducible first | exact Below.refl _ _ | apply below_alloc | apply pw_below_drewN | apply below_drew1) | exact Below.refl _ _))) hb); clear BKg8; have BKg8 := n_; clear n_; have n_ := Aside0.mk (blk_below (blk_below BKg1.out (by repeat (first | (with_reducible first | exact Below.refl _ _ | apply below_alloc | apply pw_below_drewN | apply below_drew1) | exact Below.refl _ _))) hb); clear BKg1; have BKg1 := n_; clear n_; have n_ := Aside0.mk (below_step (by repeat (first | (with_reducible first | exact HB.out | apply below_alloc | apply pw_below_drewN | apply below_drew1) | exact HB.out)) hb); clear HB; have HB := n_; clear n_ hb
            have yg8_0 : w1_.cell? ⟨g8, 0, none⟩ = some (.int .i64 t0) := (blk_cell BKg8.out 0).trans rfl; have fg8_0 := blk_frozen BKg8.out 0
            go_wp2_with fail
            clear yg8_0 fg8_0
            refine (impl_isDay.calls t0 true _ G3.out).mono ?_
            rintro e w2_ ⟨rfl, hb0⟩
            have hb := Drawn0.below hb0
            clear hb0
            have n_ := Aside0.mk (blk_below (blk_below BKg8.out (by repeat (first | (with_reducible first | exact Below.refl _ _ | apply below_alloc | apply pw_below_drewN | apply below_drew1) | exact Below.refl _ _))) hb); clear BKg8; have BKg8 := n_; clear n_; have n_ := Aside0.mk (blk_below (blk_below BKg1.out (by repeat (first | (with_reducible first | exact Below.refl _ _ | apply below_alloc | apply pw_below_drewN | apply below_drew1) | exact Below.refl _ _))) hb); clear BKg1; have BKg1 := n_; clear n_; have n_ := Aside0.mk (below_step (by repeat (first | (with_reducible first | exact HB.out | apply below_alloc | apply pw_below_drewN | apply below_drew1) | exact HB.out)) hb); clear HB; have HB := n_; clear n_ hb
            have yg1_0 : w2_.cell? ⟨g1, 0, none⟩ = some (.int .i64 n) := (blk_cell BKg1.out 0).trans rfl; have fg1_0 := blk_frozen BKg1.out 0; have yg1_1 : w2_.cell? ⟨g1, 1, none⟩ = some (.int .i64 d) := (blk_cell BKg1.out 1).trans rfl; have fg1_1 := blk_frozen BKg1.out 1
            go_wp2_with fail
            clear yg1_0 fg1_0 yg1_1 fg1_1
            refine (impl_isInterest.calls kr n d c mode true _ G4.out).mono ?_
            rintro e w3_ ⟨rfl, hb⟩
            have n_ := Aside0.mk (blk_below (blk_below BKg8.out (by repeat (first | (with_reducible first | exact Below.refl _ _ | apply below_alloc | apply pw_below_drewN | apply below_drew1) | exact Below.refl _ _))) hb); clear BKg8; have BKg8 := n_; clear n_; have n_ := Aside0.mk (blk_below (blk_below BKg1.out (by repeat (first | (with_reducible first | exact Below.refl _ _ | apply below_alloc | apply pw_below_drewN | apply below_drew1) | exact Below.refl _ _))) hb); clear BKg1; have BKg1 := n_; clear n_; have n_ := Aside0.mk (below_step (by repeat (first | (with_reducible first | exact HB.out | apply below_alloc | apply pw_below_drewN | apply below_drew1) | exact HB.out)) hb); clear HB; have HB := n_; clear n_ hb
            go_wp2_with fail
            refine (containsFunc_c 72 EG.out #[.pointer (some ⟨g8, 0, none⟩)] (fun y => !okDay t0 y) _ _ ys _ (dayPred g8 t0 _ (by (with_reducible repeat (first | refine blk_drewN ?_ _ | refine blk_drew ?_ | refine blk_alloc ?_ _)); exact BKg8.out)) (by repeat (first | exact (Kd.C_below HR1.out HB.out) | (with_reducible refine Kd.C_alloc ?_ _) | (with_reducible refine Kd.C_drewN ?_ _) | (with_reducible refine Kd.C_drew ?_))) HA1.out).mono ?_
            rw [← HQ.out]
            rintro e w8_ ⟨rfl, ⟨q_, rfl⟩⟩
            go_wp2
            go_loopg [14, 46] xs.length (fun kq v14 v15 wr => ∃ (i : Nat) (s : Int), v14 = .int .i64 s ∧ v15 = .int .i64 i ∧ Aside0 (i + kq = xs.length) ∧ Aside0 (-1000000000 * (i : Int) ≤ s ∧ s ≤ 1000000000 * (i : Int)) ∧ Aside0 (pvL n d t0 c mode (xs.drop i) (ys.drop i) s = FIN) ∧ Aside0 (wr.heap[g1]? = some (.cells #[.int .i64 n, .int .i64 d] 24 (0, 0))) ∧ Aside0 (wr.heap[g8]? = some (.cells #[.int .i64 t0] 3 (0, 0))) ∧ Aside0 (Below w.heap.size w wr))
            case atStart => exact ⟨0, 0, rfl, rfl, ⟨Nat.zero_add _⟩, ⟨by omega, by omega⟩, HFIN, ⟨(by (with_reducible repeat (first | refine blk_drewN ?_ _ | refine blk_drew ?_ | refine blk_alloc ?_ _)); exact BKg1.out)⟩, ⟨(by (with_reducible repeat (first | refine blk_drewN ?_ _ | refine blk_drew ?_ | refine blk_alloc ?_ _)); exact BKg8.out)⟩, ⟨(by repeat (first | (with_reducible first | exact HB.out | apply below_alloc | apply pw_below_drewN | apply below_drew1) | exact HB.out))⟩⟩
            case round =>
              clear HFIN HB BKg1 BKg8
              obtain ⟨i, s, rfl, rfl, HI, HS, HFIN, BKg1, BKg8, HB⟩ := hrel
              by_cases hil : i < xs.length
              · have ci : decide (i < xs.length) = true := decide_eq_true hil
                have hiy : i < ys.length := by have := HLQ.out; omega
                obtain ⟨b0, e0⟩ := HA0.out (by omega)
                subst e0
                obtain ⟨b1, e1⟩ := HA1.out (by omega)
                subst e1
                have hcx := cellsOfD HR0.out i hil
                have hcy := cellsOfD HR1.out i hiy
                rw [Nat.zero_add] at hcx hcy
                obtain ⟨x, hx⟩ : ∃ x, x = xs.getD i 0 := ⟨_, rfl⟩
                obtain ⟨y, hy⟩ : ∃ y, y = ys.getD i 0 := ⟨_, rfl⟩
                rw [← hx] at hcx
                rw [← hy] at hcy
                have HCX := Aside0.mk hcx
                have HCY := Aside0.mk hcy
                have HBX := Aside0.mk (World.block_lt_of_cell? w _ hcx)
                have HBY := Aside0.mk (World.block_lt_of_cell? w _ hcy)
                obtain ⟨DF, hDF⟩ : ∃ F, F = discA n d t0 y c := ⟨_, rfl⟩
                obtain ⟨n1, d1, ok⟩ := DF
                have HDF := Aside0.mk hDF.symm
                obtain ⟨SC, hSC⟩ : ∃ F, F = scaleA x n1 d1 mode := ⟨_, rfl⟩
                obtain ⟨k, hk⟩ := roundsOf (implScale_ev x n1 d1 mode)
                have hsb := scale_bd x n1 d1 mode
                rw [← hSC] at hk hsb
                obtain ⟨sv, so⟩ := SC
                simp only at hsb
                have HK := Aside0.mk hk
                have hst := pvL_at (n := n) (d := d) (t0 := t0) (c := c) (mode := mode) hil HLQ.out s (show discA n d t0 (ys.getD i 0) c = (n1, d1, ok) from by rw [← hy]; exact hDF.symm) (show scaleA (xs.getD i 0) n1 d1 mode = (sv, so) from by rw [← hx]; exact hSC.symm)
                rw [HFIN.out] at hst
                have HST := Aside0.mk hst
                have hs1 := HS.out.1
                have hs2 := HS.out.2
                clear hst hk hSC hDF hx hy
                replace hcx := (HB.out.cell HBX.out).trans hcx
                replace hcy := (HB.out.cell HBY.out).trans hcy
                have hi20 : i < 20 := by omega
                go_upto_region 9 with (fail)
                clear hcx hcy
                have ha0_ : ∀ W : World, (W.alloc (.cells #[.int .i64 0, .int .i64 0] 24 (0, 0))).cell? ⟨W.heap.size, 0, none⟩ = some (.int .i64 0) := fun W => (blk_cell (blk_new W _) 0).trans rfl
                have ha1_ : ∀ W : World, (W.alloc (.cells #[.int .i64 0, .int .i64 0] 24 (0, 0))).cell? ⟨W.heap.size, 1, none⟩ = some (.int .i64 0) := fun W => (blk_cell (blk_new W _) 1).trans rfl
                have ha2_ : ∀ (W : World) (j : Nat), (W.alloc (.cells #[.int .i64 0, .int .i64 0] 24 (0, 0))).frozen? ⟨W.heap.size, j, none⟩ = false := fun W j => blk_frozen (blk_new W _) j
                have ng_g1 : g1 ≠ wr.heap.size := Nat.ne_of_lt (blk_lt BKg1.out)
                have nh_g1 := Ne.symm ng_g1
                have ng_g8 : g8 ≠ wr.heap.size := Nat.ne_of_lt (blk_lt BKg8.out)
                have nh_g8 := Ne.symm ng_g8
                have ng_b1 : b1 ≠ wr.heap.size := Nat.ne_of_lt (Nat.lt_of_lt_of_le HBY.out (below_size HB.out))
                have nh_b1 := Ne.symm ng_b1
                have hs_g1_0 : ∀ O, (wr.alloc O).cell? ⟨g1, 0, none⟩ = some (.int .i64 n) := fun O => (blk_cell (blk_alloc BKg1.out O) 0).trans rfl
                have hr_g1_0 : wr.cell? ⟨g1, 0, none⟩ = some (.int .i64 n) := (blk_cell BKg1.out 0).trans rfl
                have hs_g1_1 : ∀ O, (wr.alloc O).cell? ⟨g1, 1, none⟩ = some (.int .i64 d) := fun O => (blk_cell (blk_alloc BKg1.out O) 1).trans rfl
                have hr_g1_1 : wr.cell? ⟨g1, 1, none⟩ = some (.int .i64 d) := (blk_cell BKg1.out 1).trans rfl
                have hs_g8_0 : ∀ O, (wr.alloc O).cell? ⟨g8, 0, none⟩ = some (.int .i64 t0) := fun O => (blk_cell (blk_alloc BKg8.out O) 0).trans rfl
                have hr_g8_0 : wr.cell? ⟨g8, 0, none⟩ = some (.int .i64 t0) := (blk_cell BKg8.out 0).trans rfl
                have hr_b1 : wr.cell? ⟨b1, i, none⟩ = some (.int .i64 y) := (HB.out.cell HBY.out).trans HCY.out
                have hs_b1 : ∀ O, (wr.alloc O).cell? ⟨b1, i, none⟩ = some (.int .i64 y) := fun O => ((below_alloc (Below.refl _ _) O).cell (World.block_lt_of_cell? wr _ hr_b1)).trans hr_b1
                go_cut [17, 18] (fun v_a v_b wx => ∃ g3, v_a = .pointer (some ⟨g3, 0, none⟩) ∧ v_b = .bool ok ∧ Aside0 (w.heap.size ≤ g3) ∧ Aside0 (g1 ≠ g3) ∧ Aside0 (wx.heap[g1]? = some (.cells #[.int .i64 n, .int .i64 d] 24 (0, 0))) ∧ Aside0 (g8 ≠ g3) ∧ Aside0 (wx.heap[g8]? = some (.cells #[.int .i64 t0] 3 (0, 0))) ∧ Aside0 (wx.heap[g3]? = some (.cells #[.int .i64 n1, .int .i64 d1] 24 (0, 0))) ∧ Aside0 (Below w.heap.size w wx))
                case first =>
                  go_region_held3 (fun w' => w'.cell? ⟨g1, 0, none⟩ = some (.int .i64 n) ∧ w'.cell? ⟨g1, 1, none⟩ = some (.int .i64 d) ∧ w'.cell? ⟨g8, 0, none⟩ = some (.int .i64 t0) ∧ w'.cell? ⟨b1, i, none⟩ = some (.int .i64 y)) (go_keep)
                    ((first
                      | (go_at_call 16; refine (discI_c n d t0 y c _).mono ?_; rw [HDF.out]; rintro e w1_ ⟨rfl, hb⟩; have kg_g1 := blk_below (g := g1) (o := .cells #[.int .i64 n, .int .i64 d] 24 (0, 0)) (by first | exact BKg1.out | exact blk_drew BKg1.out | exact blk_alloc BKg1.out _ | exact blk_alloc (blk_drew BKg1.out) _ | exact blk_drew (blk_alloc BKg1.out _)) hb; have kc_g1_0 : w1_.cell? ⟨g1, 0, none⟩ = some (.int .i64 n) := (blk_cell kg_g1 0).trans rfl; have kc_g1_1 : w1_.cell? ⟨g1, 1, none⟩ = some (.int .i64 d) := (blk_cell kg_g1 1).trans rfl; have mg_g1 : g1 ≠ w1_.heap.size := Nat.ne_of_lt (blk_lt kg_g1); have mh_g1 := Ne.symm mg_g1; have kg_g8 := blk_below (g := g8) (o := .cells #[.int .i64 t0] 3 (0, 0)) (by first | exact BKg8.out | exact blk_drew BKg8.out | exact blk_alloc BKg8.out _ | exact blk_alloc (blk_drew BKg8.out) _ | exact blk_drew (blk_alloc BKg8.out _)) hb; have kc_g8_0 : w1_.cell? ⟨g8, 0, none⟩ = some (.int .i64 t0) := (blk_cell kg_g8 0).trans rfl; have mg_g8 : g8 ≠ w1_.heap.size := Nat.ne_of_lt (blk_lt kg_g8); have mh_g8 := Ne.symm mg_g8; have kb := Aside0.mk (below_step (by repeat (first | (with_reducible first | exact HB.out | apply below_alloc | apply pw_below_drewN | apply below_drew1) | exact HB.out)) hb); have kc_b1 : w1_.cell? ⟨b1, i, none⟩ = some (.int .i64 y) := (kb.out.cell HBY.out).trans HCY.out; have mg_b1 : b1 ≠ w1_.heap.size := Nat.ne_of_lt (Nat.lt_of_lt_of_le HBY.out (below_size kb.out)); have mh_b1 := Ne.symm mg_b1; first | (have bk := blk_below (g := wr.heap.size) (o := .cells #[.int .i64 0, .int .i64 0] 24 (0, 0)) (by first | exact blk_new wr _ | exact blk_new wr.drew _ | exact blk_drew (blk_new wr _)) hb; have hz0_ : w1_.cell? ⟨wr.heap.size, 0, none⟩ = some (.int .i64 0) := (blk_cell bk 0).trans rfl; have hz1_ : w1_.cell? ⟨wr.heap.size, 1, none⟩ = some (.int .i64 0) := (blk_cell bk 1).trans rfl; have hz2_ := blk_frozen bk 0; have hz3_ := blk_frozen bk 1) | skip)))
                  all_goals (go_wp2_with fail; go_meet; first | exact ⟨_, rfl, rfl, ⟨below_size kb.out⟩, ⟨mg_g1⟩, ⟨blk_alloc kg_g1 _⟩, ⟨mg_g8⟩, ⟨blk_alloc kg_g8 _⟩, ⟨blk_new w1_ _⟩, ⟨below_alloc kb.out _⟩⟩ | exact ⟨_, rfl, rfl, ⟨below_size HB.out⟩, ⟨ng_g1⟩, ⟨blk_far (blk_far kg_g1 ng_g1 _) ng_g1 _⟩, ⟨ng_g8⟩, ⟨blk_far (blk_far kg_g8 ng_g8 _) ng_g8 _⟩, ⟨blk_put (cs := #[.int .i64 n1, .int .i64 0]) (blk_put (cs := #[.int .i64 0, .int .i64 0]) (bk) 0 _ rfl) 1 _ rfl⟩, ⟨below_set (below_set kb.out (below_size HB.out)) (below_size HB.out)⟩⟩)
                case rest =>
                  clear HB BKg1 BKg8
                  clear ha0_ ha1_ ha2_ ng_g1 nh_g1 hs_g1_0 hr_g1_0 hs_g1_1 hr_g1_1  ng_g8 nh_g8 hs_g8_0 hr_g8_0  ng_b1 nh_b1 hr_b1 hs_b1
                  obtain ⟨g3, rfl, rfl, GEg3, NEg1_g3, BKg1, NEg8_g3, BKg8, BKg3, HB⟩ := hcut
                  have hn1_ : b0 ≠ g3 := Nat.ne_of_lt (Nat.lt_of_lt_of_le HBX.out GEg3.out)
                  have hn2_ := Ne.symm hn1_
                  have hcx : wc.cell? ⟨b0, i, none⟩ = some (.int .i64 x) := (HB.out.cell HBX.out).trans HCX.out
                  have yg3_0 : wc.cell? ⟨g3, 0, none⟩ = some (.int .i64 n1) := (blk_cell BKg3.out 0).trans rfl; have fg3_0 := blk_frozen BKg3.out 0; have yg3_1 : wc.cell? ⟨g3, 1, none⟩ = some (.int .i64 d1) := (blk_cell BKg3.out 1).trans rfl; have fg3_1 := blk_frozen BKg3.out 1
                  cases ok with
                  | false =>
                    have hfz : FIN = (0, false) := by have h_ := HST.out; rw [if_neg (by simp)] at h_; exact h_
                    have HFZ := Aside0.mk hfz
                    clear hfz
                    go_wp2
                    go_ret2
                    exact ⟨by rw [HFZ.out]; rfl, (by repeat (first | (with_reducible first | exact HB.out | apply below_alloc | apply pw_below_drewN | apply below_drew1) | exact HB.out))⟩
                  | true =>
                    cases so with
                    | false =>
                      have hfz : FIN = (0, false) := by have h_ := HST.out; rw [if_neg (by simp)] at h_; exact h_
                      have HFZ := Aside0.mk hfz
                      clear hfz
                      go_wp2_with fail
                      refine (impl_ScaleAmount.calls k x n1 d1 mode sv false _ HK.out).mono ?_
                      rintro e v4_ ⟨rfl, hb⟩
                      have m_g1 := Aside0.mk (blk_below (g := g1) (o := .cells #[.int .i64 n, .int .i64 d] 24 (0, 0)) (by repeat (first | (with_reducible first | exact BKg1.out | refine blk_drewN ?_ _ | refine blk_drew ?_ | refine blk_alloc ?_ _))) hb)
                      have m_g8 := Aside0.mk (blk_below (g := g8) (o := .cells #[.int .i64 t0] 3 (0, 0)) (by repeat (first | (with_reducible first | exact BKg8.out | refine blk_drewN ?_ _ | refine blk_drew ?_ | refine blk_alloc ?_ _))) hb)
                      have n_ := Aside0.mk (below_step (by repeat (first | (with_reducible first | exact HB.out | apply below_alloc | apply pw_below_drewN | apply below_drew1) | exact HB.out)) hb)
                      clear HB hb BKg1 BKg8 BKg3
                      have HB := n_
                      clear n_
                      have BKg1 := m_g1
                      clear m_g1
                      have BKg8 := m_g8
                      clear m_g8
                      go_wp2
                      go_ret2
                      exact ⟨by rw [HFZ.out]; rfl, (by repeat (first | (with_reducible first | exact HB.out | apply below_alloc | apply pw_below_drewN | apply below_drew1) | exact HB.out))⟩
                    | true =>
                      have HFS := Aside0.mk (show pvL n d t0 c mode (xs.drop (i + 1)) (ys.drop (i + 1)) (s + sv) = FIN from by have h_ := HST.out; rw [if_pos ⟨rfl, rfl⟩] at h_; exact h_.symm)
                      go_wp2_with fail
                      refine (impl_ScaleAmount.calls k x n1 d1 mode sv true _ HK.out).mono ?_
                      rintro e v5_ ⟨rfl, hb⟩
                      have m_g1 := Aside0.mk (blk_below (g := g1) (o := .cells #[.int .i64 n, .int .i64 d] 24 (0, 0)) (by repeat (first | (with_reducible first | exact BKg1.out | refine blk_drewN ?_ _ | refine blk_drew ?_ | refine blk_alloc ?_ _))) hb)
                      have m_g8 := Aside0.mk (blk_below (g := g8) (o := .cells #[.int .i64 t0] 3 (0, 0)) (by repeat (first | (with_reducible first | exact BKg8.out | refine blk_drewN ?_ _ | refine blk_drew ?_ | refine blk_alloc ?_ _))) hb)
                      have n_ := Aside0.mk (below_step (by repeat (first | (with_reducible first | exact HB.out | apply below_alloc | apply pw_below_drewN | apply below_drew1) | exact HB.out)) hb)
                      clear HB hb BKg1 BKg8 BKg3
                      have HB := n_
                      clear n_
                      have BKg1 := m_g1
                      clear m_g1
                      have BKg8 := m_g8
                      clear m_g8
                      go_wp2
                      go_roundg (gk - 1)
                      case measure => have := HI.out; omega
                      case rel => exact ⟨i + 1, s + sv, by go_num, by go_num, ⟨by have := HI.out; omega⟩, ⟨by omega, by omega⟩, HFS, ⟨(by (with_reducible repeat (first | refine blk_drewN ?_ _ | refine blk_drew ?_ | refine blk_alloc ?_ _)); exact BKg1.out)⟩, ⟨(by (with_reducible repeat (first | refine blk_drewN ?_ _ | refine blk_drew ?_ | refine blk_alloc ?_ _)); exact BKg8.out)⟩, ⟨(by repeat (first | (with_reducible first | exact HB.out | apply below_alloc | apply pw_below_drewN | apply below_drew1) | exact HB.out))⟩⟩
              · obtain rfl : i = xs.length := by have := HI.out; omega
                have ci : decide (xs.length < xs.length) = false := decide_eq_false (by omega)
                have hfe := HFIN.out
                rw [pvL_end] at hfe
                have hs1 := HS.out.1
                have hs2 := HS.out.2
                have ha := isAmount_eq s
                by_cases cs : -1000000000 ≤ s ∧ s ≤ 1000000000
                · rw [decide_eq_true cs] at ha
                  rw [if_pos cs] at hfe
                  have HA := Aside0.mk ha
                  have HFE := Aside0.mk hfe
                  clear ha hfe
                  go_wp2_with fail
                  refine (impl_isAmount.calls s true _ HA.out).mono ?_
                  rintro e w1_ ⟨rfl, hb0⟩
                  have hb := Drawn0.below hb0
                  clear hb0
                  have n_ := Aside0.mk (below_step (by repeat (first | (with_reducible first | exact HB.out | apply below_alloc | apply pw_below_drewN | apply below_drew1) | exact HB.out)) hb); clear HB; have HB := n_; clear n_ hb
                  go_wp2
                  go_ret2
                  exact ⟨by rw [← HFE.out]; rfl, HB.out⟩
                · rw [decide_eq_false cs] at ha
                  rw [if_neg cs] at hfe
                  have HA := Aside0.mk ha
                  have HFE := Aside0.mk hfe
                  clear ha hfe
                  go_wp2_with fail
                  refine (impl_isAmount.calls s false _ HA.out).mono ?_
                  rintro e w1_ ⟨rfl, hb0⟩
                  have hb := Drawn0.below hb0
                  clear hb0
                  have n_ := Aside0.mk (below_step (by repeat (first | (with_reducible first | exact HB.out | apply below_alloc | apply pw_below_drewN | apply below_drew1) | exact HB.out)) hb); clear HB; have HB := n_; clear n_ hb
                  go_wp2
                  go_ret2
                  exact ⟨by rw [← HFE.out]; rfl, HB.out⟩
        · rw [decide_eq_false c3_] at g3_
          have G4 := Aside0.mk g3_
          clear g3_
          have hfin : presA xs ys t0 n d c mode = (0, false) := by unfold presA; rw [if_neg (fun v => c3_ v.2.2.2)]
          rw [hfin]
          clear hfin
          have hlq : ((ys.length : Int) = (xs.length : Int)) := by omega
          go_enter Try.func27, Try.ntmps27
          go_wp2_with (first
            | (((with_reducible refine gate_dst (N := 8) rfl ?_); refine box_event ?hg (N := 8) ?hd (cs := #[.int .i64 t0]) (t := 3) ?hr ?_; (case hd => rfl); (case hg => rfl); (case hr => first | (go_simp; done) | (go_simp; rfl))); intro g8 hg w_g8 hbox hb; have n_ := Aside0.mk (below_step (by repeat (first | (with_reducible first | exact HB.out | apply below_alloc | apply pw_below_drewN | apply below_drew1) | exact HB.out)) hb); have BKg8 := Aside0.mk hbox; have GEg8 := Aside0.mk (show w.heap.size ≤ g8 from by rw [hg]; exact below_size (by repeat (first | (with_reducible first | exact HB.out | apply below_alloc | apply pw_below_drewN | apply below_drew1) | exact HB.out))); clear HB ; have HB := n_; clear n_ hb hbox hg)
            | (((with_reducible refine gate_dst (N := 9) rfl ?_); refine box_event ?hg (N := 9) ?hd (cs := #[.int .i64 n,.int .i64 d]) (t := 24) ?hr ?_; (case hd => rfl); (case hg => rfl); (case hr => first | (go_simp; done) | (go_simp; rfl))); intro g1 hg w_g1 hbox hb; have n_ := Aside0.mk (below_step (by repeat (first | (with_reducible first | exact HB.out | apply below_alloc | apply pw_below_drewN | apply below_drew1 | refine below_set ?_ GEg8.out) | exact HB.out)) hb); have m_g8 := Aside0.mk (blk_below (blk_below BKg8.out (by repeat (first | (with_reducible first | exact Below.refl _ _ | apply below_alloc | apply pw_below_drewN | apply below_drew1) | exact Below.refl _ _))) hb); have NEg8_g1 := Aside0.mk (show g8 ≠ g1 from by rw [hg]; exact Nat.ne_of_lt (blk_lt (blk_below BKg8.out (by repeat (first | (with_reducible first | exact Below.refl _ _ | apply below_alloc | apply pw_below_drewN | apply below_drew1) | exact Below.refl _ _))))); have NEg1_g8 := Aside0.mk (Ne.symm NEg8_g1.out); have BKg1 := Aside0.mk hbox; have GEg1 := Aside0.mk (show w.heap.size ≤ g1 from by rw [hg]; exact below_size (by repeat (first | (with_reducible first | exact HB.out | apply below_alloc | apply pw_below_drewN | apply below_drew1 | refine below_set ?_ GEg8.out) | exact HB.out))); clear HB BKg8; have HB := n_; clear n_ hb hbox hg; have BKg8 := m_g8; clear m_g8)
            )
          refine (areAms_c _ _ xs true G1.out _ (by repeat (first | exact (Kd.C_below HR0.out HB.out) | (with_reducible refine Kd.C_alloc ?_ _) | (with_reducible refine Kd.C_drewN ?_ _) | (with_reducible refine Kd.C_drew ?_))) HA0.out).mono ?_
          rintro e w1_ ⟨rfl, hb⟩
          have n_ := Aside0.mk (blk_below (blk_below BKg8.out (by repeat (first | (with_reducible first | exact Below.refl _ _ | apply below_alloc | apply pw_below_drewN | apply below_drew1) | exact Below.refl _ _))) hb); clear BKg8; have BKg8 := n_; clear n_; have n_ := Aside0.mk (blk_below (blk_below BKg1.out (by repeat (first | (with_reducible first | exact Below.refl _ _ | apply below_alloc | apply pw_below_drewN | apply below_drew1) | exact Below.refl _ _))) hb); clear BKg1; have BKg1 := n_; clear n_; have n_ := Aside0.mk (below_step (by repeat (first | (with_reducible first | exact HB.out | apply below_alloc | apply pw_below_drewN | apply below_drew1) | exact HB.out)) hb); clear HB; have HB := n_; clear n_ hb
          have yg8_0 : w1_.cell? ⟨g8, 0, none⟩ = some (.int .i64 t0) := (blk_cell BKg8.out 0).trans rfl; have fg8_0 := blk_frozen BKg8.out 0
          go_wp2_with fail
          clear yg8_0 fg8_0
          refine (impl_isDay.calls t0 true _ G3.out).mono ?_
          rintro e w2_ ⟨rfl, hb0⟩
          have hb := Drawn0.below hb0
          clear hb0
          have n_ := Aside0.mk (blk_below (blk_below BKg8.out (by repeat (first | (with_reducible first | exact Below.refl _ _ | apply below_alloc | apply pw_below_drewN | apply below_drew1) | exact Below.refl _ _))) hb); clear BKg8; have BKg8 := n_; clear n_; have n_ := Aside0.mk (blk_below (blk_below BKg1.out (by repeat (first | (with_reducible first | exact Below.refl _ _ | apply below_alloc | apply pw_below_drewN | apply below_drew1) | exact Below.refl _ _))) hb); clear BKg1; have BKg1 := n_; clear n_; have n_ := Aside0.mk (below_step (by repeat (first | (with_reducible first | exact HB.out | apply below_alloc | apply pw_below_drewN | apply below_drew1) | exact HB.out)) hb); clear HB; have HB := n_; clear n_ hb
          have yg1_0 : w2_.cell? ⟨g1, 0, none⟩ = some (.int .i64 n) := (blk_cell BKg1.out 0).trans rfl; have fg1_0 := blk_frozen BKg1.out 0; have yg1_1 : w2_.cell? ⟨g1, 1, none⟩ = some (.int .i64 d) := (blk_cell BKg1.out 1).trans rfl; have fg1_1 := blk_frozen BKg1.out 1
          go_wp2_with fail
          clear yg1_0 fg1_0 yg1_1 fg1_1
          refine (impl_isInterest.calls kr n d c mode false _ G4.out).mono ?_
          rintro e w3_ ⟨rfl, hb⟩
          have n_ := Aside0.mk (blk_below (blk_below BKg8.out (by repeat (first | (with_reducible first | exact Below.refl _ _ | apply below_alloc | apply pw_below_drewN | apply below_drew1) | exact Below.refl _ _))) hb); clear BKg8; have BKg8 := n_; clear n_; have n_ := Aside0.mk (blk_below (blk_below BKg1.out (by repeat (first | (with_reducible first | exact Below.refl _ _ | apply below_alloc | apply pw_below_drewN | apply below_drew1) | exact Below.refl _ _))) hb); clear BKg1; have BKg1 := n_; clear n_; have n_ := Aside0.mk (below_step (by repeat (first | (with_reducible first | exact HB.out | apply below_alloc | apply pw_below_drewN | apply below_drew1) | exact HB.out)) hb); clear HB; have HB := n_; clear n_ hb
          go_wp2
          go_ret2
          exact ⟨rfl, (by repeat (first | (with_reducible first | exact HB.out | apply below_alloc | apply pw_below_drewN | apply below_drew1 | refine below_set ?_ GEg8.out | refine below_set ?_ GEg1.out) | exact HB.out))⟩
      · rw [decide_eq_false c2_] at g2_
        have G3 := Aside0.mk g2_
        clear g2_
        have hfin : presA xs ys t0 n d c mode = (0, false) := by unfold presA; rw [if_neg (fun v => c2_ v.2.2.1)]
        rw [hfin]
        clear hfin
        have hlq : ((ys.length : Int) = (xs.length : Int)) := by omega
        go_enter Try.func27, Try.ntmps27
        go_wp2_with (first
          | (((with_reducible refine gate_dst (N := 8) rfl ?_); refine box_event ?hg (N := 8) ?hd (cs := #[.int .i64 t0]) (t := 3) ?hr ?_; (case hd => rfl); (case hg => rfl); (case hr => first | (go_simp; done) | (go_simp; rfl))); intro g8 hg w_g8 hbox hb; have n_ := Aside0.mk (below_step (by repeat (first | (with_reducible first | exact HB.out | apply below_alloc | apply pw_below_drewN | apply below_drew1) | exact HB.out)) hb); have BKg8 := Aside0.mk hbox; have GEg8 := Aside0.mk (show w.heap.size ≤ g8 from by rw [hg]; exact below_size (by repeat (first | (with_reducible first | exact HB.out | apply below_alloc | apply pw_below_drewN | apply below_drew1) | exact HB.out))); clear HB ; have HB := n_; clear n_ hb hbox hg)
          | (((with_reducible refine gate_dst (N := 9) rfl ?_); refine box_event ?hg (N := 9) ?hd (cs := #[.int .i64 n,.int .i64 d]) (t := 24) ?hr ?_; (case hd => rfl); (case hg => rfl); (case hr => first | (go_simp; done) | (go_simp; rfl))); intro g1 hg w_g1 hbox hb; have n_ := Aside0.mk (below_step (by repeat (first | (with_reducible first | exact HB.out | apply below_alloc | apply pw_below_drewN | apply below_drew1 | refine below_set ?_ GEg8.out) | exact HB.out)) hb); have m_g8 := Aside0.mk (blk_below (blk_below BKg8.out (by repeat (first | (with_reducible first | exact Below.refl _ _ | apply below_alloc | apply pw_below_drewN | apply below_drew1) | exact Below.refl _ _))) hb); have NEg8_g1 := Aside0.mk (show g8 ≠ g1 from by rw [hg]; exact Nat.ne_of_lt (blk_lt (blk_below BKg8.out (by repeat (first | (with_reducible first | exact Below.refl _ _ | apply below_alloc | apply pw_below_drewN | apply below_drew1) | exact Below.refl _ _))))); have NEg1_g8 := Aside0.mk (Ne.symm NEg8_g1.out); have BKg1 := Aside0.mk hbox; have GEg1 := Aside0.mk (show w.heap.size ≤ g1 from by rw [hg]; exact below_size (by repeat (first | (with_reducible first | exact HB.out | apply below_alloc | apply pw_below_drewN | apply below_drew1 | refine below_set ?_ GEg8.out) | exact HB.out))); clear HB BKg8; have HB := n_; clear n_ hb hbox hg; have BKg8 := m_g8; clear m_g8)
          )
        refine (areAms_c _ _ xs true G1.out _ (by repeat (first | exact (Kd.C_below HR0.out HB.out) | (with_reducible refine Kd.C_alloc ?_ _) | (with_reducible refine Kd.C_drewN ?_ _) | (with_reducible refine Kd.C_drew ?_))) HA0.out).mono ?_
        rintro e w1_ ⟨rfl, hb⟩
        have n_ := Aside0.mk (blk_below (blk_below BKg8.out (by repeat (first | (with_reducible first | exact Below.refl _ _ | apply below_alloc | apply pw_below_drewN | apply below_drew1) | exact Below.refl _ _))) hb); clear BKg8; have BKg8 := n_; clear n_; have n_ := Aside0.mk (blk_below (blk_below BKg1.out (by repeat (first | (with_reducible first | exact Below.refl _ _ | apply below_alloc | apply pw_below_drewN | apply below_drew1) | exact Below.refl _ _))) hb); clear BKg1; have BKg1 := n_; clear n_; have n_ := Aside0.mk (below_step (by repeat (first | (with_reducible first | exact HB.out | apply below_alloc | apply pw_below_drewN | apply below_drew1) | exact HB.out)) hb); clear HB; have HB := n_; clear n_ hb
        have yg8_0 : w1_.cell? ⟨g8, 0, none⟩ = some (.int .i64 t0) := (blk_cell BKg8.out 0).trans rfl; have fg8_0 := blk_frozen BKg8.out 0
        go_wp2_with fail
        clear yg8_0 fg8_0
        refine (impl_isDay.calls t0 false _ G3.out).mono ?_
        rintro e w2_ ⟨rfl, hb0⟩
        have hb := Drawn0.below hb0
        clear hb0
        have n_ := Aside0.mk (blk_below (blk_below BKg8.out (by repeat (first | (with_reducible first | exact Below.refl _ _ | apply below_alloc | apply pw_below_drewN | apply below_drew1) | exact Below.refl _ _))) hb); clear BKg8; have BKg8 := n_; clear n_; have n_ := Aside0.mk (blk_below (blk_below BKg1.out (by repeat (first | (with_reducible first | exact Below.refl _ _ | apply below_alloc | apply pw_below_drewN | apply below_drew1) | exact Below.refl _ _))) hb); clear BKg1; have BKg1 := n_; clear n_; have n_ := Aside0.mk (below_step (by repeat (first | (with_reducible first | exact HB.out | apply below_alloc | apply pw_below_drewN | apply below_drew1) | exact HB.out)) hb); clear HB; have HB := n_; clear n_ hb
        go_wp2
        go_ret2
        exact ⟨rfl, (by repeat (first | (with_reducible first | exact HB.out | apply below_alloc | apply pw_below_drewN | apply below_drew1 | refine below_set ?_ GEg8.out | refine below_set ?_ GEg1.out) | exact HB.out))⟩
    · have cb1_ : decide (ys.length = xs.length) = false := decide_eq_false c1_
      have hfin : presA xs ys t0 n d c mode = (0, false) := by unfold presA; rw [if_neg (fun v => c1_ v.2.1)]
      rw [hfin]
      clear hfin
      have hlq : ¬ ((ys.length : Int) = (xs.length : Int)) := by omega
      go_enter Try.func27, Try.ntmps27
      go_wp2_with (first
        | (((with_reducible refine gate_dst (N := 8) rfl ?_); refine box_event ?hg (N := 8) ?hd (cs := #[.int .i64 t0]) (t := 3) ?hr ?_; (case hd => rfl); (case hg => rfl); (case hr => first | (go_simp; done) | (go_simp; rfl))); intro g8 hg w_g8 hbox hb; have n_ := Aside0.mk (below_step (by repeat (first | (with_reducible first | exact HB.out | apply below_alloc | apply pw_below_drewN | apply below_drew1) | exact HB.out)) hb); have BKg8 := Aside0.mk hbox; have GEg8 := Aside0.mk (show w.heap.size ≤ g8 from by rw [hg]; exact below_size (by repeat (first | (with_reducible first | exact HB.out | apply below_alloc | apply pw_below_drewN | apply below_drew1) | exact HB.out))); clear HB ; have HB := n_; clear n_ hb hbox hg)
        | (((with_reducible refine gate_dst (N := 9) rfl ?_); refine box_event ?hg (N := 9) ?hd (cs := #[.int .i64 n,.int .i64 d]) (t := 24) ?hr ?_; (case hd => rfl); (case hg => rfl); (case hr => first | (go_simp; done) | (go_simp; rfl))); intro g1 hg w_g1 hbox hb; have n_ := Aside0.mk (below_step (by repeat (first | (with_reducible first | exact HB.out | apply below_alloc | apply pw_below_drewN | apply below_drew1 | refine below_set ?_ GEg8.out) | exact HB.out)) hb); have m_g8 := Aside0.mk (blk_below (blk_below BKg8.out (by repeat (first | (with_reducible first | exact Below.refl _ _ | apply below_alloc | apply pw_below_drewN | apply below_drew1) | exact Below.refl _ _))) hb); have NEg8_g1 := Aside0.mk (show g8 ≠ g1 from by rw [hg]; exact Nat.ne_of_lt (blk_lt (blk_below BKg8.out (by repeat (first | (with_reducible first | exact Below.refl _ _ | apply below_alloc | apply pw_below_drewN | apply below_drew1) | exact Below.refl _ _))))); have NEg1_g8 := Aside0.mk (Ne.symm NEg8_g1.out); have BKg1 := Aside0.mk hbox; have GEg1 := Aside0.mk (show w.heap.size ≤ g1 from by rw [hg]; exact below_size (by repeat (first | (with_reducible first | exact HB.out | apply below_alloc | apply pw_below_drewN | apply below_drew1 | refine below_set ?_ GEg8.out) | exact HB.out))); clear HB BKg8; have HB := n_; clear n_ hb hbox hg; have BKg8 := m_g8; clear m_g8)
        )
      refine (areAms_c _ _ xs true G1.out _ (by repeat (first | exact (Kd.C_below HR0.out HB.out) | (with_reducible refine Kd.C_alloc ?_ _) | (with_reducible refine Kd.C_drewN ?_ _) | (with_reducible refine Kd.C_drew ?_))) HA0.out).mono ?_
      rintro e w1_ ⟨rfl, hb⟩
      have n_ := Aside0.mk (blk_below (blk_below BKg8.out (by repeat (first | (with_reducible first | exact Below.refl _ _ | apply below_alloc | apply pw_below_drewN | apply below_drew1) | exact Below.refl _ _))) hb); clear BKg8; have BKg8 := n_; clear n_; have n_ := Aside0.mk (blk_below (blk_below BKg1.out (by repeat (first | (with_reducible first | exact Below.refl _ _ | apply below_alloc | apply pw_below_drewN | apply below_drew1) | exact Below.refl _ _))) hb); clear BKg1; have BKg1 := n_; clear n_; have n_ := Aside0.mk (below_step (by repeat (first | (with_reducible first | exact HB.out | apply below_alloc | apply pw_below_drewN | apply below_drew1) | exact HB.out)) hb); clear HB; have HB := n_; clear n_ hb
      go_wp2
      go_ret2
      exact ⟨rfl, (by repeat (first | (with_reducible first | exact HB.out | apply below_alloc | apply pw_below_drewN | apply below_drew1 | refine below_set ?_ GEg8.out | refine below_set ?_ GEg1.out) | exact HB.out))⟩
  · rw [decide_eq_false c0_] at g0_
    have G1 := Aside0.mk g0_
    clear g0_
    have hfin : presA xs ys t0 n d c mode = (0, false) := by unfold presA; rw [if_neg (fun v => c0_ v.1)]
    rw [hfin]
    clear hfin
    go_enter Try.func27, Try.ntmps27
    go_wp2_with (first
      | (((with_reducible refine gate_dst (N := 8) rfl ?_); refine box_event ?hg (N := 8) ?hd (cs := #[.int .i64 t0]) (t := 3) ?hr ?_; (case hd => rfl); (case hg => rfl); (case hr => first | (go_simp; done) | (go_simp; rfl))); intro g8 hg w_g8 hbox hb; have n_ := Aside0.mk (below_step (by repeat (first | (with_reducible first | exact HB.out | apply below_alloc | apply pw_below_drewN | apply below_drew1) | exact HB.out)) hb); have BKg8 := Aside0.mk hbox; have GEg8 := Aside0.mk (show w.heap.size ≤ g8 from by rw [hg]; exact below_size (by repeat (first | (with_reducible first | exact HB.out | apply below_alloc | apply pw_below_drewN | apply below_drew1) | exact HB.out))); clear HB ; have HB := n_; clear n_ hb hbox hg)
      | (((with_reducible refine gate_dst (N := 9) rfl ?_); refine box_event ?hg (N := 9) ?hd (cs := #[.int .i64 n,.int .i64 d]) (t := 24) ?hr ?_; (case hd => rfl); (case hg => rfl); (case hr => first | (go_simp; done) | (go_simp; rfl))); intro g1 hg w_g1 hbox hb; have n_ := Aside0.mk (below_step (by repeat (first | (with_reducible first | exact HB.out | apply below_alloc | apply pw_below_drewN | apply below_drew1 | refine below_set ?_ GEg8.out) | exact HB.out)) hb); have m_g8 := Aside0.mk (blk_below (blk_below BKg8.out (by repeat (first | (with_reducible first | exact Below.refl _ _ | apply below_alloc | apply pw_below_drewN | apply below_drew1) | exact Below.refl _ _))) hb); have NEg8_g1 := Aside0.mk (show g8 ≠ g1 from by rw [hg]; exact Nat.ne_of_lt (blk_lt (blk_below BKg8.out (by repeat (first | (with_reducible first | exact Below.refl _ _ | apply below_alloc | apply pw_below_drewN | apply below_drew1) | exact Below.refl _ _))))); have NEg1_g8 := Aside0.mk (Ne.symm NEg8_g1.out); have BKg1 := Aside0.mk hbox; have GEg1 := Aside0.mk (show w.heap.size ≤ g1 from by rw [hg]; exact below_size (by repeat (first | (with_reducible first | exact HB.out | apply below_alloc | apply pw_below_drewN | apply below_drew1 | refine below_set ?_ GEg8.out) | exact HB.out))); clear HB BKg8; have HB := n_; clear n_ hb hbox hg; have BKg8 := m_g8; clear m_g8)
      )
    refine (areAms_c _ _ xs false G1.out _ (by repeat (first | exact (Kd.C_below HR0.out HB.out) | (with_reducible refine Kd.C_alloc ?_ _) | (with_reducible refine Kd.C_drewN ?_ _) | (with_reducible refine Kd.C_drew ?_))) HA0.out).mono ?_
    rintro e w1_ ⟨rfl, hb⟩
    have n_ := Aside0.mk (blk_below (blk_below BKg8.out (by repeat (first | (with_reducible first | exact Below.refl _ _ | apply below_alloc | apply pw_below_drewN | apply below_drew1) | exact Below.refl _ _))) hb); clear BKg8; have BKg8 := n_; clear n_; have n_ := Aside0.mk (blk_below (blk_below BKg1.out (by repeat (first | (with_reducible first | exact Below.refl _ _ | apply below_alloc | apply pw_below_drewN | apply below_drew1) | exact Below.refl _ _))) hb); clear BKg1; have BKg1 := n_; clear n_; have n_ := Aside0.mk (below_step (by repeat (first | (with_reducible first | exact HB.out | apply below_alloc | apply pw_below_drewN | apply below_drew1) | exact HB.out)) hb); clear HB; have HB := n_; clear n_ hb
    go_wp2
    go_ret2
    exact ⟨rfl, (by repeat (first | (with_reducible first | exact HB.out | apply below_alloc | apply pw_below_drewN | apply below_drew1 | refine below_set ?_ GEg8.out | refine below_set ?_ GEg1.out) | exact HB.out))⟩
theorem spec_c (A0 : Option Addr) (c0 : Nat) (xs : List Int) (A1 : Option Addr) (c1 : Nat) (ys : List Int) (t0 n d c mode : Int) (w : World) (hr0 : (Kd.int .i64).C w A0 xs.length xs) (hc0 : xs.length ≤ c0) (ha0 : 0 < xs.length → ∃ b, A0 = some ⟨b, 0, none⟩) (hn0 : xs.length ≤ 1048576) (hr1 : (Kd.int .i64).C w A1 ys.length ys) (hc1 : ys.length ≤ c1) (ha1 : 0 < ys.length → ∃ b, A1 = some ⟨b, 0, none⟩) (_ : ys.length ≤ 1048576) :
    Calls Try.prog 26 #[.slice A0 xs.length c0, .slice A1 ys.length c1, .int .i64 t0, .agg #[.int .i64 n, .int .i64 d], .int .i64 c, .int .i64 mode] w fun e w' => e = .returned (.tuple #[.int .i64 (presA xs ys t0 n d c mode).1, .bool (presA xs ys t0 n d c mode).2]) ∧ Below w.heap.size w w' :=
  presS_c A0 c0 xs A1 c1 ys t0 n d c mode hn0 w hr0 hc0 ha0 hr1 ha1
theorem impl_c (A0 : Option Addr) (c0 : Nat) (xs : List Int) (A1 : Option Addr) (c1 : Nat) (ys : List Int) (t0 n d c mode : Int) (w : World) (hr0 : (Kd.int .i64).C w A0 xs.length xs) (hc0 : xs.length ≤ c0) (ha0 : 0 < xs.length → ∃ b, A0 = some ⟨b, 0, none⟩) (hn0 : xs.length ≤ 1048576) (hr1 : (Kd.int .i64).C w A1 ys.length ys) (hc1 : ys.length ≤ c1) (ha1 : 0 < ys.length → ∃ b, A1 = some ⟨b, 0, none⟩) (_ : ys.length ≤ 1048576) :
    Calls Try.prog 27 #[.slice A0 xs.length c0, .slice A1 ys.length c1, .int .i64 t0, .agg #[.int .i64 n, .int .i64 d], .int .i64 c, .int .i64 mode] w fun e w' => e = .returned (.tuple #[.int .i64 (presA xs ys t0 n d c mode).1, .bool (presA xs ys t0 n d c mode).2]) ∧ Below w.heap.size w w' :=
  presI_c A0 c0 xs A1 c1 ys t0 n d c mode hn0 w hr0 hc0 ha0 hr1 ha1
set_option maxHeartbeats 16000000 in
set_option maxRecDepth 100000 in
theorem law_c (A0 : Option Addr) (c0 : Nat) (l0 : List Int) (A1 : Option Addr) (c1 : Nat) (l1 : List Int) (a2 : Int) (a3_0 a3_1 : Int) (a4 : Int) (a5 : Int) (w : World) (hr0 : Kd.C (Kd.int .i64) w A0 l0.length l0) (hc0 : l0.length ≤ c0) (hr1 : Kd.C (Kd.int .i64) w A1 l1.length l1) (hc1 : l1.length ≤ c1) (hi2 : -9223372036854775808 ≤ a2 ∧ a2 ≤ 9223372036854775807) (hi4 : -9223372036854775808 ≤ a4 ∧ a4 ≤ 9223372036854775807) (hi5 : -9223372036854775808 ≤ a5 ∧ a5 ≤ 9223372036854775807) (hi3 : KReads.InI a3_0 ∧ KReads.InI a3_1) (he0 : ∀ y ∈ l0, KReads.InI y) (he1 : ∀ y ∈ l1, KReads.InI y) :
    Calls Try.prog 7 #[.slice A0 l0.length c0, .slice A1 l1.length c1, .int .i64 a2, .agg #[.int .i64 a3_0, .int .i64 a3_1], .int .i64 a4, .int .i64 a5] w fun e w' => e = .returned (.bool true) ∧ Below w.heap.size w w' := by
  have HR0 := Aside0.mk hr0
  have HC0 := Aside0.mk hc0
  have HM0 := Aside0.mk (Kd.C_max hr0)
  have HR1 := Aside0.mk hr1
  have HC1 := Aside0.mk hc1
  have HM1 := Aside0.mk (Kd.C_max hr1)
  clear hr0 hc0 hr1 hc1
  by_cases hn0 : l0.length ≤ 1048576
  rotate_left
  · have hn_ := hn0
    have cl0 : decide (1048576 < l0.length) = true := decide_eq_true (by omega)
    clear hn_
    go_enter Try.func7, Try.ntmps7
    go_wp2_with fail
    go_ret
    exact ⟨rfl, (by repeat (first | (with_reducible first | exact Below.refl _ _ | apply below_alloc | apply pw_below_drewN | apply below_drew1) | exact Below.refl _ _))⟩
  by_cases hn1 : l1.length ≤ 1048576
  rotate_left
  · have hn_ := hn1
    have cl0 : decide (1048576 < l0.length) = false := decide_eq_false (by omega)
    have cl1 : decide (1048576 < l1.length) = true := decide_eq_true (by omega)
    clear hn_
    go_enter Try.func7, Try.ntmps7
    go_wp2_with fail
    go_ret
    exact ⟨rfl, (by repeat (first | (with_reducible first | exact Below.refl _ _ | apply below_alloc | apply pw_below_drewN | apply below_drew1) | exact Below.refl _ _))⟩
  have cl0 : decide (1048576 < l0.length) = false := decide_eq_false (by omega)
  have cl1 : decide (1048576 < l1.length) = false := decide_eq_false (by omega)
  have hv0 := hn0
  have hv1 := hn1
  have HB0 := Aside0.mk (Below.refl w.heap.size w)
  have HK3 := Aside0.mk (blk_new w (.cells #[.int .i64 a3_0, .int .i64 a3_1] 23 (0, 0)))
  obtain ⟨kX0, hX0⟩ := roundsOf (toIntS_ev l0 hn0)
  have X0 := Aside0.mk hX0
  clear hX0
  obtain ⟨kX1, hX1⟩ := roundsOf (toIntS_ev l1 hn1)
  have X1 := Aside0.mk hX1
  clear hX1
  obtain ⟨kX2, hX2⟩ := roundsOf (eqIntS_ev l0 (by have h_ := hv0; omega))
  have X2 := Aside0.mk hX2
  clear hX2
  obtain ⟨kX3, hX3⟩ := roundsOf (eqIntS_ev l1 (by have h_ := hv1; omega))
  have X3 := Aside0.mk hX3
  clear hX3
  go_enter Try.func7, Try.ntmps7
  go_wp2_with fail
  go_region_held3 (fun W_ => W_.cell? ⟨w.heap.size, 0, none⟩ = some (.int .i64 a3_0) ∧ W_.cell? ⟨w.heap.size, 1, none⟩ = some (.int .i64 a3_1)) (first | exact ⟨(blk_cell HK3.out 0).trans rfl, (blk_cell HK3.out 1).trans rfl⟩ | go_keep) (first
    | (go_at_call_of 23 (Value.slice A0 l0.length c0); refine (laws_toIntS.calls kX0 _ _ l0 _ _ (by repeat (first | exact (Kd.C_below HR0.out HB0.out) | (with_reducible refine Kd.C_alloc ?_ _) | (with_reducible refine Kd.C_drewN ?_ _) | (with_reducible refine Kd.C_drew ?_))) HC0.out X0.out).mono ?_; rintro e w1 ⟨v, rfl, ho, hb⟩; have n_ := Aside0.mk (blk_below (blk_below HK3.out (by repeat (first | (with_reducible first | exact Below.refl _ _ | apply below_alloc | apply pw_below_drewN | apply below_drew1) | exact Below.refl _ _))) hb); clear HK3; have HK3 := n_; clear n_; have SZB := Aside0.mk (show w.heap.size < w1.heap.size from blk_lt HK3.out); have HB1 := Aside0.mk (below_step (by repeat (first | (with_reducible first | exact HB0.out | apply below_alloc | apply pw_below_drewN | apply below_drew1) | exact HB0.out)) hb); have SZ1 := Aside0.mk (show w.heap.size ≤ w1.heap.size from below_size (below_step (by repeat (first | (with_reducible first | exact Below.refl _ _ | apply below_alloc | apply pw_below_drewN | apply below_drew1) | exact Below.refl _ _)) hb)); have HOt1 := Aside0.mk (R_ivw (a := w.heap.size) (b := w.heap.size) ho (below_size (by repeat (first | (with_reducible first | exact Below.refl _ _ | apply below_alloc | apply pw_below_drewN | apply below_drew1) | exact Below.refl _ _))) (below_size (by repeat (first | (with_reducible first | exact HB0.out | apply below_alloc | apply pw_below_drewN | apply below_drew1) | exact HB0.out)))); obtain ⟨Art1, crt1, ert1⟩ := Kd.R_slice HOt1.out; subst ert1; clear ho hb)
    | (go_at_call_of 23 (Value.slice A1 l1.length c1); refine (laws_toIntS.calls kX1 _ _ l1 _ _ (by repeat (first | exact (Kd.C_below HR1.out HB1.out) | (with_reducible refine Kd.C_alloc ?_ _) | (with_reducible refine Kd.C_drewN ?_ _) | (with_reducible refine Kd.C_drew ?_))) HC1.out X1.out).mono ?_; rintro e w2 ⟨v, rfl, ho, hb⟩; have n_ := Aside0.mk (blk_below (blk_below HK3.out (by repeat (first | (with_reducible first | exact Below.refl _ _ | apply below_alloc | apply pw_below_drewN | apply below_drew1) | exact Below.refl _ _))) hb); clear HK3; have HK3 := n_; clear n_; have n_ := Aside0.mk (Kd.R_below (by (with_reducible repeat (first | apply Kd.R_alloc | apply Kd.R_drewN | apply Kd.R_drew)); exact HOt1.out) hb); clear HOt1; have HOt1 := n_; clear n_; have HB2 := Aside0.mk (below_step (by repeat (first | (with_reducible first | exact HB1.out | apply below_alloc | apply pw_below_drewN | apply below_drew1) | exact HB1.out)) hb); have SZ2 := Aside0.mk (show w1.heap.size ≤ w2.heap.size from below_size (below_step (by repeat (first | (with_reducible first | exact Below.refl _ _ | apply below_alloc | apply pw_below_drewN | apply below_drew1) | exact Below.refl _ _)) hb)); have HOt2 := Aside0.mk (R_ivw (a := w1.heap.size) (b := w.heap.size) ho (below_size (by repeat (first | (with_reducible first | exact Below.refl _ _ | apply below_alloc | apply pw_below_drewN | apply below_drew1) | exact Below.refl _ _))) (below_size (by repeat (first | (with_reducible first | exact HB1.out | apply below_alloc | apply pw_below_drewN | apply below_drew1) | exact HB1.out)))); obtain ⟨Art2, crt2, ert2⟩ := Kd.R_slice HOt2.out; subst ert2; clear ho hb)
    | (go_at_call 15; refine (laws_toFraction.calls a3_0 a3_1 a3_0 a3_1 _ rfl).mono ?_; rintro e w3 ⟨rfl, hb⟩; have n_ := Aside0.mk (blk_below (blk_below HK3.out (by repeat (first | (with_reducible first | exact Below.refl _ _ | apply below_alloc | apply pw_below_drewN | apply below_drew1) | exact Below.refl _ _))) hb); clear HK3; have HK3 := n_; clear n_; have n_ := Aside0.mk (Kd.R_below (by (with_reducible repeat (first | apply Kd.R_alloc | apply Kd.R_drewN | apply Kd.R_drew)); exact HOt1.out) hb); clear HOt1; have HOt1 := n_; clear n_; have n_ := Aside0.mk (Kd.R_below (by (with_reducible repeat (first | apply Kd.R_alloc | apply Kd.R_drewN | apply Kd.R_drew)); exact HOt2.out) hb); clear HOt2; have HOt2 := n_; clear n_; have HB3 := Aside0.mk (below_step (by repeat (first | (with_reducible first | exact HB2.out | apply below_alloc | apply pw_below_drewN | apply below_drew1) | exact HB2.out)) hb); have SZ3 := Aside0.mk (show w2.heap.size ≤ w3.heap.size from below_size (below_step (by repeat (first | (with_reducible first | exact Below.refl _ _ | apply below_alloc | apply pw_below_drewN | apply below_drew1) | exact Below.refl _ _)) hb)); clear hb)
    | (go_at_call 26; refine (spec_c _ _ l0 _ _ l1 a2 a3_0 a3_1 a4 a5 _ (by repeat (first | exact (Kd.R_reads' HOt1.out).2.2 | (with_reducible refine Kd.C_alloc ?_ _) | (with_reducible refine Kd.C_drewN ?_ _) | (with_reducible refine Kd.C_drew ?_))) (Kd.R_reads' HOt1.out).2.1 (fun hp => R_head HOt1.out hp) hv0 (by repeat (first | exact (Kd.R_reads' HOt2.out).2.2 | (with_reducible refine Kd.C_alloc ?_ _) | (with_reducible refine Kd.C_drewN ?_ _) | (with_reducible refine Kd.C_drew ?_))) (Kd.R_reads' HOt2.out).2.1 (fun hp => R_head HOt2.out hp) hv1 ).mono ?_; rintro e w4 ⟨rfl, hb⟩; have n_ := Aside0.mk (blk_below (blk_below HK3.out (by repeat (first | (with_reducible first | exact Below.refl _ _ | apply below_alloc | apply pw_below_drewN | apply below_drew1) | exact Below.refl _ _))) hb); clear HK3; have HK3 := n_; clear n_; have n_ := Aside0.mk (Kd.R_below (by (with_reducible repeat (first | apply Kd.R_alloc | apply Kd.R_drewN | apply Kd.R_drew)); exact HOt1.out) hb); clear HOt1; have HOt1 := n_; clear n_; have n_ := Aside0.mk (Kd.R_below (by (with_reducible repeat (first | apply Kd.R_alloc | apply Kd.R_drewN | apply Kd.R_drew)); exact HOt2.out) hb); clear HOt2; have HOt2 := n_; clear n_; have HB4 := Aside0.mk (below_step (by repeat (first | (with_reducible first | exact HB3.out | apply below_alloc | apply pw_below_drewN | apply below_drew1) | exact HB3.out)) hb); have SZ4 := Aside0.mk (show w3.heap.size ≤ w4.heap.size from below_size (below_step (by repeat (first | (with_reducible first | exact Below.refl _ _ | apply below_alloc | apply pw_below_drewN | apply below_drew1) | exact Below.refl _ _)) hb)); clear hb))
  have yk3_0 : w4.cell? ⟨w.heap.size, 0, none⟩ = some (.int .i64 a3_0) := (blk_cell HK3.out 0).trans rfl
  have yk3_1 : w4.cell? ⟨w.heap.size, 1, none⟩ = some (.int .i64 a3_1) := (blk_cell HK3.out 1).trans rfl
  go_wp2_with fail
  clear yk3_0 yk3_1
  refine (laws_toIntS.calls kX0 _ _ l0 _ _ (by repeat (first | exact (Kd.C_below HR0.out HB4.out) | (with_reducible refine Kd.C_alloc ?_ _) | (with_reducible refine Kd.C_drewN ?_ _) | (with_reducible refine Kd.C_drew ?_))) HC0.out X0.out).mono ?_
  rintro e w5 ⟨v, rfl, ho, hb⟩
  have n_ := Aside0.mk (blk_below (blk_below HK3.out (by repeat (first | (with_reducible first | exact Below.refl _ _ | apply below_alloc | apply pw_below_drewN | apply below_drew1) | exact Below.refl _ _))) hb); clear HK3; have HK3 := n_; clear n_
  have HB5 := Aside0.mk (below_step (by repeat (first | (with_reducible first | exact HB4.out | apply below_alloc | apply pw_below_drewN | apply below_drew1) | exact HB4.out)) hb)
  have SZ5 := Aside0.mk (show w4.heap.size ≤ w5.heap.size from below_size (below_step (by repeat (first | (with_reducible first | exact Below.refl _ _ | apply below_alloc | apply pw_below_drewN | apply below_drew1) | exact Below.refl _ _)) hb))
  have HOx0 := Aside0.mk (R_ivw (a := w4.heap.size) (b := w.heap.size) ho (below_size (by repeat (first | (with_reducible first | exact Below.refl _ _ | apply below_alloc | apply pw_below_drewN | apply below_drew1) | exact Below.refl _ _))) (below_size (by repeat (first | (with_reducible first | exact HB4.out | apply below_alloc | apply pw_below_drewN | apply below_drew1) | exact HB4.out))))
  obtain ⟨Arx0, crx0, erx0⟩ := Kd.R_slice HOx0.out
  subst erx0
  clear ho hb
  have yk3_0 : w5.cell? ⟨w.heap.size, 0, none⟩ = some (.int .i64 a3_0) := (blk_cell HK3.out 0).trans rfl
  have yk3_1 : w5.cell? ⟨w.heap.size, 1, none⟩ = some (.int .i64 a3_1) := (blk_cell HK3.out 1).trans rfl
  go_wp2_with fail
  clear yk3_0 yk3_1
  refine (laws_toIntS.calls kX1 _ _ l1 _ _ (by repeat (first | exact (Kd.C_below HR1.out HB5.out) | (with_reducible refine Kd.C_alloc ?_ _) | (with_reducible refine Kd.C_drewN ?_ _) | (with_reducible refine Kd.C_drew ?_))) HC1.out X1.out).mono ?_
  rintro e w6 ⟨v, rfl, ho, hb⟩
  have n_ := Aside0.mk (blk_below (blk_below HK3.out (by repeat (first | (with_reducible first | exact Below.refl _ _ | apply below_alloc | apply pw_below_drewN | apply below_drew1) | exact Below.refl _ _))) hb); clear HK3; have HK3 := n_; clear n_
  have n_ := Aside0.mk (Kd.R_below (by (with_reducible repeat (first | apply Kd.R_alloc | apply Kd.R_drewN | apply Kd.R_drew)); exact HOx0.out) hb); clear HOx0; have HOx0 := n_; clear n_
  have HB6 := Aside0.mk (below_step (by repeat (first | (with_reducible first | exact HB5.out | apply below_alloc | apply pw_below_drewN | apply below_drew1) | exact HB5.out)) hb)
  have SZ6 := Aside0.mk (show w5.heap.size ≤ w6.heap.size from below_size (below_step (by repeat (first | (with_reducible first | exact Below.refl _ _ | apply below_alloc | apply pw_below_drewN | apply below_drew1) | exact Below.refl _ _)) hb))
  have HOx1 := Aside0.mk (R_ivw (a := w5.heap.size) (b := w.heap.size) ho (below_size (by repeat (first | (with_reducible first | exact Below.refl _ _ | apply below_alloc | apply pw_below_drewN | apply below_drew1) | exact Below.refl _ _))) (below_size (by repeat (first | (with_reducible first | exact HB5.out | apply below_alloc | apply pw_below_drewN | apply below_drew1) | exact HB5.out))))
  obtain ⟨Arx1, crx1, erx1⟩ := Kd.R_slice HOx1.out
  subst erx1
  clear ho hb
  have yk3_0 : w6.cell? ⟨w.heap.size, 0, none⟩ = some (.int .i64 a3_0) := (blk_cell HK3.out 0).trans rfl
  have yk3_1 : w6.cell? ⟨w.heap.size, 1, none⟩ = some (.int .i64 a3_1) := (blk_cell HK3.out 1).trans rfl
  go_wp2_with fail
  clear yk3_0 yk3_1
  refine (laws_toFraction.calls a3_0 a3_1 a3_0 a3_1 _ rfl).mono ?_
  rintro e w7 ⟨rfl, hb⟩
  have n_ := Aside0.mk (blk_below (blk_below HK3.out (by repeat (first | (with_reducible first | exact Below.refl _ _ | apply below_alloc | apply pw_below_drewN | apply below_drew1) | exact Below.refl _ _))) hb); clear HK3; have HK3 := n_; clear n_
  have n_ := Aside0.mk (Kd.R_below (by (with_reducible repeat (first | apply Kd.R_alloc | apply Kd.R_drewN | apply Kd.R_drew)); exact HOx0.out) hb); clear HOx0; have HOx0 := n_; clear n_
  have n_ := Aside0.mk (Kd.R_below (by (with_reducible repeat (first | apply Kd.R_alloc | apply Kd.R_drewN | apply Kd.R_drew)); exact HOx1.out) hb); clear HOx1; have HOx1 := n_; clear n_
  have HB7 := Aside0.mk (below_step (by repeat (first | (with_reducible first | exact HB6.out | apply below_alloc | apply pw_below_drewN | apply below_drew1) | exact HB6.out)) hb)
  have SZ7 := Aside0.mk (show w6.heap.size ≤ w7.heap.size from below_size (below_step (by repeat (first | (with_reducible first | exact Below.refl _ _ | apply below_alloc | apply pw_below_drewN | apply below_drew1) | exact Below.refl _ _)) hb))
  clear hb
  have yk3_0 : w7.cell? ⟨w.heap.size, 0, none⟩ = some (.int .i64 a3_0) := (blk_cell HK3.out 0).trans rfl
  have yk3_1 : w7.cell? ⟨w.heap.size, 1, none⟩ = some (.int .i64 a3_1) := (blk_cell HK3.out 1).trans rfl
  go_wp2_with fail
  clear yk3_0 yk3_1
  refine (impl_c _ _ l0 _ _ l1 a2 a3_0 a3_1 a4 a5 _ (by repeat (first | exact (Kd.R_reads' HOx0.out).2.2 | (with_reducible refine Kd.C_alloc ?_ _) | (with_reducible refine Kd.C_drewN ?_ _) | (with_reducible refine Kd.C_drew ?_))) (Kd.R_reads' HOx0.out).2.1 (fun hp => R_head HOx0.out hp) hv0 (by repeat (first | exact (Kd.R_reads' HOx1.out).2.2 | (with_reducible refine Kd.C_alloc ?_ _) | (with_reducible refine Kd.C_drewN ?_ _) | (with_reducible refine Kd.C_drew ?_))) (Kd.R_reads' HOx1.out).2.1 (fun hp => R_head HOx1.out hp) hv1 ).mono ?_
  rintro e w8 ⟨rfl, hb⟩
  have n_ := Aside0.mk (blk_below (blk_below HK3.out (by repeat (first | (with_reducible first | exact Below.refl _ _ | apply below_alloc | apply pw_below_drewN | apply below_drew1) | exact Below.refl _ _))) hb); clear HK3; have HK3 := n_; clear n_
  have n_ := Aside0.mk (Kd.R_below (by (with_reducible repeat (first | apply Kd.R_alloc | apply Kd.R_drewN | apply Kd.R_drew)); exact HOx0.out) hb); clear HOx0; have HOx0 := n_; clear n_
  have n_ := Aside0.mk (Kd.R_below (by (with_reducible repeat (first | apply Kd.R_alloc | apply Kd.R_drewN | apply Kd.R_drew)); exact HOx1.out) hb); clear HOx1; have HOx1 := n_; clear n_
  have HB8 := Aside0.mk (below_step (by repeat (first | (with_reducible first | exact HB7.out | apply below_alloc | apply pw_below_drewN | apply below_drew1) | exact HB7.out)) hb)
  have SZ8 := Aside0.mk (show w7.heap.size ≤ w8.heap.size from below_size (below_step (by repeat (first | (with_reducible first | exact Below.refl _ _ | apply below_alloc | apply pw_below_drewN | apply below_drew1) | exact Below.refl _ _)) hb))
  clear hb
  have yk3_0 : w8.cell? ⟨w.heap.size, 0, none⟩ = some (.int .i64 a3_0) := (blk_cell HK3.out 0).trans rfl
  have yk3_1 : w8.cell? ⟨w.heap.size, 1, none⟩ = some (.int .i64 a3_1) := (blk_cell HK3.out 1).trans rfl
  go_wp2_with fail
  clear yk3_0 yk3_1
  refine (laws_toIntS.calls kX0 _ _ l0 _ _ (by repeat (first | exact (Kd.C_below HR0.out HB8.out) | (with_reducible refine Kd.C_alloc ?_ _) | (with_reducible refine Kd.C_drewN ?_ _) | (with_reducible refine Kd.C_drew ?_))) HC0.out X0.out).mono ?_
  rintro e w9 ⟨v, rfl, ho, hb⟩
  have n_ := Aside0.mk (blk_below (blk_below HK3.out (by repeat (first | (with_reducible first | exact Below.refl _ _ | apply below_alloc | apply pw_below_drewN | apply below_drew1) | exact Below.refl _ _))) hb); clear HK3; have HK3 := n_; clear n_
  have n_ := Aside0.mk (Kd.R_below (by (with_reducible repeat (first | apply Kd.R_alloc | apply Kd.R_drewN | apply Kd.R_drew)); exact HOx0.out) hb); clear HOx0; have HOx0 := n_; clear n_
  have n_ := Aside0.mk (Kd.R_below (by (with_reducible repeat (first | apply Kd.R_alloc | apply Kd.R_drewN | apply Kd.R_drew)); exact HOx1.out) hb); clear HOx1; have HOx1 := n_; clear n_
  have HB9 := Aside0.mk (below_step (by repeat (first | (with_reducible first | exact HB8.out | apply below_alloc | apply pw_below_drewN | apply below_drew1) | exact HB8.out)) hb)
  have SZ9 := Aside0.mk (show w8.heap.size ≤ w9.heap.size from below_size (below_step (by repeat (first | (with_reducible first | exact Below.refl _ _ | apply below_alloc | apply pw_below_drewN | apply below_drew1) | exact Below.refl _ _)) hb))
  have HOt3 := Aside0.mk (R_ivw (a := w8.heap.size) (b := w.heap.size) ho (below_size (by repeat (first | (with_reducible first | exact Below.refl _ _ | apply below_alloc | apply pw_below_drewN | apply below_drew1) | exact Below.refl _ _))) (below_size (by repeat (first | (with_reducible first | exact HB8.out | apply below_alloc | apply pw_below_drewN | apply below_drew1) | exact HB8.out))))
  obtain ⟨Art3, crt3, ert3⟩ := Kd.R_slice HOt3.out
  subst ert3
  clear ho hb
  have yk3_0 : w9.cell? ⟨w.heap.size, 0, none⟩ = some (.int .i64 a3_0) := (blk_cell HK3.out 0).trans rfl
  have yk3_1 : w9.cell? ⟨w.heap.size, 1, none⟩ = some (.int .i64 a3_1) := (blk_cell HK3.out 1).trans rfl
  go_wp2_with fail
  clear yk3_0 yk3_1
  refine (laws_eqIntS.calls kX2 _ _ l0 _ _ l0 true _ (by repeat (first | exact (Kd.R_reads' HOx0.out).2.2 | (with_reducible refine Kd.C_alloc ?_ _) | (with_reducible refine Kd.C_drewN ?_ _) | (with_reducible refine Kd.C_drew ?_))) (Kd.R_reads' HOx0.out).2.1 (by repeat (first | exact (Kd.R_reads' HOt3.out).2.2 | (with_reducible refine Kd.C_alloc ?_ _) | (with_reducible refine Kd.C_drewN ?_ _) | (with_reducible refine Kd.C_drew ?_))) (Kd.R_reads' HOt3.out).2.1 X2.out).mono ?_
  rintro e w10 ⟨rfl, hb0⟩
  have hb := Drawn0.below hb0
  clear hb0
  have n_ := Aside0.mk (blk_below (blk_below HK3.out (by repeat (first | (with_reducible first | exact Below.refl _ _ | apply below_alloc | apply pw_below_drewN | apply below_drew1) | exact Below.refl _ _))) hb); clear HK3; have HK3 := n_; clear n_
  have n_ := Aside0.mk (Kd.R_below (by (with_reducible repeat (first | apply Kd.R_alloc | apply Kd.R_drewN | apply Kd.R_drew)); exact HOx0.out) hb); clear HOx0; have HOx0 := n_; clear n_
  have n_ := Aside0.mk (Kd.R_below (by (with_reducible repeat (first | apply Kd.R_alloc | apply Kd.R_drewN | apply Kd.R_drew)); exact HOx1.out) hb); clear HOx1; have HOx1 := n_; clear n_
  have n_ := Aside0.mk (Kd.R_below (by (with_reducible repeat (first | apply Kd.R_alloc | apply Kd.R_drewN | apply Kd.R_drew)); exact HOt3.out) hb); clear HOt3; have HOt3 := n_; clear n_
  have HB10 := Aside0.mk (below_step (by repeat (first | (with_reducible first | exact HB9.out | apply below_alloc | apply pw_below_drewN | apply below_drew1) | exact HB9.out)) hb)
  have SZ10 := Aside0.mk (show w9.heap.size ≤ w10.heap.size from below_size (below_step (by repeat (first | (with_reducible first | exact Below.refl _ _ | apply below_alloc | apply pw_below_drewN | apply below_drew1) | exact Below.refl _ _)) hb))
  clear hb
  have yk3_0 : w10.cell? ⟨w.heap.size, 0, none⟩ = some (.int .i64 a3_0) := (blk_cell HK3.out 0).trans rfl
  have yk3_1 : w10.cell? ⟨w.heap.size, 1, none⟩ = some (.int .i64 a3_1) := (blk_cell HK3.out 1).trans rfl
  go_wp2_with fail
  clear yk3_0 yk3_1
  refine (laws_toIntS.calls kX1 _ _ l1 _ _ (by repeat (first | exact (Kd.C_below HR1.out HB10.out) | (with_reducible refine Kd.C_alloc ?_ _) | (with_reducible refine Kd.C_drewN ?_ _) | (with_reducible refine Kd.C_drew ?_))) HC1.out X1.out).mono ?_
  rintro e w11 ⟨v, rfl, ho, hb⟩
  have n_ := Aside0.mk (blk_below (blk_below HK3.out (by repeat (first | (with_reducible first | exact Below.refl _ _ | apply below_alloc | apply pw_below_drewN | apply below_drew1) | exact Below.refl _ _))) hb); clear HK3; have HK3 := n_; clear n_
  have n_ := Aside0.mk (Kd.R_below (by (with_reducible repeat (first | apply Kd.R_alloc | apply Kd.R_drewN | apply Kd.R_drew)); exact HOx0.out) hb); clear HOx0; have HOx0 := n_; clear n_
  have n_ := Aside0.mk (Kd.R_below (by (with_reducible repeat (first | apply Kd.R_alloc | apply Kd.R_drewN | apply Kd.R_drew)); exact HOx1.out) hb); clear HOx1; have HOx1 := n_; clear n_
  have HB11 := Aside0.mk (below_step (by repeat (first | (with_reducible first | exact HB10.out | apply below_alloc | apply pw_below_drewN | apply below_drew1) | exact HB10.out)) hb)
  have SZ11 := Aside0.mk (show w10.heap.size ≤ w11.heap.size from below_size (below_step (by repeat (first | (with_reducible first | exact Below.refl _ _ | apply below_alloc | apply pw_below_drewN | apply below_drew1) | exact Below.refl _ _)) hb))
  have HOt4 := Aside0.mk (R_ivw (a := w10.heap.size) (b := w.heap.size) ho (below_size (by repeat (first | (with_reducible first | exact Below.refl _ _ | apply below_alloc | apply pw_below_drewN | apply below_drew1) | exact Below.refl _ _))) (below_size (by repeat (first | (with_reducible first | exact HB10.out | apply below_alloc | apply pw_below_drewN | apply below_drew1) | exact HB10.out))))
  obtain ⟨Art4, crt4, ert4⟩ := Kd.R_slice HOt4.out
  subst ert4
  clear ho hb
  have yk3_0 : w11.cell? ⟨w.heap.size, 0, none⟩ = some (.int .i64 a3_0) := (blk_cell HK3.out 0).trans rfl
  have yk3_1 : w11.cell? ⟨w.heap.size, 1, none⟩ = some (.int .i64 a3_1) := (blk_cell HK3.out 1).trans rfl
  go_wp2_with fail
  clear yk3_0 yk3_1
  refine (laws_eqIntS.calls kX3 _ _ l1 _ _ l1 true _ (by repeat (first | exact (Kd.R_reads' HOx1.out).2.2 | (with_reducible refine Kd.C_alloc ?_ _) | (with_reducible refine Kd.C_drewN ?_ _) | (with_reducible refine Kd.C_drew ?_))) (Kd.R_reads' HOx1.out).2.1 (by repeat (first | exact (Kd.R_reads' HOt4.out).2.2 | (with_reducible refine Kd.C_alloc ?_ _) | (with_reducible refine Kd.C_drewN ?_ _) | (with_reducible refine Kd.C_drew ?_))) (Kd.R_reads' HOt4.out).2.1 X3.out).mono ?_
  rintro e w12 ⟨rfl, hb0⟩
  have hb := Drawn0.below hb0
  clear hb0
  have n_ := Aside0.mk (blk_below (blk_below HK3.out (by repeat (first | (with_reducible first | exact Below.refl _ _ | apply below_alloc | apply pw_below_drewN | apply below_drew1) | exact Below.refl _ _))) hb); clear HK3; have HK3 := n_; clear n_
  have n_ := Aside0.mk (Kd.R_below (by (with_reducible repeat (first | apply Kd.R_alloc | apply Kd.R_drewN | apply Kd.R_drew)); exact HOx0.out) hb); clear HOx0; have HOx0 := n_; clear n_
  have n_ := Aside0.mk (Kd.R_below (by (with_reducible repeat (first | apply Kd.R_alloc | apply Kd.R_drewN | apply Kd.R_drew)); exact HOx1.out) hb); clear HOx1; have HOx1 := n_; clear n_
  have n_ := Aside0.mk (Kd.R_below (by (with_reducible repeat (first | apply Kd.R_alloc | apply Kd.R_drewN | apply Kd.R_drew)); exact HOt4.out) hb); clear HOt4; have HOt4 := n_; clear n_
  have HB12 := Aside0.mk (below_step (by repeat (first | (with_reducible first | exact HB11.out | apply below_alloc | apply pw_below_drewN | apply below_drew1) | exact HB11.out)) hb)
  have SZ12 := Aside0.mk (show w11.heap.size ≤ w12.heap.size from below_size (below_step (by repeat (first | (with_reducible first | exact Below.refl _ _ | apply below_alloc | apply pw_below_drewN | apply below_drew1) | exact Below.refl _ _)) hb))
  clear hb
  go_wp2
  go_ret
  exact ⟨rfl, (by repeat (first | (with_reducible first | exact HB12.out | apply below_alloc | apply pw_below_drewN | apply below_drew1) | exact HB12.out))⟩
end Go.Proofs.Ytacfepaemphdgaa.O
