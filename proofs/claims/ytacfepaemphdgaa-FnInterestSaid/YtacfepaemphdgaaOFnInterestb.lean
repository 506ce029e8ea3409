/- Walks of our own, a part of those for the law FnInterest: each function's contract in plain Lean. No condition beyond the bounds that each contract names. -/
import Derived.Test.YtacfepaemphdgaaPureFnInterest
import Derived.Test.YtacfepaemphdgaaOFnInteresta
namespace Go.Proofs.Ytacfepaemphdgaa.O
open Go.RowKit Go.Proofs.YtacfepaemphdgaaW.PrintWords Go.Proofs.YtacfepaemphdgaaW.PrintLast Go.Proofs.YtacfepaemphdgaaW.PrintMore Go.Proofs.Ytacfepaemphdgaa.PL15I Go.Proofs.Ytacfepaemphdgaa.EvKit Go.Proofs.Ytacfepaemphdgaa.Pure
set_option linter.unusedVariables false
set_option linter.unusedSimpArgs false
attribute [local go_sem] max2_int min2_int max_two min_two max_three min_three max_four min_four
set_option maxHeartbeats 8000000 in
set_option maxRecDepth 100000 in
theorem dayCountI_c (a b c : Int) (w : World) :
    Calls Try.prog 106 #[.int .i64 a, .int .i64 b, .int .i64 c] w fun e w' => e = .returned (.tuple #[.agg #[.int .i64 (dayCountA a b c).1, .int .i64 (dayCountA a b c).2.1], .bool (dayCountA a b c).2.2]) ∧ Below w.heap.size w w' := by
  have HB := am_ (Below.refl w.heap.size w)
  have g0_ := isDay_eq a
  by_cases c0_ : 0 ≤ a ∧ a ≤ 36524
  · rw [decide_eq_true c0_] at g0_
    have G1 := am_ g0_
    clear g0_
    have g1_ := isDay_eq b
    by_cases c1_ : 0 ≤ b ∧ b ≤ 36524
    · rw [decide_eq_true c1_] at g1_
      have G2 := am_ g1_
      clear g1_
      by_cases c2_ : ¬ b < a
      · have cb2_ : decide (¬ b < a) = true := decide_eq_true c2_
        have g3_ := within_eq c 1 4
        by_cases c3_ : 1 ≤ c ∧ c ≤ 4
        · rw [decide_eq_true c3_] at g3_
          have G3 := am_ g3_
          clear g3_
          have hv : validC a b c := ⟨c0_, c1_, by omega, c3_⟩
          have hfin : dayCountA a b c = countA a b c := by unfold dayCountA; rw [if_pos hv]
          rw [hfin]
          obtain ⟨FR, hFR⟩ : ∃ F, F = countA a b c := ⟨_, rfl⟩
          have HFR := am_ hFR.symm
          rw [← hFR]
          obtain ⟨n, d, o⟩ := FR
          clear hFR
          have HV := am_ hv
          have cab_ : decide (b < a) = false := decide_eq_false c2_
          clear hfin hv c0_ c1_ c3_
          go_enter Try.func106, Try.ntmps106
          go_wp2_with (((with_reducible refine gate_dst (N := 6) rfl ?_); refine box_event ?hg (N := 6) ?hd (cs := #[.int .i64 0,.int .i64 0]) (t := 24) ?hr ?_; (case hd => rfl); (case hg => rfl); (case hr => first | (go_simp; done) | (go_simp; rfl))); intro g1 hg w_g1 hbox hb; have n_ := am_ (below_step (by repeat first | (with_reducible first | exact HB.out | apply ba_ | apply bn_ | apply bd_) | exact HB.out) hb); have BKg1 := am_ hbox; have GEg1 := am_ (show w.heap.size ≤ g1 from by rw [hg]; exact below_size (by repeat first | (with_reducible first | exact HB.out | apply ba_ | apply bn_ | apply bd_) | exact HB.out)); clear HB ; have HB := n_; clear n_ hb hbox hg)
          refine (impl_isDay.calls a true _ G1.out).mono ?_
          rintro e w1_ ⟨rfl, hb0⟩
          have hb := db_ hb0
          clear hb0
          replace BKg1 := am_ (blk_below (blk_below BKg1.out (by repeat first | exact Below.refl _ _ | apply ba_ | apply bn_ | apply bd_)) hb); replace HB := am_ (below_step (by repeat first | (with_reducible first | exact HB.out | apply ba_ | apply bn_ | apply bd_) | exact HB.out) hb); clear hb
          go_wp2_with fail
          refine (impl_isDay.calls b true _ G2.out).mono ?_
          rintro e w2_ ⟨rfl, hb0⟩
          have hb := db_ hb0
          clear hb0
          replace BKg1 := am_ (blk_below (blk_below BKg1.out (by repeat first | exact Below.refl _ _ | apply ba_ | apply bn_ | apply bd_)) hb); replace HB := am_ (below_step (by repeat first | (with_reducible first | exact HB.out | apply ba_ | apply bn_ | apply bd_) | exact HB.out) hb); clear hb
          go_wp2_with fail
          refine (impl_within.calls c 1 4 true _ G3.out).mono ?_
          rintro e w3_ ⟨rfl, hb0⟩
          have hb := db_ hb0
          clear hb0
          replace BKg1 := am_ (blk_below (blk_below BKg1.out (by repeat first | exact Below.refl _ _ | apply ba_ | apply bn_ | apply bd_)) hb); replace HB := am_ (below_step (by repeat first | (with_reducible first | exact HB.out | apply ba_ | apply bn_ | apply bd_) | exact HB.out) hb); clear hb
          go_wp2_with fail
          refine (countI_c a b c HV.out _).mono ?_
          rw [HFR.out]
          rintro e w9_ ⟨rfl, hb⟩
          replace BKg1 := am_ (blk_below (blk_below BKg1.out (by repeat first | exact Below.refl _ _ | apply ba_ | apply bn_ | apply bd_)) hb); replace HB := am_ (below_step (by repeat first | (with_reducible first | exact HB.out | apply ba_ | apply bn_ | apply bd_) | exact HB.out) hb); clear hb
          have yg1_0 : w9_.cell? ⟨g1, 0, none⟩ = some (.int .i64 0) := (blk_cell BKg1.out 0).trans rfl; have fg1_0 := blk_frozen BKg1.out 0; have yg1_1 : w9_.cell? ⟨g1, 1, none⟩ = some (.int .i64 0) := (blk_cell BKg1.out 1).trans rfl; have fg1_1 := blk_frozen BKg1.out 1
          go_wp2
          refine bodyPost_ret (results_ct rfl _ _ g1 24 #[.int .i64 n, .int .i64 d] (0, 0) _ rfl (by (with_reducible repeat first | refine kn_ ?_ _ | refine kd_ ?_ | refine ka_ ?_ _); refine blk_put (cs := #[.int .i64 n, .int .i64 0]) ?_ 1 _ rfl; (with_reducible repeat first | refine kn_ ?_ _ | refine kd_ ?_ | refine ka_ ?_ _); refine blk_put (cs := #[.int .i64 0, .int .i64 0]) ?_ 0 _ rfl; (with_reducible repeat first | refine kn_ ?_ _ | refine kd_ ?_ | refine ka_ ?_ _); exact BKg1.out) Try.underlying24 rfl (by kernel_rfl)) rfl ?_
          exact ⟨rfl, (by repeat first | (with_reducible first | exact HB.out | apply ba_ | apply bn_ | apply bd_ | refine below_set ?_ GEg1.out) | exact HB.out)⟩
        · rw [decide_eq_false c3_] at g3_
          have G3 := am_ g3_
          clear g3_
          have hfin : dayCountA a b c = (0, 0, false) := by unfold dayCountA; rw [if_neg (fun v => c3_ v.2.2.2)]
          rw [hfin]
          clear hfin
          have cab_ : decide (b < a) = false := decide_eq_false c2_
          go_enter Try.func106, Try.ntmps106
          go_wp2_with (((with_reducible refine gate_dst (N := 6) rfl ?_); refine box_event ?hg (N := 6) ?hd (cs := #[.int .i64 0,.int .i64 0]) (t := 24) ?hr ?_; (case hd => rfl); (case hg => rfl); (case hr => first | (go_simp; done) | (go_simp; rfl))); intro g1 hg w_g1 hbox hb; have n_ := am_ (below_step (by repeat first | (with_reducible first | exact HB.out | apply ba_ | apply bn_ | apply bd_) | exact HB.out) hb); have BKg1 := am_ hbox; have GEg1 := am_ (show w.heap.size ≤ g1 from by rw [hg]; exact below_size (by repeat first | (with_reducible first | exact HB.out | apply ba_ | apply bn_ | apply bd_) | exact HB.out)); clear HB ; have HB := n_; clear n_ hb hbox hg)
          refine (impl_isDay.calls a true _ G1.out).mono ?_
          rintro e w1_ ⟨rfl, hb0⟩
          have hb := db_ hb0
          clear hb0
          replace BKg1 := am_ (blk_below (blk_below BKg1.out (by repeat first | exact Below.refl _ _ | apply ba_ | apply bn_ | apply bd_)) hb); replace HB := am_ (below_step (by repeat first | (with_reducible first | exact HB.out | apply ba_ | apply bn_ | apply bd_) | exact HB.out) hb); clear hb
          go_wp2_with fail
          refine (impl_isDay.calls b true _ G2.out).mono ?_
          rintro e w2_ ⟨rfl, hb0⟩
          have hb := db_ hb0
          clear hb0
          replace BKg1 := am_ (blk_below (blk_below BKg1.out (by repeat first | exact Below.refl _ _ | apply ba_ | apply bn_ | apply bd_)) hb); replace HB := am_ (below_step (by repeat first | (with_reducible first | exact HB.out | apply ba_ | apply bn_ | apply bd_) | exact HB.out) hb); clear hb
          go_wp2_with fail
          refine (impl_within.calls c 1 4 false _ G3.out).mono ?_
          rintro e w3_ ⟨rfl, hb0⟩
          have hb := db_ hb0
          clear hb0
          replace BKg1 := am_ (blk_below (blk_below BKg1.out (by repeat first | exact Below.refl _ _ | apply ba_ | apply bn_ | apply bd_)) hb); replace HB := am_ (below_step (by repeat first | (with_reducible first | exact HB.out | apply ba_ | apply bn_ | apply bd_) | exact HB.out) hb); clear hb
          have yg1_0 : w3_.cell? ⟨g1, 0, none⟩ = some (.int .i64 0) := (blk_cell BKg1.out 0).trans rfl; have fg1_0 := blk_frozen BKg1.out 0; have yg1_1 : w3_.cell? ⟨g1, 1, none⟩ = some (.int .i64 0) := (blk_cell BKg1.out 1).trans rfl; have fg1_1 := blk_frozen BKg1.out 1
          go_wp2
          refine bodyPost_ret (results_ct rfl _ _ g1 24 #[.int .i64 0, .int .i64 0] (0, 0) _ rfl (by (with_reducible repeat first | refine kn_ ?_ _ | refine kd_ ?_ | refine ka_ ?_ _); refine blk_put (cs := #[.int .i64 0, .int .i64 0]) ?_ 1 _ rfl; (with_reducible repeat first | refine kn_ ?_ _ | refine kd_ ?_ | refine ka_ ?_ _); refine blk_put (cs := #[.int .i64 0, .int .i64 0]) ?_ 0 _ rfl; (with_reducible repeat first | refine kn_ ?_ _ | refine kd_ ?_ | refine ka_ ?_ _); exact BKg1.out) Try.underlying24 rfl (by kernel_rfl)) rfl ?_
          exact ⟨rfl, (by repeat first | (with_reducible first | exact HB.out | apply ba_ | apply bn_ | apply bd_ | refine below_set ?_ GEg1.out) | exact HB.out)⟩
      · have cb2_ : decide (¬ b < a) = false := decide_eq_false c2_
        have hfin : dayCountA a b c = (0, 0, false) := by unfold dayCountA; rw [if_neg (fun v => c2_ (by have := v.2.2.1; omega))]
        rw [hfin]
        clear hfin
        have cab_ : decide (b < a) = true := decide_eq_true (by omega)
        go_enter Try.func106, Try.ntmps106
        go_wp2_with (((with_reducible refine gate_dst (N := 6) rfl ?_); refine box_event ?hg (N := 6) ?hd (cs := #[.int .i64 0,.int .i64 0]) (t := 24) ?hr ?_; (case hd => rfl); (case hg => rfl); (case hr => first | (go_simp; done) | (go_simp; rfl))); intro g1 hg w_g1 hbox hb; have n_ := am_ (below_step (by repeat first | (with_reducible first | exact HB.out | apply ba_ | apply bn_ | apply bd_) | exact HB.out) hb); have BKg1 := am_ hbox; have GEg1 := am_ (show w.heap.size ≤ g1 from by rw [hg]; exact below_size (by repeat first | (with_reducible first | exact HB.out | apply ba_ | apply bn_ | apply bd_) | exact HB.out)); clear HB ; have HB := n_; clear n_ hb hbox hg)
        refine (impl_isDay.calls a true _ G1.out).mono ?_
        rintro e w1_ ⟨rfl, hb0⟩
        have hb := db_ hb0
        clear hb0
        replace BKg1 := am_ (blk_below (blk_below BKg1.out (by repeat first | exact Below.refl _ _ | apply ba_ | apply bn_ | apply bd_)) hb); replace HB := am_ (below_step (by repeat first | (with_reducible first | exact HB.out | apply ba_ | apply bn_ | apply bd_) | exact HB.out) hb); clear hb
        go_wp2_with fail
        refine (impl_isDay.calls b true _ G2.out).mono ?_
        rintro e w2_ ⟨rfl, hb0⟩
        have hb := db_ hb0
        clear hb0
        replace BKg1 := am_ (blk_below (blk_below BKg1.out (by repeat first | exact Below.refl _ _ | apply ba_ | apply bn_ | apply bd_)) hb); replace HB := am_ (below_step (by repeat first | (with_reducible first | exact HB.out | apply ba_ | apply bn_ | apply bd_) | exact HB.out) hb); clear hb
        have yg1_0 : w2_.cell? ⟨g1, 0, none⟩ = some (.int .i64 0) := (blk_cell BKg1.out 0).trans rfl; have fg1_0 := blk_frozen BKg1.out 0; have yg1_1 : w2_.cell? ⟨g1, 1, none⟩ = some (.int .i64 0) := (blk_cell BKg1.out 1).trans rfl; have fg1_1 := blk_frozen BKg1.out 1
        go_wp2
        refine bodyPost_ret (results_ct rfl _ _ g1 24 #[.int .i64 0, .int .i64 0] (0, 0) _ rfl (by (with_reducible repeat first | refine kn_ ?_ _ | refine kd_ ?_ | refine ka_ ?_ _); refine blk_put (cs := #[.int .i64 0, .int .i64 0]) ?_ 1 _ rfl; (with_reducible repeat first | refine kn_ ?_ _ | refine kd_ ?_ | refine ka_ ?_ _); refine blk_put (cs := #[.int .i64 0, .int .i64 0]) ?_ 0 _ rfl; (with_reducible repeat first | refine kn_ ?_ _ | refine kd_ ?_ | refine ka_ ?_ _); exact BKg1.out) Try.underlying24 rfl (by kernel_rfl)) rfl ?_
        exact ⟨rfl, (by repeat first | (with_reducible first | exact HB.out | apply ba_ | apply bn_ | apply bd_ | refine below_set ?_ GEg1.out) | exact HB.out)⟩
    · rw [decide_eq_false c1_] at g1_
      have G2 := am_ g1_
      clear g1_
      have hfin : dayCountA a b c = (0, 0, false) := by unfold dayCountA; rw [if_neg (fun v => c1_ v.2.1)]
      rw [hfin]
      clear hfin
      go_enter Try.func106, Try.ntmps106
      go_wp2_with (((with_reducible refine gate_dst (N := 6) rfl ?_); refine box_event ?hg (N := 6) ?hd (cs := #[.int .i64 0,.int .i64 0]) (t := 24) ?hr ?_; (case hd => rfl); (case hg => rfl); (case hr => first | (go_simp; done) | (go_simp; rfl))); intro g1 hg w_g1 hbox hb; have n_ := am_ (below_step (by repeat first | (with_reducible first | exact HB.out | apply ba_ | apply bn_ | apply bd_) | exact HB.out) hb); have BKg1 := am_ hbox; have GEg1 := am_ (show w.heap.size ≤ g1 from by rw [hg]; exact below_size (by repeat first | (with_reducible first | exact HB.out | apply ba_ | apply bn_ | apply bd_) | exact HB.out)); clear HB ; have HB := n_; clear n_ hb hbox hg)
      refine (impl_isDay.calls a true _ G1.out).mono ?_
      rintro e w1_ ⟨rfl, hb0⟩
      have hb := db_ hb0
      clear hb0
      replace BKg1 := am_ (blk_below (blk_below BKg1.out (by repeat first | exact Below.refl _ _ | apply ba_ | apply bn_ | apply bd_)) hb); replace HB := am_ (below_step (by repeat first | (with_reducible first | exact HB.out | apply ba_ | apply bn_ | apply bd_) | exact HB.out) hb); clear hb
      go_wp2_with fail
      refine (impl_isDay.calls b false _ G2.out).mono ?_
      rintro e w2_ ⟨rfl, hb0⟩
      have hb := db_ hb0
      clear hb0
      replace BKg1 := am_ (blk_below (blk_below BKg1.out (by repeat first | exact Below.refl _ _ | apply ba_ | apply bn_ | apply bd_)) hb); replace HB := am_ (below_step (by repeat first | (with_reducible first | exact HB.out | apply ba_ | apply bn_ | apply bd_) | exact HB.out) hb); clear hb
      have yg1_0 : w2_.cell? ⟨g1, 0, none⟩ = some (.int .i64 0) := (blk_cell BKg1.out 0).trans rfl; have fg1_0 := blk_frozen BKg1.out 0; have yg1_1 : w2_.cell? ⟨g1, 1, none⟩ = some (.int .i64 0) := (blk_cell BKg1.out 1).trans rfl; have fg1_1 := blk_frozen BKg1.out 1
      go_wp2
      refine bodyPost_ret (results_ct rfl _ _ g1 24 #[.int .i64 0, .int .i64 0] (0, 0) _ rfl (by (with_reducible repeat first | refine kn_ ?_ _ | refine kd_ ?_ | refine ka_ ?_ _); refine blk_put (cs := #[.int .i64 0, .int .i64 0]) ?_ 1 _ rfl; (with_reducible repeat first | refine kn_ ?_ _ | refine kd_ ?_ | refine ka_ ?_ _); refine blk_put (cs := #[.int .i64 0, .int .i64 0]) ?_ 0 _ rfl; (with_reducible repeat first | refine kn_ ?_ _ | refine kd_ ?_ | refine ka_ ?_ _); exact BKg1.out) Try.underlying24 rfl (by kernel_rfl)) rfl ?_
      exact ⟨rfl, (by repeat first | (with_reducible first | exact HB.out | apply ba_ | apply bn_ | apply bd_ | refine below_set ?_ GEg1.out) | exact HB.out)⟩
  · rw [decide_eq_false c0_] at g0_
    have G1 := am_ g0_
    clear g0_
    have hfin : dayCountA a b c = (0, 0, false) := by unfold dayCountA; rw [if_neg (fun v => c0_ v.1)]
    rw [hfin]
    clear hfin
    go_enter Try.func106, Try.ntmps106
    go_wp2_with (((with_reducible refine gate_dst (N := 6) rfl ?_); refine box_event ?hg (N := 6) ?hd (cs := #[.int .i64 0,.int .i64 0]) (t := 24) ?hr ?_; (case hd => rfl); (case hg => rfl); (case hr => first | (go_simp; done) | (go_simp; rfl))); intro g1 hg w_g1 hbox hb; have n_ := am_ (below_step (by repeat first | (with_reducible first | exact HB.out | apply ba_ | apply bn_ | apply bd_) | exact HB.out) hb); have BKg1 := am_ hbox; have GEg1 := am_ (show w.heap.size ≤ g1 from by rw [hg]; exact below_size (by repeat first | (with_reducible first | exact HB.out | apply ba_ | apply bn_ | apply bd_) | exact HB.out)); clear HB ; have HB := n_; clear n_ hb hbox hg)
    refine (impl_isDay.calls a false _ G1.out).mono ?_
    rintro e w1_ ⟨rfl, hb0⟩
    have hb := db_ hb0
    clear hb0
    replace BKg1 := am_ (blk_below (blk_below BKg1.out (by repeat first | exact Below.refl _ _ | apply ba_ | apply bn_ | apply bd_)) hb); replace HB := am_ (below_step (by repeat first | (with_reducible first | exact HB.out | apply ba_ | apply bn_ | apply bd_) | exact HB.out) hb); clear hb
    have yg1_0 : w1_.cell? ⟨g1, 0, none⟩ = some (.int .i64 0) := (blk_cell BKg1.out 0).trans rfl; have fg1_0 := blk_frozen BKg1.out 0; have yg1_1 : w1_.cell? ⟨g1, 1, none⟩ = some (.int .i64 0) := (blk_cell BKg1.out 1).trans rfl; have fg1_1 := blk_frozen BKg1.out 1
    go_wp2
    refine bodyPost_ret (results_ct rfl _ _ g1 24 #[.int .i64 0, .int .i64 0] (0, 0) _ rfl (by (with_reducible repeat first | refine kn_ ?_ _ | refine kd_ ?_ | refine ka_ ?_ _); refine blk_put (cs := #[.int .i64 0, .int .i64 0]) ?_ 1 _ rfl; (with_reducible repeat first | refine kn_ ?_ _ | refine kd_ ?_ | refine ka_ ?_ _); refine blk_put (cs := #[.int .i64 0, .int .i64 0]) ?_ 0 _ rfl; (with_reducible repeat first | refine kn_ ?_ _ | refine kd_ ?_ | refine ka_ ?_ _); exact BKg1.out) Try.underlying24 rfl (by kernel_rfl)) rfl ?_
    exact ⟨rfl, (by repeat first | (with_reducible first | exact HB.out | apply ba_ | apply bn_ | apply bd_ | refine below_set ?_ GEg1.out) | exact HB.out)⟩
set_option maxHeartbeats 8000000 in
set_option maxRecDepth 100000 in
theorem growthI_c (n d x y c : Int) (w : World) :
    Calls Try.prog 55 #[.agg #[.int .i64 n, .int .i64 d], .int .i64 x, .int .i64 y, .int .i64 c] w fun e w' => e = .returned (.tuple #[.agg #[.int .i64 (growthA n d x y c).1, .int .i64 (growthA n d x y c).2.1], .bool (growthA n d x y c).2.2]) ∧ Below w.heap.size w w' := by
  have HB := am_ (Below.refl w.heap.size w)
  obtain ⟨DC, hDC⟩ : ∃ F, F = dayCountA x y c := ⟨_, rfl⟩
  have HDC := am_ hDC.symm
  obtain ⟨n1, d1, ok⟩ := DC
  cases ok with
  | false =>
    have hfin : growthA n d x y c = (0, 0, false) := by unfold growthA; rw [← hDC]; rfl
    rw [hfin]
    clear hfin hDC
    go_enter Try.func55, Try.ntmps55
    go_wp2_with (first
      | (((with_reducible refine gate_dst (N := 4) rfl ?_); refine box_event ?hg (N := 4) ?hd (cs := #[.int .i64 n,.int .i64 d]) (t := 24) ?hr ?_; (case hd => rfl); (case hg => rfl); (case hr => first | (go_simp; done) | (go_simp; rfl))); intro g1 hg w_g1 hbox hb; have n_ := am_ (below_step (by repeat first | (with_reducible first | exact HB.out | apply ba_ | apply bn_ | apply bd_) | exact HB.out) hb); have BKg1 := am_ hbox; have GEg1 := am_ (show w.heap.size ≤ g1 from by rw [hg]; exact below_size (by repeat first | (with_reducible first | exact HB.out | apply ba_ | apply bn_ | apply bd_) | exact HB.out)); clear HB ; have HB := n_; clear n_ hb hbox hg)
      | (((with_reducible refine gate_dst (N := 8) rfl ?_); refine box_event ?hg (N := 8) ?hd (cs := #[.int .i64 0,.int .i64 0]) (t := 24) ?hr ?_; (case hd => rfl); (case hg => rfl); (case hr => first | (go_simp; done) | (go_simp; rfl))); intro g2 hg w_g2 hbox hb; have n_ := am_ (below_step (by repeat first | (with_reducible first | exact HB.out | apply ba_ | apply bn_ | apply bd_ | refine below_set ?_ GEg1.out) | exact HB.out) hb); have m_g1 := am_ (blk_below (blk_below BKg1.out (by repeat first | exact Below.refl _ _ | apply ba_ | apply bn_ | apply bd_)) hb); have NEg1_g2 := am_ (show g1 ≠ g2 from by rw [hg]; exact Nat.ne_of_lt (blk_lt (blk_below BKg1.out (by repeat first | exact Below.refl _ _ | apply ba_ | apply bn_ | apply bd_)))); have NEg2_g1 := am_ (Ne.symm NEg1_g2.out); have BKg2 := am_ hbox; have GEg2 := am_ (show w.heap.size ≤ g2 from by rw [hg]; exact below_size (by repeat first | (with_reducible first | exact HB.out | apply ba_ | apply bn_ | apply bd_ | refine below_set ?_ GEg1.out) | exact HB.out)); clear HB BKg1; have HB := n_; clear n_ hb hbox hg; have BKg1 := m_g1; clear m_g1)
      )
    refine (dayCountI_c x y c _).mono ?_
    rw [HDC.out]
    rintro e w1_ ⟨rfl, hb⟩
    replace BKg1 := am_ (blk_below (blk_below BKg1.out (by repeat first | exact Below.refl _ _ | apply ba_ | apply bn_ | apply bd_)) hb); replace BKg2 := am_ (blk_below (blk_below BKg2.out (by repeat first | exact Below.refl _ _ | apply ba_ | apply bn_ | apply bd_)) hb); replace HB := am_ (below_step (by repeat first | (with_reducible first | exact HB.out | apply ba_ | apply bn_ | apply bd_) | exact HB.out) hb); clear hb
    go_wp2_with ((((with_reducible refine gate_dst (N := 10) rfl ?_); refine box_event ?hg (N := 10) ?hd (cs := #[.int .i64 0, .int .i64 0]) (t := 24) ?hr ?_; (case hd => rfl); (case hg => rfl); (case hr => first | (go_simp; done) | (go_simp; rfl))); intro g3 hg w_g3 hbox hb; have n_ := am_ (below_step (by repeat first | (with_reducible first | exact HB.out | apply ba_ | apply bn_ | apply bd_ | refine below_set ?_ GEg1.out | refine below_set ?_ GEg2.out) | exact HB.out) hb); have m_g1 := am_ (blk_below (blk_below BKg1.out (by repeat first | exact Below.refl _ _ | apply ba_ | apply bn_ | apply bd_)) hb); have NEg1_g3 := am_ (show g1 ≠ g3 from by rw [hg]; exact Nat.ne_of_lt (blk_lt (blk_below BKg1.out (by repeat first | exact Below.refl _ _ | apply ba_ | apply bn_ | apply bd_)))); have NEg3_g1 := am_ (Ne.symm NEg1_g3.out); have m_g2 := am_ (blk_below (blk_below BKg2.out (by repeat first | exact Below.refl _ _ | apply ba_ | apply bn_ | apply bd_)) hb); have NEg2_g3 := am_ (show g2 ≠ g3 from by rw [hg]; exact Nat.ne_of_lt (blk_lt (blk_below BKg2.out (by repeat first | exact Below.refl _ _ | apply ba_ | apply bn_ | apply bd_)))); have NEg3_g2 := am_ (Ne.symm NEg2_g3.out); have BKg3 := am_ hbox; have GEg3 := am_ (show w.heap.size ≤ g3 from by rw [hg]; exact below_size (by repeat first | (with_reducible first | exact HB.out | apply ba_ | apply bn_ | apply bd_ | refine below_set ?_ GEg1.out | refine below_set ?_ GEg2.out) | exact HB.out)); clear HB BKg1 BKg2; have HB := n_; clear n_ hb hbox hg; have BKg1 := m_g1; clear m_g1; have BKg2 := m_g2; clear m_g2); have yg2_0 : w_g3.cell? ⟨g2, 0, none⟩ = some (.int .i64 0) := (blk_cell BKg2.out 0).trans rfl; have fg2_0 := blk_frozen BKg2.out 0; have yg2_1 : w_g3.cell? ⟨g2, 1, none⟩ = some (.int .i64 0) := (blk_cell BKg2.out 1).trans rfl; have fg2_1 := blk_frozen BKg2.out 1; have yg3_0 : w_g3.cell? ⟨g3, 0, none⟩ = some (.int .i64 0) := (blk_cell BKg3.out 0).trans rfl; have fg3_0 := blk_frozen BKg3.out 0; have yg3_1 : w_g3.cell? ⟨g3, 1, none⟩ = some (.int .i64 0) := (blk_cell BKg3.out 1).trans rfl; have fg3_1 := blk_frozen BKg3.out 1; have hn1_ := NEg2_g3.out; have hn2_ := NEg3_g2.out)
    refine bodyPost_ret (results_ct rfl _ _ g2 24 #[.int .i64 0, .int .i64 0] (0, 0) _ rfl (by (with_reducible repeat first | refine kn_ ?_ _ | refine kd_ ?_ | refine ka_ ?_ _); refine blk_put (cs := #[.int .i64 0, .int .i64 0]) ?_ 1 _ rfl; (with_reducible repeat first | refine kn_ ?_ _ | refine kd_ ?_ | refine ka_ ?_ _); refine blk_put (cs := #[.int .i64 0, .int .i64 0]) ?_ 0 _ rfl; (with_reducible repeat first | refine kn_ ?_ _ | refine kd_ ?_ | refine ka_ ?_ _ | refine kf_ ?_ NEg2_g3.out _); exact BKg2.out) Try.underlying24 rfl (by kernel_rfl)) rfl ?_
    exact ⟨rfl, (by repeat first | (with_reducible first | exact HB.out | apply ba_ | apply bn_ | apply bd_ | refine below_set ?_ GEg1.out | refine below_set ?_ GEg2.out | refine below_set ?_ GEg3.out) | exact HB.out)⟩
  | true =>
    have hfin : growthA n d x y c = multA n d n1 d1 := by unfold growthA; rw [← hDC]; rfl
    rw [hfin]
    obtain ⟨FR, hFR⟩ : ∃ F, F = multA n d n1 d1 := ⟨_, rfl⟩
    have HFR := am_ hFR.symm
    rw [← hFR]
    obtain ⟨n2, d2, o2⟩ := FR
    clear hFR
    clear hfin hDC
    go_enter Try.func55, Try.ntmps55
    go_wp2_with (first
      | (((with_reducible refine gate_dst (N := 4) rfl ?_); refine box_event ?hg (N := 4) ?hd (cs := #[.int .i64 n,.int .i64 d]) (t := 24) ?hr ?_; (case hd => rfl); (case hg => rfl); (case hr => first | (go_simp; done) | (go_simp; rfl))); intro g1 hg w_g1 hbox hb; have n_ := am_ (below_step (by repeat first | (with_reducible first | exact HB.out | apply ba_ | apply bn_ | apply bd_) | exact HB.out) hb); have BKg1 := am_ hbox; have GEg1 := am_ (show w.heap.size ≤ g1 from by rw [hg]; exact below_size (by repeat first | (with_reducible first | exact HB.out | apply ba_ | apply bn_ | apply bd_) | exact HB.out)); clear HB ; have HB := n_; clear n_ hb hbox hg)
      | (((with_reducible refine gate_dst (N := 8) rfl ?_); refine box_event ?hg (N := 8) ?hd (cs := #[.int .i64 0,.int .i64 0]) (t := 24) ?hr ?_; (case hd => rfl); (case hg => rfl); (case hr => first | (go_simp; done) | (go_simp; rfl))); intro g2 hg w_g2 hbox hb; have n_ := am_ (below_step (by repeat first | (with_reducible first | exact HB.out | apply ba_ | apply bn_ | apply bd_ | refine below_set ?_ GEg1.out) | exact HB.out) hb); have m_g1 := am_ (blk_below (blk_below BKg1.out (by repeat first | exact Below.refl _ _ | apply ba_ | apply bn_ | apply bd_)) hb); have NEg1_g2 := am_ (show g1 ≠ g2 from by rw [hg]; exact Nat.ne_of_lt (blk_lt (blk_below BKg1.out (by repeat first | exact Below.refl _ _ | apply ba_ | apply bn_ | apply bd_)))); have NEg2_g1 := am_ (Ne.symm NEg1_g2.out); have BKg2 := am_ hbox; have GEg2 := am_ (show w.heap.size ≤ g2 from by rw [hg]; exact below_size (by repeat first | (with_reducible first | exact HB.out | apply ba_ | apply bn_ | apply bd_ | refine below_set ?_ GEg1.out) | exact HB.out)); clear HB BKg1; have HB := n_; clear n_ hb hbox hg; have BKg1 := m_g1; clear m_g1)
      )
    refine (dayCountI_c x y c _).mono ?_
    rw [HDC.out]
    rintro e w1_ ⟨rfl, hb⟩
    replace BKg1 := am_ (blk_below (blk_below BKg1.out (by repeat first | exact Below.refl _ _ | apply ba_ | apply bn_ | apply bd_)) hb); replace BKg2 := am_ (blk_below (blk_below BKg2.out (by repeat first | exact Below.refl _ _ | apply ba_ | apply bn_ | apply bd_)) hb); replace HB := am_ (below_step (by repeat first | (with_reducible first | exact HB.out | apply ba_ | apply bn_ | apply bd_) | exact HB.out) hb); clear hb
    go_wp2_with ((((with_reducible refine gate_dst (N := 10) rfl ?_); refine box_event ?hg (N := 10) ?hd (cs := #[.int .i64 0, .int .i64 0]) (t := 24) ?hr ?_; (case hd => rfl); (case hg => rfl); (case hr => first | (go_simp; done) | (go_simp; rfl))); intro g3 hg w_g3 hbox hb; have n_ := am_ (below_step (by repeat first | (with_reducible first | exact HB.out | apply ba_ | apply bn_ | apply bd_ | refine below_set ?_ GEg1.out | refine below_set ?_ GEg2.out) | exact HB.out) hb); have m_g1 := am_ (blk_below (blk_below BKg1.out (by repeat first | exact Below.refl _ _ | apply ba_ | apply bn_ | apply bd_)) hb); have NEg1_g3 := am_ (show g1 ≠ g3 from by rw [hg]; exact Nat.ne_of_lt (blk_lt (blk_below BKg1.out (by repeat first | exact Below.refl _ _ | apply ba_ | apply bn_ | apply bd_)))); have NEg3_g1 := am_ (Ne.symm NEg1_g3.out); have m_g2 := am_ (blk_below (blk_below BKg2.out (by repeat first | exact Below.refl _ _ | apply ba_ | apply bn_ | apply bd_)) hb); have NEg2_g3 := am_ (show g2 ≠ g3 from by rw [hg]; exact Nat.ne_of_lt (blk_lt (blk_below BKg2.out (by repeat first | exact Below.refl _ _ | apply ba_ | apply bn_ | apply bd_)))); have NEg3_g2 := am_ (Ne.symm NEg2_g3.out); have BKg3 := am_ hbox; have GEg3 := am_ (show w.heap.size ≤ g3 from by rw [hg]; exact below_size (by repeat first | (with_reducible first | exact HB.out | apply ba_ | apply bn_ | apply bd_ | refine below_set ?_ GEg1.out | refine below_set ?_ GEg2.out) | exact HB.out)); clear HB BKg1 BKg2; have HB := n_; clear n_ hb hbox hg; have BKg1 := m_g1; clear m_g1; have BKg2 := m_g2; clear m_g2); have yg1_0 : w_g3.cell? ⟨g1, 0, none⟩ = some (.int .i64 n) := (blk_cell BKg1.out 0).trans rfl; have fg1_0 := blk_frozen BKg1.out 0; have yg1_1 : w_g3.cell? ⟨g1, 1, none⟩ = some (.int .i64 d) := (blk_cell BKg1.out 1).trans rfl; have fg1_1 := blk_frozen BKg1.out 1; have yg3_0 : w_g3.cell? ⟨g3, 0, none⟩ = some (.int .i64 0) := (blk_cell BKg3.out 0).trans rfl; have fg3_0 := blk_frozen BKg3.out 0; have yg3_1 : w_g3.cell? ⟨g3, 1, none⟩ = some (.int .i64 0) := (blk_cell BKg3.out 1).trans rfl; have fg3_1 := blk_frozen BKg3.out 1; have hn1_ := NEg1_g3.out; have hn2_ := NEg3_g1.out)
    refine (multI_c n d n1 d1 _).mono ?_
    rw [HFR.out]
    rintro e v1_ ⟨rfl, hb⟩
    have m_g2 := am_ (blk_below (g := g2) (o := .cells #[.int .i64 0, .int .i64 0] 24 (0, 0)) (by repeat (with_reducible first | exact BKg2.out | refine kn_ ?_ _ | refine kd_ ?_ | refine ka_ ?_ _ | refine kf_ ?_ NEg2_g3.out _)) hb)
    have n_ := am_ (below_step (by repeat first | (with_reducible first | exact HB.out | apply ba_ | apply bn_ | apply bd_ | refine below_set ?_ GEg3.out) | exact HB.out) hb)
    clear HB hb BKg2 BKg1 BKg3
    have HB := n_
    clear n_
    have BKg2 := m_g2
    clear m_g2
    have yg2_0 : v1_.cell? ⟨g2, 0, none⟩ = some (.int .i64 0) := (blk_cell BKg2.out 0).trans rfl; have fg2_0 := blk_frozen BKg2.out 0; have yg2_1 : v1_.cell? ⟨g2, 1, none⟩ = some (.int .i64 0) := (blk_cell BKg2.out 1).trans rfl; have fg2_1 := blk_frozen BKg2.out 1
    go_wp2
    refine bodyPost_ret (results_ct rfl _ _ g2 24 #[.int .i64 n2, .int .i64 d2] (0, 0) _ rfl (by (with_reducible repeat first | refine kn_ ?_ _ | refine kd_ ?_ | refine ka_ ?_ _); refine blk_put (cs := #[.int .i64 n2, .int .i64 0]) ?_ 1 _ rfl; (with_reducible repeat first | refine kn_ ?_ _ | refine kd_ ?_ | refine ka_ ?_ _); refine blk_put (cs := #[.int .i64 0, .int .i64 0]) ?_ 0 _ rfl; (with_reducible repeat first | refine kn_ ?_ _ | refine kd_ ?_ | refine ka_ ?_ _); exact BKg2.out) Try.underlying24 rfl (by kernel_rfl)) rfl ?_
    exact ⟨rfl, (by repeat first | (with_reducible first | exact HB.out | apply ba_ | apply bn_ | apply bd_ | refine below_set ?_ GEg1.out | refine below_set ?_ GEg2.out | refine below_set ?_ GEg3.out) | exact HB.out)⟩
set_option maxHeartbeats 8000000 in
set_option maxRecDepth 100000 in
theorem accrueI_c (p n d x y c mode : Int) (w : World) :
    Calls Try.prog 19 #[.int .i64 p, .agg #[.int .i64 n, .int .i64 d], .int .i64 x, .int .i64 y, .int .i64 c, .int .i64 mode] w fun e w' => e = .returned (.tuple #[.int .i64 (accrueA p n d x y c mode).1, .bool (accrueA p n d x y c mode).2]) ∧ Below w.heap.size w w' := by
  have HB := am_ (Below.refl w.heap.size w)
  obtain ⟨kr, hr⟩ := roundsOf (implInterest_ev n d c mode)
  have g0_ := within_eq p 0 1000000000
  by_cases c0_ : 0 ≤ p ∧ p ≤ 1000000000
  · rw [decide_eq_true c0_] at g0_
    have G1 := am_ g0_
    clear g0_
    have g1_ := hr
    by_cases c1_ : intOk n d c mode
    · rw [decide_eq_true c1_] at g1_
      have G2 := am_ g1_
      clear g1_
      obtain ⟨GR, hGR⟩ : ∃ F, F = growthA n d x y c := ⟨_, rfl⟩
      have HGR := am_ hGR.symm
      obtain ⟨n1, d1, ok⟩ := GR
      cases ok with
      | false =>
        have hfin : accrueA p n d x y c mode = (0, false) := by rw [show accrueA p n d x y c mode = _ from by unfold accrueA; rw [if_pos ⟨c0_, c1_⟩], ← hGR]; rfl
        rw [hfin]
        clear hfin hGR
        go_enter Try.func19, Try.ntmps19
        go_wp2_with (((with_reducible refine gate_dst (N := 7) rfl ?_); refine box_event ?hg (N := 7) ?hd (cs := #[.int .i64 n,.int .i64 d]) (t := 24) ?hr ?_; (case hd => rfl); (case hg => rfl); (case hr => first | (go_simp; done) | (go_simp; rfl))); intro g1 hg w_g1 hbox hb; have n_ := am_ (below_step (by repeat first | (with_reducible first | exact HB.out | apply ba_ | apply bn_ | apply bd_) | exact HB.out) hb); have BKg1 := am_ hbox; have GEg1 := am_ (show w.heap.size ≤ g1 from by rw [hg]; exact below_size (by repeat first | (with_reducible first | exact HB.out | apply ba_ | apply bn_ | apply bd_) | exact HB.out)); clear HB ; have HB := n_; clear n_ hb hbox hg)
        refine (impl_within.calls p 0 1000000000 true _ G1.out).mono ?_
        rintro e w1_ ⟨rfl, hb0⟩
        have hb := db_ hb0
        clear hb0
        replace BKg1 := am_ (blk_below (blk_below BKg1.out (by repeat first | exact Below.refl _ _ | apply ba_ | apply bn_ | apply bd_)) hb); replace HB := am_ (below_step (by repeat first | (with_reducible first | exact HB.out | apply ba_ | apply bn_ | apply bd_) | exact HB.out) hb); clear hb
        have yg1_0 : w1_.cell? ⟨g1, 0, none⟩ = some (.int .i64 n) := (blk_cell BKg1.out 0).trans rfl; have fg1_0 := blk_frozen BKg1.out 0; have yg1_1 : w1_.cell? ⟨g1, 1, none⟩ = some (.int .i64 d) := (blk_cell BKg1.out 1).trans rfl; have fg1_1 := blk_frozen BKg1.out 1
        go_wp2_with fail
        clear yg1_0 fg1_0 yg1_1 fg1_1
        refine (impl_isInterest.calls kr n d c mode true _ G2.out).mono ?_
        rintro e w2_ ⟨rfl, hb⟩
        replace BKg1 := am_ (blk_below (blk_below BKg1.out (by repeat first | exact Below.refl _ _ | apply ba_ | apply bn_ | apply bd_)) hb); replace HB := am_ (below_step (by repeat first | (with_reducible first | exact HB.out | apply ba_ | apply bn_ | apply bd_) | exact HB.out) hb); clear hb
        have yg1_0 : w2_.cell? ⟨g1, 0, none⟩ = some (.int .i64 n) := (blk_cell BKg1.out 0).trans rfl; have fg1_0 := blk_frozen BKg1.out 0; have yg1_1 : w2_.cell? ⟨g1, 1, none⟩ = some (.int .i64 d) := (blk_cell BKg1.out 1).trans rfl; have fg1_1 := blk_frozen BKg1.out 1
        go_wp2_with fail
        clear yg1_0 fg1_0 yg1_1 fg1_1
        refine (growthI_c n d x y c _).mono ?_
        rw [HGR.out]
        rintro e w9_ ⟨rfl, hb⟩
        replace BKg1 := am_ (blk_below (blk_below BKg1.out (by repeat first | exact Below.refl _ _ | apply ba_ | apply bn_ | apply bd_)) hb); replace HB := am_ (below_step (by repeat first | (with_reducible first | exact HB.out | apply ba_ | apply bn_ | apply bd_) | exact HB.out) hb); clear hb
        go_wp2_with ((((with_reducible refine gate_dst (N := 14) rfl ?_); refine box_event ?hg (N := 14) ?hd (cs := #[.int .i64 0, .int .i64 0]) (t := 24) ?hr ?_; (case hd => rfl); (case hg => rfl); (case hr => first | (go_simp; done) | (go_simp; rfl))); intro g3 hg w_g3 hbox hb; have n_ := am_ (below_step (by repeat first | (with_reducible first | exact HB.out | apply ba_ | apply bn_ | apply bd_ | refine below_set ?_ GEg1.out) | exact HB.out) hb); have m_g1 := am_ (blk_below (blk_below BKg1.out (by repeat first | exact Below.refl _ _ | apply ba_ | apply bn_ | apply bd_)) hb); have NEg1_g3 := am_ (show g1 ≠ g3 from by rw [hg]; exact Nat.ne_of_lt (blk_lt (blk_below BKg1.out (by repeat first | exact Below.refl _ _ | apply ba_ | apply bn_ | apply bd_)))); have NEg3_g1 := am_ (Ne.symm NEg1_g3.out); have BKg3 := am_ hbox; have GEg3 := am_ (show w.heap.size ≤ g3 from by rw [hg]; exact below_size (by repeat first | (with_reducible first | exact HB.out | apply ba_ | apply bn_ | apply bd_ | refine below_set ?_ GEg1.out) | exact HB.out)); clear HB BKg1; have HB := n_; clear n_ hb hbox hg; have BKg1 := m_g1; clear m_g1); have yg3_0 : w_g3.cell? ⟨g3, 0, none⟩ = some (.int .i64 0) := (blk_cell BKg3.out 0).trans rfl; have fg3_0 := blk_frozen BKg3.out 0; have yg3_1 : w_g3.cell? ⟨g3, 1, none⟩ = some (.int .i64 0) := (blk_cell BKg3.out 1).trans rfl; have fg3_1 := blk_frozen BKg3.out 1)
        go_ret2
        exact ⟨rfl, (by repeat first | (with_reducible first | exact HB.out | apply ba_ | apply bn_ | apply bd_ | refine below_set ?_ GEg1.out | refine below_set ?_ GEg3.out) | exact HB.out)⟩
      | true =>
        have hfin : accrueA p n d x y c mode = scaleA p n1 d1 mode := by rw [show accrueA p n d x y c mode = _ from by unfold accrueA; rw [if_pos ⟨c0_, c1_⟩], ← hGR]; rfl
        rw [hfin]
        obtain ⟨SC, hSC⟩ : ∃ F, F = scaleA p n1 d1 mode := ⟨_, rfl⟩
        obtain ⟨k, hk⟩ := roundsOf (implScale_ev p n1 d1 mode)
        rw [← hSC] at hk ⊢
        obtain ⟨sv, so⟩ := SC
        have HK := am_ hk
        clear hk hSC
        clear hfin hGR
        go_enter Try.func19, Try.ntmps19
        go_wp2_with (((with_reducible refine gate_dst (N := 7) rfl ?_); refine box_event ?hg (N := 7) ?hd (cs := #[.int .i64 n,.int .i64 d]) (t := 24) ?hr ?_; (case hd => rfl); (case hg => rfl); (case hr => first | (go_simp; done) | (go_simp; rfl))); intro g1 hg w_g1 hbox hb; have n_ := am_ (below_step (by repeat first | (with_reducible first | exact HB.out | apply ba_ | apply bn_ | apply bd_) | exact HB.out) hb); have BKg1 := am_ hbox; have GEg1 := am_ (show w.heap.size ≤ g1 from by rw [hg]; exact below_size (by repeat first | (with_reducible first | exact HB.out | apply ba_ | apply bn_ | apply bd_) | exact HB.out)); clear HB ; have HB := n_; clear n_ hb hbox hg)
        refine (impl_within.calls p 0 1000000000 true _ G1.out).mono ?_
        rintro e w1_ ⟨rfl, hb0⟩
        have hb := db_ hb0
        clear hb0
        replace BKg1 := am_ (blk_below (blk_below BKg1.out (by repeat first | exact Below.refl _ _ | apply ba_ | apply bn_ | apply bd_)) hb); replace HB := am_ (below_step (by repeat first | (with_reducible first | exact HB.out | apply ba_ | apply bn_ | apply bd_) | exact HB.out) hb); clear hb
        have yg1_0 : w1_.cell? ⟨g1, 0, none⟩ = some (.int .i64 n) := (blk_cell BKg1.out 0).trans rfl; have fg1_0 := blk_frozen BKg1.out 0; have yg1_1 : w1_.cell? ⟨g1, 1, none⟩ = some (.int .i64 d) := (blk_cell BKg1.out 1).trans rfl; have fg1_1 := blk_frozen BKg1.out 1
        go_wp2_with fail
        clear yg1_0 fg1_0 yg1_1 fg1_1
        refine (impl_isInterest.calls kr n d c mode true _ G2.out).mono ?_
        rintro e w2_ ⟨rfl, hb⟩
        replace BKg1 := am_ (blk_below (blk_below BKg1.out (by repeat first | exact Below.refl _ _ | apply ba_ | apply bn_ | apply bd_)) hb); replace HB := am_ (below_step (by repeat first | (with_reducible first | exact HB.out | apply ba_ | apply bn_ | apply bd_) | exact HB.out) hb); clear hb
        have yg1_0 : w2_.cell? ⟨g1, 0, none⟩ = some (.int .i64 n) := (blk_cell BKg1.out 0).trans rfl; have fg1_0 := blk_frozen BKg1.out 0; have yg1_1 : w2_.cell? ⟨g1, 1, none⟩ = some (.int .i64 d) := (blk_cell BKg1.out 1).trans rfl; have fg1_1 := blk_frozen BKg1.out 1
        go_wp2_with fail
        clear yg1_0 fg1_0 yg1_1 fg1_1
        refine (growthI_c n d x y c _).mono ?_
        rw [HGR.out]
        rintro e w9_ ⟨rfl, hb⟩
        replace BKg1 := am_ (blk_below (blk_below BKg1.out (by repeat first | exact Below.refl _ _ | apply ba_ | apply bn_ | apply bd_)) hb); replace HB := am_ (below_step (by repeat first | (with_reducible first | exact HB.out | apply ba_ | apply bn_ | apply bd_) | exact HB.out) hb); clear hb
        go_wp2_with ((((with_reducible refine gate_dst (N := 14) rfl ?_); refine box_event ?hg (N := 14) ?hd (cs := #[.int .i64 0, .int .i64 0]) (t := 24) ?hr ?_; (case hd => rfl); (case hg => rfl); (case hr => first | (go_simp; done) | (go_simp; rfl))); intro g3 hg w_g3 hbox hb; have n_ := am_ (below_step (by repeat first | (with_reducible first | exact HB.out | apply ba_ | apply bn_ | apply bd_ | refine below_set ?_ GEg1.out) | exact HB.out) hb); have m_g1 := am_ (blk_below (blk_below BKg1.out (by repeat first | exact Below.refl _ _ | apply ba_ | apply bn_ | apply bd_)) hb); have NEg1_g3 := am_ (show g1 ≠ g3 from by rw [hg]; exact Nat.ne_of_lt (blk_lt (blk_below BKg1.out (by repeat first | exact Below.refl _ _ | apply ba_ | apply bn_ | apply bd_)))); have NEg3_g1 := am_ (Ne.symm NEg1_g3.out); have BKg3 := am_ hbox; have GEg3 := am_ (show w.heap.size ≤ g3 from by rw [hg]; exact below_size (by repeat first | (with_reducible first | exact HB.out | apply ba_ | apply bn_ | apply bd_ | refine below_set ?_ GEg1.out) | exact HB.out)); clear HB BKg1; have HB := n_; clear n_ hb hbox hg; have BKg1 := m_g1; clear m_g1); have yg3_0 : w_g3.cell? ⟨g3, 0, none⟩ = some (.int .i64 0) := (blk_cell BKg3.out 0).trans rfl; have fg3_0 := blk_frozen BKg3.out 0; have yg3_1 : w_g3.cell? ⟨g3, 1, none⟩ = some (.int .i64 0) := (blk_cell BKg3.out 1).trans rfl; have fg3_1 := blk_frozen BKg3.out 1)
        refine (impl_ScaleAmount.calls k p n1 d1 mode sv so _ HK.out).mono ?_
        rintro e v3_ ⟨rfl, hb⟩
        have n_ := am_ (below_step (by repeat first | (with_reducible first | exact HB.out | apply ba_ | apply bn_ | apply bd_ | refine below_set ?_ GEg3.out) | exact HB.out) hb)
        clear HB hb BKg1 BKg3
        have HB := n_
        clear n_
        go_wp2
        go_ret2
        exact ⟨rfl, (by repeat first | (with_reducible first | exact HB.out | apply ba_ | apply bn_ | apply bd_ | refine below_set ?_ GEg1.out | refine below_set ?_ GEg3.out) | exact HB.out)⟩
    · rw [decide_eq_false c1_] at g1_
      have G2 := am_ g1_
      clear g1_
      have hfin : accrueA p n d x y c mode = (0, false) := by unfold accrueA; rw [if_neg (fun v => c1_ v.2)]
      rw [hfin]
      clear hfin
      go_enter Try.func19, Try.ntmps19
      go_wp2_with (((with_reducible refine gate_dst (N := 7) rfl ?_); refine box_event ?hg (N := 7) ?hd (cs := #[.int .i64 n,.int .i64 d]) (t := 24) ?hr ?_; (case hd => rfl); (case hg => rfl); (case hr => first | (go_simp; done) | (go_simp; rfl))); intro g1 hg w_g1 hbox hb; have n_ := am_ (below_step (by repeat first | (with_reducible first | exact HB.out | apply ba_ | apply bn_ | apply bd_) | exact HB.out) hb); have BKg1 := am_ hbox; have GEg1 := am_ (show w.heap.size ≤ g1 from by rw [hg]; exact below_size (by repeat first | (with_reducible first | exact HB.out | apply ba_ | apply bn_ | apply bd_) | exact HB.out)); clear HB ; have HB := n_; clear n_ hb hbox hg)
      refine (impl_within.calls p 0 1000000000 true _ G1.out).mono ?_
      rintro e w1_ ⟨rfl, hb0⟩
      have hb := db_ hb0
      clear hb0
      replace BKg1 := am_ (blk_below (blk_below BKg1.out (by repeat first | exact Below.refl _ _ | apply ba_ | apply bn_ | apply bd_)) hb); replace HB := am_ (below_step (by repeat first | (with_reducible first | exact HB.out | apply ba_ | apply bn_ | apply bd_) | exact HB.out) hb); clear hb
      have yg1_0 : w1_.cell? ⟨g1, 0, none⟩ = some (.int .i64 n) := (blk_cell BKg1.out 0).trans rfl; have fg1_0 := blk_frozen BKg1.out 0; have yg1_1 : w1_.cell? ⟨g1, 1, none⟩ = some (.int .i64 d) := (blk_cell BKg1.out 1).trans rfl; have fg1_1 := blk_frozen BKg1.out 1
      go_wp2_with fail
      clear yg1_0 fg1_0 yg1_1 fg1_1
      refine (impl_isInterest.calls kr n d c mode false _ G2.out).mono ?_
      rintro e w2_ ⟨rfl, hb⟩
      replace BKg1 := am_ (blk_below (blk_below BKg1.out (by repeat first | exact Below.refl _ _ | apply ba_ | apply bn_ | apply bd_)) hb); replace HB := am_ (below_step (by repeat first | (with_reducible first | exact HB.out | apply ba_ | apply bn_ | apply bd_) | exact HB.out) hb); clear hb
      go_wp2
      go_ret2
      exact ⟨rfl, (by repeat first | (with_reducible first | exact HB.out | apply ba_ | apply bn_ | apply bd_ | refine below_set ?_ GEg1.out) | exact HB.out)⟩
  · rw [decide_eq_false c0_] at g0_
    have G1 := am_ g0_
    clear g0_
    have hfin : accrueA p n d x y c mode = (0, false) := by unfold accrueA; rw [if_neg (fun v => c0_ v.1)]
    rw [hfin]
    clear hfin
    go_enter Try.func19, Try.ntmps19
    go_wp2_with (((with_reducible refine gate_dst (N := 7) rfl ?_); refine box_event ?hg (N := 7) ?hd (cs := #[.int .i64 n,.int .i64 d]) (t := 24) ?hr ?_; (case hd => rfl); (case hg => rfl); (case hr => first | (go_simp; done) | (go_simp; rfl))); intro g1 hg w_g1 hbox hb; have n_ := am_ (below_step (by repeat first | (with_reducible first | exact HB.out | apply ba_ | apply bn_ | apply bd_) | exact HB.out) hb); have BKg1 := am_ hbox; have GEg1 := am_ (show w.heap.size ≤ g1 from by rw [hg]; exact below_size (by repeat first | (with_reducible first | exact HB.out | apply ba_ | apply bn_ | apply bd_) | exact HB.out)); clear HB ; have HB := n_; clear n_ hb hbox hg)
    refine (impl_within.calls p 0 1000000000 false _ G1.out).mono ?_
    rintro e w1_ ⟨rfl, hb0⟩
    have hb := db_ hb0
    clear hb0
    replace BKg1 := am_ (blk_below (blk_below BKg1.out (by repeat first | exact Below.refl _ _ | apply ba_ | apply bn_ | apply bd_)) hb); replace HB := am_ (below_step (by repeat first | (with_reducible first | exact HB.out | apply ba_ | apply bn_ | apply bd_) | exact HB.out) hb); clear hb
    go_wp2
    go_ret2
    exact ⟨rfl, (by repeat first | (with_reducible first | exact HB.out | apply ba_ | apply bn_ | apply bd_ | refine below_set ?_ GEg1.out) | exact HB.out)⟩
/-- The first k of n. -/
def ar_ (n k : Nat) : Array Bool := (List.replicate k true ++ List.replicate (n - k) false).toArray
theorem cellsR {w : World} {b : Nat} {xs : List S61} (h : Kd.C k61 w (some ⟨b, 0, none⟩) xs.length xs) (j : Nat) (hj : j < xs.length) {f0 f1 f2 : Int} (hx : rd_T61 xs (j : Int) = ⟨f0, ⟨f1, f2⟩⟩) : w.cell? ⟨b, j * 3, none⟩ = some (.int .i64 f0) ∧ w.cell? ⟨b, j * 3 + 1, none⟩ = some (.int .i64 f1) ∧ w.cell? ⟨b, j * 3 + 2, none⟩ = some (.int .i64 f2) := by
  obtain ⟨ad, e, h0, h1, h2⟩ := at_T61 h (j : Int) (by omega) (by omega)
  injection e with e
  subst e
  rw [hx, Int.toNat_natCast] at h0 h1 h2
  simp only [add_at, Nat.zero_add] at h0 h1 h2
  exact ⟨h0, h1, h2⟩
def tab80_6_T : Bool × List (List Nat × List Nat) := (true, [([], []), ([0], [0]), ([1], [1]), ([2], [2]), ([3, 2], [3]), ([4], [4]), ([5, 4], [4, 5]), ([6, 4, 4], [4, 6]), ([7, 4], [4, 7]), ([4, 8], [4, 8]), ([9, 7], [9]), ([10], [10]), ([11, 10], [10, 11]), ([12, 10, 10], [10, 12]), ([13], [13]), ([14, 13], [13, 14]), ([13], [13]), ([13], [13]), ([17, 13], [13, 17]), ([16, 18, 13], [13, 16, 18]), ([19, 13], [13, 19]), ([20, 13], [13, 20]), ([15, 21, 13], [13, 15, 21]), ([13, 22, 10], [10, 13, 22]), ([10, 23], [10, 23])])
def tab80_6_B : List Nat := [0, 1, 3, 7, 15, 31, 63, 127, 255, 511, 1023, 2047, 4095, 8191, 16383, 32767, 16383, 16383, 147455, 475135, 999423, 2047999, 4194303, 8388607, 16777215]
theorem tab80_6_t : rtab .any (opsOf Try.f80 6) = tab80_6_T := by kernel_rfl
theorem tab80_6_b : waitsOk tab80_6_T.2 tab80_6_B = true := by kernel_rfl
set_option maxHeartbeats 8000000 in
set_option maxRecDepth 100000 in
theorem okStepsI_c0 (A0 : Option Addr) (c0 : Nat) (xs : List S61) (a : Int) (w : World) (hr0 : Kd.C k61 w A0 xs.length xs) (ha0 : 0 < xs.length → ∃ b, A0 = some ⟨b, 0, none⟩) (hn : xs.length ≤ 1048576) :
    Calls Try.prog 80 #[.slice A0 xs.length c0, .int .i64 a] w fun e w' => e = .returned (.bool (arOk xs a)) ∧ Below w.heap.size w w' := by
  have HB := am_ (Below.refl w.heap.size w)
  have HR0 := am_ hr0
  have HA0 := am_ ha0
  clear hr0 ha0
  have g1_ := within_eq (xs.length : Int) 1 12
  by_cases c0 : 1 ≤ (xs.length : Int) ∧ (xs.length : Int) ≤ 12
  rotate_left
  · rw [decide_eq_false c0] at g1_
    have G1 := am_ g1_
    have HFZ := am_ (show arOk xs a = false from decide_eq_false (fun g => c0 g.1))
    clear g1_ c0
    go_enter Try.func80, Try.ntmps80
    go_wp2_with fail
    refine (impl_within.calls (xs.length : Int) 1 12 false _ G1.out).mono ?_
    rintro e w0_ ⟨rfl, hb0⟩
    have hb := db_ hb0
    clear hb0
    replace HB := am_ (below_step (by repeat first | (with_reducible first | exact HB.out | apply ba_ | apply bn_ | apply bd_) | exact HB.out) hb); clear hb
    go_wp2
    go_ret
    exact ⟨by rw [HFZ.out]; rfl, (by repeat first | (with_reducible first | exact HB.out | apply ba_ | apply bn_ | apply bd_) | exact HB.out)⟩
  rw [decide_eq_true c0] at g1_
  have G1 := am_ g1_
  obtain ⟨b0, e0⟩ := HA0.out (by omega)
  subst e0
  obtain ⟨⟨F0, ⟨F1, F2⟩⟩, hF⟩ : ∃ x, x = rd_T61 xs ((0 : Nat) : Int) := ⟨_, rfl⟩
  have hFf : firstS xs = F0 := by rw [← rdS_first xs (by omega)]; show (rd_T61 xs ((0 : Nat) : Int)).f0 = F0; rw [← hF]
  have hF0 : w.cell? ⟨b0, 0, none⟩ = some (.int .i64 F0) := (cellsR HR0.out 0 (by omega) hF.symm).1
  have HF0 := am_ hF0
  have HBF := am_ (World.block_lt_of_cell? w _ hF0)
  have hFl : (0 : Int) < (xs.length : Int) := by omega
  have hFl2 : 0 < xs.length := by omega
  by_cases c1 : a < F0
  · have cfs_ : decide (a < F0) = true := decide_eq_true c1
    have HFZ := am_ (show arOk xs a = false from decide_eq_false (fun g => by have := g.2.2; omega))
    clear hF hFf hF0 g1_ c0 c1
    go_enter Try.func80, Try.ntmps80
    go_wp2_with fail
    refine (impl_within.calls (xs.length : Int) 1 12 true _ G1.out).mono ?_
    rintro e w0_ ⟨rfl, hb0⟩
    have hb := db_ hb0
    clear hb0
    replace HB := am_ (below_step (by repeat first | (with_reducible first | exact HB.out | apply ba_ | apply bn_ | apply bd_) | exact HB.out) hb); clear hb
    have hF0 := (HB.out.cell HBF.out).trans HF0.out
    go_wp2
    go_ret
    exact ⟨by rw [HFZ.out]; rfl, (by repeat first | (with_reducible first | exact HB.out | apply ba_ | apply bn_ | apply bd_) | exact HB.out)⟩
  have cfs_ : decide (a < F0) = false := decide_eq_false c1
  have hres : arOk xs a = chkS none xs := by unfold arOk; cases hq : chkS none xs with | true => exact decide_eq_true ⟨c0, rfl, by omega⟩ | false => exact decide_eq_false (fun g => by cases g.2.1)
  rw [hres]
  obtain ⟨FIN, hFIN⟩ : ∃ F, F = chkS none xs := ⟨_, rfl⟩
  rw [← hFIN]
  have HF := am_ (show chkS (prvS xs 0) (xs.drop 0) = FIN from hFIN.symm)
  have hl12 : xs.length ≤ 12 := by omega
  clear hF hFf hF0 g1_ c0 c1 hres hFIN
  go_enter Try.func80, Try.ntmps80
  go_wp2_with fail
  refine (impl_within.calls (xs.length : Int) 1 12 true _ G1.out).mono ?_
  rintro e w0_ ⟨rfl, hb0⟩
  have hb := db_ hb0
  clear hb0
  replace HB := am_ (below_step (by repeat first | (with_reducible first | exact HB.out | apply ba_ | apply bn_ | apply bd_) | exact HB.out) hb); clear hb
  have hF0 := (HB.out.cell HBF.out).trans HF0.out
  go_wp2
  clear hF0
  go_loopw [21] (fun v wr => ∃ i : Nat, v = .int .i64 i ∧ Aside0 (i ≤ xs.length) ∧ Aside0 (chkS (prvS xs i) (xs.drop i) = FIN) ∧ Aside0 (Below w.heap.size w wr)) (fun v _ => xs.length - (intOf v).toNat)
  case atStart => exact ⟨0, rfl, ⟨Nat.zero_le _⟩, HF, ⟨(by repeat first | (with_reducible first | exact HB.out | apply ba_ | apply bn_ | apply bd_) | exact HB.out)⟩⟩
  case round =>
    clear HF HB
    obtain ⟨i, rfl, HI, HF, HB⟩ := hrel
    by_cases hil : i < xs.length
    · have ci : decide (i < xs.length) = true := decide_eq_true hil
      have ti0 : (0 : Int) ≤ (i : Int) := by omega
      have ti1 : (i : Int) < (xs.length : Int) := by omega
      have hi12 : i ≤ 12 := by omega
      obtain ⟨⟨f0, ⟨f1, f2⟩⟩, ha⟩ : ∃ x, x = rd_T61 xs (i : Int) := ⟨_, rfl⟩
      obtain ⟨hx0, hx1, hx2⟩ := cellsR HR0.out i hil ha.symm
      have HX0 := am_ hx0
      have HX1 := am_ hx1
      have HX2 := am_ hx2
      have HBX := am_ (World.block_lt_of_cell? w _ hx0)
      have HA := am_ ha.symm
      obtain ⟨kr, hr⟩ := roundsOf (implRate_ev f1 f2)
      clear hx0 hx1 hx2 ha
      have hx0 := (HB.out.cell (p := ⟨b0, i * 3, none⟩) HBX.out).trans HX0.out
      have hx1 := (HB.out.cell (p := ⟨b0, i * 3 + 1, none⟩) HBX.out).trans HX1.out
      have hx2 := (HB.out.cell (p := ⟨b0, i * 3 + 2, none⟩) HBX.out).trans HX2.out
      go_upto_region 6 with ((((with_reducible refine gate_dst (N := 6) rfl ?_); refine box_event ?hg (N := 6) ?hd (cs := #[.int .i64 0, .int .i64 0, .int .i64 0]) (t := 61) ?hr ?_; (case hd => rfl); (case hg => rfl); (case hr => first | (go_simp; done) | (go_simp; rfl))); intro g4 hg w_g4 hbox hb; have n_ := am_ (below_step (by repeat first | (with_reducible first | exact HB.out | apply ba_ | apply bn_ | apply bd_) | exact HB.out) hb); have BKg4 := am_ hbox; have GEg4 := am_ (show w.heap.size ≤ g4 from by rw [hg]; exact below_size (by repeat first | (with_reducible first | exact HB.out | apply ba_ | apply bn_ | apply bd_) | exact HB.out)); clear HB ; have HB := n_; clear n_ hb hbox hg); have yg4_0 : w_g4.cell? ⟨g4, 0, none⟩ = some (.int .i64 0) := (blk_cell BKg4.out 0).trans rfl; have fg4_0 := blk_frozen BKg4.out 0; have yg4_1 : w_g4.cell? ⟨g4, 1, none⟩ = some (.int .i64 0) := (blk_cell BKg4.out 1).trans rfl; have fg4_1 := blk_frozen BKg4.out 1; have yg4_2 : w_g4.cell? ⟨g4, 2, none⟩ = some (.int .i64 0) := (blk_cell BKg4.out 2).trans rfl; have fg4_2 := blk_frozen BKg4.out 2)
      clear hx0 hx1 hx2
      have BKn := am_ (show ((((w_g4).setCell ⟨g4, 0, none⟩ (.int .i64 f0)).setCell ⟨g4, 1, none⟩ (.int .i64 f1)).setCell ⟨g4, 2, none⟩ (.int .i64 f2)).heap[g4]? = some (.cells #[.int .i64 f0, .int .i64 f1, .int .i64 f2] 61 (0, 0)) from (by (with_reducible repeat first | refine kn_ ?_ _ | refine kd_ ?_ | refine ka_ ?_ _); refine blk_put (cs := #[.int .i64 f0, .int .i64 f1, .int .i64 0]) ?_ 2 _ rfl; (with_reducible repeat first | refine kn_ ?_ _ | refine kd_ ?_ | refine ka_ ?_ _); refine blk_put (cs := #[.int .i64 f0, .int .i64 0, .int .i64 0]) ?_ 1 _ rfl; (with_reducible repeat first | refine kn_ ?_ _ | refine kd_ ?_ | refine ka_ ?_ _); refine blk_put (cs := #[.int .i64 0, .int .i64 0, .int .i64 0]) ?_ 0 _ rfl; (with_reducible repeat first | refine kn_ ?_ _ | refine kd_ ?_ | refine ka_ ?_ _); exact BKg4.out))
      have HBn := am_ (show Below w.heap.size w ((((w_g4).setCell ⟨g4, 0, none⟩ (.int .i64 f0)).setCell ⟨g4, 1, none⟩ (.int .i64 f1)).setCell ⟨g4, 2, none⟩ (.int .i64 f2)) from (by repeat first | (with_reducible first | exact HB.out | apply ba_ | apply bn_ | apply bd_ | refine below_set ?_ GEg4.out) | exact HB.out))
      clear HB BKg4 
      clear yg4_0 fg4_0 yg4_1 fg4_1 yg4_2 fg4_2
      generalize (((w_g4).setCell ⟨g4, 0, none⟩ (.int .i64 f0)).setCell ⟨g4, 1, none⟩ (.int .i64 f1)).setCell ⟨g4, 2, none⟩ (.int .i64 f2) = W4 at BKn HBn  ⊢
      have BKg4 := BKn
      have HB := HBn
      clear BKn HBn
      have g0_ := isDay_eq f0
      by_cases c0 : 0 ≤ f0 ∧ f0 ≤ 36524
      rotate_left
      · rw [decide_eq_false c0] at g0_
        have G0 := am_ g0_
        have HFZ := am_ (show FIN = false from by rw [← HF.out, chkS_no hil HA.out (fun g => c0 g.1.1)])
        clear hr g0_ c0
        refine start_ (n := 25) (S := fun w' => w'.cell? ⟨g4, 0, none⟩ = some (.int .i64 f0) ∧ w'.cell? ⟨g4, 1, none⟩ = some (.int .i64 f1) ∧ w'.cell? ⟨g4, 2, none⟩ = some (.int .i64 f2)) (ds := []) (ar_ 25 0) (by kernel_rfl) rfl rfl ⟨(blk_cell BKg4.out 0).trans rfl, (blk_cell BKg4.out 1).trans rfl, (blk_cell BKg4.out 2).trans rfl⟩ (fun hHeld => ?_)
        refine with_tabW tab80_6_t tab80_6_b (fun HT_ HW_ => ?_)
        have n_ := am_ (blk_drew BKg4.out); clear BKg4; have BKg4 := n_; clear n_
        have n_ := am_ (below_drew1 HB.out); clear HB; have HB := n_; clear n_
        generalize W4.drew = wq_ at BKg4 HB hHeld ⊢
        refine pure_ (i := 0) (N := some 26) (v := ?_) (a' := ?_) (ar_ 25 1) rfl rfl (any_of HT_.out (by kernel_rfl)) (fun _ _ _ h => h) (Or.inl ⟨by rfl, ?_⟩) ?_ ?_; rotate_left; (focus (intro w'; go_simp; with_reducible rfl)); rotate_left; (focus (simp only [Act.put, List.setIfInBounds_toArray, List.set_cons_zero, List.set_cons_succ, i64_w, i32_w]; first | done | rfl))
        refine take_ (i := 1) (N := some 27) (v := ?_) (a' := ?_) (ar_ 25 2) rfl rfl (take_ofW HT_.out HW_.out (by kernel_rfl)) (fun _ _ _ h => h) (Or.inl ⟨by rfl, ?_⟩) hHeld ?_ ?_; rotate_left; (focus (rintro w' ⟨s0, s1, s2⟩; go_simp; with_reducible rfl)); rotate_left; (focus (simp only [Act.put, List.setIfInBounds_toArray, List.set_cons_zero, List.set_cons_succ, i64_w, i32_w]; first | done | rfl))
        refine one_ (i := 2) (N := some 28) (ar_ 25 3) rfl rfl (one_of HT_.out (by kernel_rfl)) (by decide) (fun K hK => ?_)
        refine goes_ Try.func64 (by kernel_rfl) rfl #[.int .i64 f0] (by rfl) rfl rfl (by (try simp only [List.map_toArray, List.map_cons, List.map_nil]); first | done | rfl) ?_
        with_reducible refine (impl_isDay.calls f0 false _ G0.out).mono ?_
        rintro e w1_ ⟨rfl, hb0⟩
        have hb := db_ hb0
        clear hb0
        replace BKg4 := am_ (blk_below (blk_below BKg4.out (by repeat first | exact Below.refl _ _ | apply ba_ | apply bn_ | apply bd_)) hb); replace HB := am_ (below_step (by repeat first | (with_reducible first | exact HB.out | apply ba_ | apply bn_ | apply bd_) | exact HB.out) hb); clear hb
        refine ⟨_, rfl, ?_⟩
        refine hK.out _ _ ⟨(blk_cell BKg4.out 0).trans rfl, (blk_cell BKg4.out 1).trans rfl, (blk_cell BKg4.out 2).trans rfl⟩ (fun hHeld => ?_)
        clear hK K
        refine norm_ (a' := ?_) ?_ ?_; rotate_left; (focus (show Act.put _ (some 28) _ = _; simp only [Act.put, List.setIfInBounds_toArray, List.set_cons_zero, List.set_cons_succ, i64_w, i32_w]; first | done | rfl))
        refine pure_ (i := 3) (N := some 29) (v := ?_) (a' := ?_) (ar_ 25 4) rfl rfl (any_of HT_.out (by kernel_rfl)) (fun _ _ _ h => h) (Or.inl ⟨by rfl, ?_⟩) ?_ ?_; rotate_left; (focus (intro w'; go_simp; with_reducible rfl)); rotate_left; (focus (simp only [Act.put, List.setIfInBounds_toArray, List.set_cons_zero, List.set_cons_succ, i64_w, i32_w]; first | done | rfl))
        refine pure_ (i := 4) (N := some 30) (v := ?_) (a' := ?_) (ar_ 25 5) rfl rfl (any_of HT_.out (by kernel_rfl)) (fun _ _ _ h => h) (Or.inl ⟨by rfl, ?_⟩) ?_ ?_; rotate_left; (focus (intro w'; go_simp; with_reducible rfl)); rotate_left; (focus (simp only [Act.put, List.setIfInBounds_toArray, List.set_cons_zero, List.set_cons_succ, i64_w, i32_w]; first | done | rfl))
        refine pure_ (i := 5) (N := some 31) (v := undef) (a' := ?_) (ar_ 25 6) rfl rfl (any_of HT_.out (by kernel_rfl)) (fun _ _ _ h => h) (Or.inr ⟨by rfl, rfl⟩) ?_ ?_; rotate_left; (focus (simp only [Act.put, List.setIfInBounds_toArray, List.set_cons_zero, List.set_cons_succ, i64_w, i32_w]; first | done | rfl))
        refine pure_ (i := 6) (N := some 32) (v := undef) (a' := ?_) (ar_ 25 7) rfl rfl (any_of HT_.out (by kernel_rfl)) (fun _ _ _ h => h) (Or.inr ⟨by rfl, rfl⟩) ?_ ?_; rotate_left; (focus (simp only [Act.put, List.setIfInBounds_toArray, List.set_cons_zero, List.set_cons_succ, i64_w, i32_w]; first | done | rfl))
        refine pure_ (i := 7) (N := some 33) (v := undef) (a' := ?_) (ar_ 25 8) rfl rfl (any_of HT_.out (by kernel_rfl)) (fun _ _ _ h => h) (Or.inr ⟨by rfl, rfl⟩) ?_ ?_; rotate_left; (focus (simp only [Act.put, List.setIfInBounds_toArray, List.set_cons_zero, List.set_cons_succ, i64_w, i32_w]; first | done | rfl))
        refine pure_ (i := 8) (N := some 34) (v := undef) (a' := ?_) (ar_ 25 9) rfl rfl (any_of HT_.out (by kernel_rfl)) (fun _ _ _ h => h) (Or.inr ⟨by rfl, rfl⟩) ?_ ?_; rotate_left; (focus (simp only [Act.put, List.setIfInBounds_toArray, List.set_cons_zero, List.set_cons_succ, i64_w, i32_w]; first | done | rfl))
        refine pure_ (i := 9) (N := some 35) (v := ?_) (a' := ?_) (ar_ 25 10) rfl rfl (any_of HT_.out (by kernel_rfl)) (fun _ _ _ h => h) (Or.inl ⟨by rfl, ?_⟩) ?_ ?_; rotate_left; (focus (intro w'; go_simp; with_reducible rfl)); rotate_left; (focus (simp only [Act.put, List.setIfInBounds_toArray, List.set_cons_zero, List.set_cons_succ, i64_w, i32_w]; first | done | rfl))
        refine pure_ (i := 10) (N := some 36) (v := ?_) (a' := ?_) (ar_ 25 11) rfl rfl (any_of HT_.out (by kernel_rfl)) (fun _ _ _ h => h) (Or.inl ⟨by rfl, ?_⟩) ?_ ?_; rotate_left; (focus (intro w'; go_simp; with_reducible rfl)); rotate_left; (focus (simp only [Act.put, List.setIfInBounds_toArray, List.set_cons_zero, List.set_cons_succ, i64_w, i32_w]; first | done | rfl))
        refine pure_ (i := 11) (N := some 37) (v := undef) (a' := ?_) (ar_ 25 12) rfl rfl (any_of HT_.out (by kernel_rfl)) (fun _ _ _ h => h) (Or.inr ⟨by rfl, rfl⟩) ?_ ?_; rotate_left; (focus (simp only [Act.put, List.setIfInBounds_toArray, List.set_cons_zero, List.set_cons_succ, i64_w, i32_w]; first | done | rfl))
        refine pure_ (i := 12) (N := some 38) (v := undef) (a' := ?_) (ar_ 25 13) rfl rfl (any_of HT_.out (by kernel_rfl)) (fun _ _ _ h => h) (Or.inr ⟨by rfl, rfl⟩) ?_ ?_; rotate_left; (focus (simp only [Act.put, List.setIfInBounds_toArray, List.set_cons_zero, List.set_cons_succ, i64_w, i32_w]; first | done | rfl))
        refine pure_ (i := 13) (N := some 39) (v := undef) (a' := ?_) (ar_ 25 14) rfl rfl (any_of HT_.out (by kernel_rfl)) (fun _ _ _ h => h) (Or.inr ⟨by rfl, rfl⟩) ?_ ?_; rotate_left; (focus (simp only [Act.put, List.setIfInBounds_toArray, List.set_cons_zero, List.set_cons_succ, i64_w, i32_w]; first | done | rfl))
        refine pure_ (i := 14) (N := some 40) (v := undef) (a' := ?_) (ar_ 25 15) rfl rfl (any_of HT_.out (by kernel_rfl)) (fun _ _ _ h => h) (Or.inr ⟨by rfl, rfl⟩) ?_ ?_; rotate_left; (focus (simp only [Act.put, List.setIfInBounds_toArray, List.set_cons_zero, List.set_cons_succ, i64_w, i32_w]; first | done | rfl))
        refine pure_ (i := 15) (N := some 41) (v := undef) (a' := ?_) (ar_ 25 16) rfl rfl (any_of HT_.out (by kernel_rfl)) (fun _ _ _ h => h) (Or.inr ⟨by rfl, rfl⟩) ?_ ?_; rotate_left; (focus (simp only [Act.put, List.setIfInBounds_toArray, List.set_cons_zero, List.set_cons_succ, i64_w, i32_w]; first | done | rfl))
        refine pure_ (i := 16) (N := some 42) (v := undef) (a' := ?_) (ar_ 25 17) rfl rfl (any_of HT_.out (by kernel_rfl)) (fun _ _ _ h => h) (Or.inr ⟨by rfl, rfl⟩) ?_ ?_; rotate_left; (focus (simp only [Act.put, List.setIfInBounds_toArray, List.set_cons_zero, List.set_cons_succ, i64_w, i32_w]; first | done | rfl))
        refine pure_ (i := 17) (N := some 43) (v := undef) (a' := ?_) (ar_ 25 18) rfl rfl (any_of HT_.out (by kernel_rfl)) (fun _ _ _ h => h) (Or.inr ⟨by rfl, rfl⟩) ?_ ?_; rotate_left; (focus (simp only [Act.put, List.setIfInBounds_toArray, List.set_cons_zero, List.set_cons_succ, i64_w, i32_w]; first | done | rfl))
        refine pure_ (i := 18) (N := some 44) (v := undef) (a' := ?_) (ar_ 25 19) rfl rfl (any_of HT_.out (by kernel_rfl)) (fun _ _ _ h => h) (Or.inr ⟨by rfl, rfl⟩) ?_ ?_; rotate_left; (focus (simp only [Act.put, List.setIfInBounds_toArray, List.set_cons_zero, List.set_cons_succ, i64_w, i32_w]; first | done | rfl))
        refine pure_ (i := 19) (N := some 45) (v := undef) (a' := ?_) (ar_ 25 20) rfl rfl (any_of HT_.out (by kernel_rfl)) (fun _ _ _ h => h) (Or.inr ⟨by rfl, rfl⟩) ?_ ?_; rotate_left; (focus (simp only [Act.put, List.setIfInBounds_toArray, List.set_cons_zero, List.set_cons_succ, i64_w, i32_w]; first | done | rfl))
        refine pure_ (i := 20) (N := some 46) (v := undef) (a' := ?_) (ar_ 25 21) rfl rfl (any_of HT_.out (by kernel_rfl)) (fun _ _ _ h => h) (Or.inr ⟨by rfl, rfl⟩) ?_ ?_; rotate_left; (focus (simp only [Act.put, List.setIfInBounds_toArray, List.set_cons_zero, List.set_cons_succ, i64_w, i32_w]; first | done | rfl))
        refine pure_ (i := 21) (N := some 47) (v := undef) (a' := ?_) (ar_ 25 22) rfl rfl (any_of HT_.out (by kernel_rfl)) (fun _ _ _ h => h) (Or.inr ⟨by rfl, rfl⟩) ?_ ?_; rotate_left; (focus (simp only [Act.put, List.setIfInBounds_toArray, List.set_cons_zero, List.set_cons_succ, i64_w, i32_w]; first | done | rfl))
        refine pure_ (i := 22) (N := some 48) (v := undef) (a' := ?_) (ar_ 25 23) rfl rfl (any_of HT_.out (by kernel_rfl)) (fun _ _ _ h => h) (Or.inr ⟨by rfl, rfl⟩) ?_ ?_; rotate_left; (focus (simp only [Act.put, List.setIfInBounds_toArray, List.set_cons_zero, List.set_cons_succ, i64_w, i32_w]; first | done | rfl))
        refine pure_ (i := 23) (N := some 49) (v := undef) (a' := ?_) (ar_ 25 24) rfl rfl (any_of HT_.out (by kernel_rfl)) (fun _ _ _ h => h) (Or.inr ⟨by rfl, rfl⟩) ?_ ?_; rotate_left; (focus (simp only [Act.put, List.setIfInBounds_toArray, List.set_cons_zero, List.set_cons_succ, i64_w, i32_w]; first | done | rfl))
        refine pure_ (i := 24) (N := some 50) (v := ?_) (a' := ?_) (ar_ 25 25) rfl rfl (any_of HT_.out (by kernel_rfl)) (fun _ _ _ h => h) (Or.inl ⟨by rfl, ?_⟩) ?_ ?_; rotate_left; (focus (intro w'; go_simp; with_reducible rfl)); rotate_left; (focus (simp only [Act.put, List.setIfInBounds_toArray, List.set_cons_zero, List.set_cons_succ, i64_w, i32_w]; first | done | rfl))
        refine done_ (done_of HT_.out (by kernel_rfl)) ?_
        go_wp2
        go_ret
        exact ⟨by rw [HFZ.out]; rfl, (by repeat first | (with_reducible first | exact HB.out | apply ba_ | apply bn_ | apply bd_) | exact HB.out)⟩
      rw [decide_eq_true c0] at g0_
      have G0 := am_ g0_
      by_cases c1 : okF f1 f2 ∧ 0 ≤ f1
      rotate_left
      · rw [decide_eq_false c1] at hr
        have G1_ := am_ hr
        have HFZ := am_ (show FIN = false from by rw [← HF.out, chkS_no hil HA.out (fun g => c1 g.1.2)])
        clear hr g0_ c0 c1
        refine start_ (n := 25) (S := fun w' => w'.cell? ⟨g4, 0, none⟩ = some (.int .i64 f0) ∧ w'.cell? ⟨g4, 1, none⟩ = some (.int .i64 f1) ∧ w'.cell? ⟨g4, 2, none⟩ = some (.int .i64 f2)) (ds := []) (ar_ 25 0) (by kernel_rfl) rfl rfl ⟨(blk_cell BKg4.out 0).trans rfl, (blk_cell BKg4.out 1).trans rfl, (blk_cell BKg4.out 2).trans rfl⟩ (fun hHeld => ?_)
        refine with_tabW tab80_6_t tab80_6_b (fun HT_ HW_ => ?_)
        have n_ := am_ (blk_drew BKg4.out); clear BKg4; have BKg4 := n_; clear n_
        have n_ := am_ (below_drew1 HB.out); clear HB; have HB := n_; clear n_
        generalize W4.drew = wq_ at BKg4 HB hHeld ⊢
        refine pure_ (i := 0) (N := some 26) (v := ?_) (a' := ?_) (ar_ 25 1) rfl rfl (any_of HT_.out (by kernel_rfl)) (fun _ _ _ h => h) (Or.inl ⟨by rfl, ?_⟩) ?_ ?_; rotate_left; (focus (intro w'; go_simp; with_reducible rfl)); rotate_left; (focus (simp only [Act.put, List.setIfInBounds_toArray, List.set_cons_zero, List.set_cons_succ, i64_w, i32_w]; first | done | rfl))
        refine take_ (i := 1) (N := some 27) (v := ?_) (a' := ?_) (ar_ 25 2) rfl rfl (take_ofW HT_.out HW_.out (by kernel_rfl)) (fun _ _ _ h => h) (Or.inl ⟨by rfl, ?_⟩) hHeld ?_ ?_; rotate_left; (focus (rintro w' ⟨s0, s1, s2⟩; go_simp; with_reducible rfl)); rotate_left; (focus (simp only [Act.put, List.setIfInBounds_toArray, List.set_cons_zero, List.set_cons_succ, i64_w, i32_w]; first | done | rfl))
        refine one_ (i := 2) (N := some 28) (ar_ 25 3) rfl rfl (one_of HT_.out (by kernel_rfl)) (by decide) (fun K hK => ?_)
        refine goes_ Try.func64 (by kernel_rfl) rfl #[.int .i64 f0] (by rfl) rfl rfl (by (try simp only [List.map_toArray, List.map_cons, List.map_nil]); first | done | rfl) ?_
        with_reducible refine (impl_isDay.calls f0 true _ G0.out).mono ?_
        rintro e w1_ ⟨rfl, hb0⟩
        have hb := db_ hb0
        clear hb0
        replace BKg4 := am_ (blk_below (blk_below BKg4.out (by repeat first | exact Below.refl _ _ | apply ba_ | apply bn_ | apply bd_)) hb); replace HB := am_ (below_step (by repeat first | (with_reducible first | exact HB.out | apply ba_ | apply bn_ | apply bd_) | exact HB.out) hb); clear hb
        refine ⟨_, rfl, ?_⟩
        refine hK.out _ _ ⟨(blk_cell BKg4.out 0).trans rfl, (blk_cell BKg4.out 1).trans rfl, (blk_cell BKg4.out 2).trans rfl⟩ (fun hHeld => ?_)
        clear hK K
        refine norm_ (a' := ?_) ?_ ?_; rotate_left; (focus (show Act.put _ (some 28) _ = _; simp only [Act.put, List.setIfInBounds_toArray, List.set_cons_zero, List.set_cons_succ, i64_w, i32_w]; first | done | rfl))
        refine pure_ (i := 3) (N := some 29) (v := ?_) (a' := ?_) (ar_ 25 4) rfl rfl (any_of HT_.out (by kernel_rfl)) (fun _ _ _ h => h) (Or.inl ⟨by rfl, ?_⟩) ?_ ?_; rotate_left; (focus (intro w'; go_simp; with_reducible rfl)); rotate_left; (focus (simp only [Act.put, List.setIfInBounds_toArray, List.set_cons_zero, List.set_cons_succ, i64_w, i32_w]; first | done | rfl))
        refine pure_ (i := 4) (N := some 30) (v := ?_) (a' := ?_) (ar_ 25 5) rfl rfl (any_of HT_.out (by kernel_rfl)) (fun _ _ _ h => h) (Or.inl ⟨by rfl, ?_⟩) ?_ ?_; rotate_left; (focus (intro w'; go_simp; with_reducible rfl)); rotate_left; (focus (simp only [Act.put, List.setIfInBounds_toArray, List.set_cons_zero, List.set_cons_succ, i64_w, i32_w]; first | done | rfl))
        refine pure_ (i := 5) (N := some 31) (v := ?_) (a' := ?_) (ar_ 25 6) rfl rfl (any_of HT_.out (by kernel_rfl)) (fun _ _ _ h => h) (Or.inl ⟨by rfl, ?_⟩) ?_ ?_; rotate_left; (focus (intro w'; go_simp; with_reducible rfl)); rotate_left; (focus (simp only [Act.put, List.setIfInBounds_toArray, List.set_cons_zero, List.set_cons_succ, i64_w, i32_w]; first | done | rfl))
        refine take_ (i := 6) (N := some 32) (v := ?_) (a' := ?_) (ar_ 25 7) rfl rfl (take_ofW HT_.out HW_.out (by kernel_rfl)) (fun _ _ _ h => h) (Or.inl ⟨by rfl, ?_⟩) hHeld ?_ ?_; rotate_left; (focus (rintro w' ⟨s0, s1, s2⟩; go_simp; with_reducible rfl)); rotate_left; (focus (simp only [Act.put, List.setIfInBounds_toArray, List.set_cons_zero, List.set_cons_succ, i64_w, i32_w]; first | done | rfl))
        refine one_ (i := 7) (N := some 33) (ar_ 25 8) rfl rfl (one_of HT_.out (by kernel_rfl)) (by decide) (fun K hK => ?_)
        refine goes_ Try.func54 (by kernel_rfl) rfl #[.agg #[.int .i64 f1, .int .i64 f2]] (by rfl) rfl rfl (by (try simp only [List.map_toArray, List.map_cons, List.map_nil]); first | done | rfl) ?_
        with_reducible refine (impl_isRate.calls kr f1 f2 false _ G1_.out).mono ?_
        rintro e w2_ ⟨rfl, hb⟩
        replace BKg4 := am_ (blk_below (blk_below BKg4.out (by repeat first | exact Below.refl _ _ | apply ba_ | apply bn_ | apply bd_)) hb); replace HB := am_ (below_step (by repeat first | (with_reducible first | exact HB.out | apply ba_ | apply bn_ | apply bd_) | exact HB.out) hb); clear hb
        refine ⟨_, rfl, ?_⟩
        refine hK.out _ _ ⟨(blk_cell BKg4.out 0).trans rfl, (blk_cell BKg4.out 1).trans rfl, (blk_cell BKg4.out 2).trans rfl⟩ (fun hHeld => ?_)
        clear hK K
        refine norm_ (a' := ?_) ?_ ?_; rotate_left; (focus (show Act.put _ (some 33) _ = _; simp only [Act.put, List.setIfInBounds_toArray, List.set_cons_zero, List.set_cons_succ, i64_w, i32_w]; first | done | rfl))
        refine pure_ (i := 8) (N := some 34) (v := ?_) (a' := ?_) (ar_ 25 9) rfl rfl (any_of HT_.out (by kernel_rfl)) (fun _ _ _ h => h) (Or.inl ⟨by rfl, ?_⟩) ?_ ?_; rotate_left; (focus (intro w'; go_simp; with_reducible rfl)); rotate_left; (focus (simp only [Act.put, List.setIfInBounds_toArray, List.set_cons_zero, List.set_cons_succ, i64_w, i32_w]; first | done | rfl))
        refine pure_ (i := 9) (N := some 35) (v := ?_) (a' := ?_) (ar_ 25 10) rfl rfl (any_of HT_.out (by kernel_rfl)) (fun _ _ _ h => h) (Or.inl ⟨by rfl, ?_⟩) ?_ ?_; rotate_left; (focus (intro w'; go_simp; with_reducible rfl)); rotate_left; (focus (simp only [Act.put, List.setIfInBounds_toArray, List.set_cons_zero, List.set_cons_succ, i64_w, i32_w]; first | done | rfl))
        refine pure_ (i := 10) (N := some 36) (v := ?_) (a' := ?_) (ar_ 25 11) rfl rfl (any_of HT_.out (by kernel_rfl)) (fun _ _ _ h => h) (Or.inl ⟨by rfl, ?_⟩) ?_ ?_; rotate_left; (focus (intro w'; go_simp; with_reducible rfl)); rotate_left; (focus (simp only [Act.put, List.setIfInBounds_toArray, List.set_cons_zero, List.set_cons_succ, i64_w, i32_w]; first | done | rfl))
        refine pure_ (i := 11) (N := some 37) (v := undef) (a' := ?_) (ar_ 25 12) rfl rfl (any_of HT_.out (by kernel_rfl)) (fun _ _ _ h => h) (Or.inr ⟨by rfl, rfl⟩) ?_ ?_; rotate_left; (focus (simp only [Act.put, List.setIfInBounds_toArray, List.set_cons_zero, List.set_cons_succ, i64_w, i32_w]; first | done | rfl))
        refine pure_ (i := 12) (N := some 38) (v := undef) (a' := ?_) (ar_ 25 13) rfl rfl (any_of HT_.out (by kernel_rfl)) (fun _ _ _ h => h) (Or.inr ⟨by rfl, rfl⟩) ?_ ?_; rotate_left; (focus (simp only [Act.put, List.setIfInBounds_toArray, List.set_cons_zero, List.set_cons_succ, i64_w, i32_w]; first | done | rfl))
        refine pure_ (i := 13) (N := some 39) (v := undef) (a' := ?_) (ar_ 25 14) rfl rfl (any_of HT_.out (by kernel_rfl)) (fun _ _ _ h => h) (Or.inr ⟨by rfl, rfl⟩) ?_ ?_; rotate_left; (focus (simp only [Act.put, List.setIfInBounds_toArray, List.set_cons_zero, List.set_cons_succ, i64_w, i32_w]; first | done | rfl))
        refine pure_ (i := 14) (N := some 40) (v := undef) (a' := ?_) (ar_ 25 15) rfl rfl (any_of HT_.out (by kernel_rfl)) (fun _ _ _ h => h) (Or.inr ⟨by rfl, rfl⟩) ?_ ?_; rotate_left; (focus (simp only [Act.put, List.setIfInBounds_toArray, List.set_cons_zero, List.set_cons_succ, i64_w, i32_w]; first | done | rfl))
        refine pure_ (i := 15) (N := some 41) (v := undef) (a' := ?_) (ar_ 25 16) rfl rfl (any_of HT_.out (by kernel_rfl)) (fun _ _ _ h => h) (Or.inr ⟨by rfl, rfl⟩) ?_ ?_; rotate_left; (focus (simp only [Act.put, List.setIfInBounds_toArray, List.set_cons_zero, List.set_cons_succ, i64_w, i32_w]; first | done | rfl))
        refine pure_ (i := 16) (N := some 42) (v := undef) (a' := ?_) (ar_ 25 17) rfl rfl (any_of HT_.out (by kernel_rfl)) (fun _ _ _ h => h) (Or.inr ⟨by rfl, rfl⟩) ?_ ?_; rotate_left; (focus (simp only [Act.put, List.setIfInBounds_toArray, List.set_cons_zero, List.set_cons_succ, i64_w, i32_w]; first | done | rfl))
        refine pure_ (i := 17) (N := some 43) (v := undef) (a' := ?_) (ar_ 25 18) rfl rfl (any_of HT_.out (by kernel_rfl)) (fun _ _ _ h => h) (Or.inr ⟨by rfl, rfl⟩) ?_ ?_; rotate_left; (focus (simp only [Act.put, List.setIfInBounds_toArray, List.set_cons_zero, List.set_cons_succ, i64_w, i32_w]; first | done | rfl))
        refine pure_ (i := 18) (N := some 44) (v := undef) (a' := ?_) (ar_ 25 19) rfl rfl (any_of HT_.out (by kernel_rfl)) (fun _ _ _ h => h) (Or.inr ⟨by rfl, rfl⟩) ?_ ?_; rotate_left; (focus (simp only [Act.put, List.setIfInBounds_toArray, List.set_cons_zero, List.set_cons_succ, i64_w, i32_w]; first | done | rfl))
        refine pure_ (i := 19) (N := some 45) (v := undef) (a' := ?_) (ar_ 25 20) rfl rfl (any_of HT_.out (by kernel_rfl)) (fun _ _ _ h => h) (Or.inr ⟨by rfl, rfl⟩) ?_ ?_; rotate_left; (focus (simp only [Act.put, List.setIfInBounds_toArray, List.set_cons_zero, List.set_cons_succ, i64_w, i32_w]; first | done | rfl))
        refine pure_ (i := 20) (N := some 46) (v := undef) (a' := ?_) (ar_ 25 21) rfl rfl (any_of HT_.out (by kernel_rfl)) (fun _ _ _ h => h) (Or.inr ⟨by rfl, rfl⟩) ?_ ?_; rotate_left; (focus (simp only [Act.put, List.setIfInBounds_toArray, List.set_cons_zero, List.set_cons_succ, i64_w, i32_w]; first | done | rfl))
        refine pure_ (i := 21) (N := some 47) (v := undef) (a' := ?_) (ar_ 25 22) rfl rfl (any_of HT_.out (by kernel_rfl)) (fun _ _ _ h => h) (Or.inr ⟨by rfl, rfl⟩) ?_ ?_; rotate_left; (focus (simp only [Act.put, List.setIfInBounds_toArray, List.set_cons_zero, List.set_cons_succ, i64_w, i32_w]; first | done | rfl))
        refine pure_ (i := 22) (N := some 48) (v := undef) (a' := ?_) (ar_ 25 23) rfl rfl (any_of HT_.out (by kernel_rfl)) (fun _ _ _ h => h) (Or.inr ⟨by rfl, rfl⟩) ?_ ?_; rotate_left; (focus (simp only [Act.put, List.setIfInBounds_toArray, List.set_cons_zero, List.set_cons_succ, i64_w, i32_w]; first | done | rfl))
        refine pure_ (i := 23) (N := some 49) (v := undef) (a' := ?_) (ar_ 25 24) rfl rfl (any_of HT_.out (by kernel_rfl)) (fun _ _ _ h => h) (Or.inr ⟨by rfl, rfl⟩) ?_ ?_; rotate_left; (focus (simp only [Act.put, List.setIfInBounds_toArray, List.set_cons_zero, List.set_cons_succ, i64_w, i32_w]; first | done | rfl))
        refine pure_ (i := 24) (N := some 50) (v := ?_) (a' := ?_) (ar_ 25 25) rfl rfl (any_of HT_.out (by kernel_rfl)) (fun _ _ _ h => h) (Or.inl ⟨by rfl, ?_⟩) ?_ ?_; rotate_left; (focus (intro w'; go_simp; with_reducible rfl)); rotate_left; (focus (simp only [Act.put, List.setIfInBounds_toArray, List.set_cons_zero, List.set_cons_succ, i64_w, i32_w]; first | done | rfl))
        refine done_ (done_of HT_.out (by kernel_rfl)) ?_
        go_wp2
        go_ret
        exact ⟨by rw [HFZ.out]; rfl, (by repeat first | (with_reducible first | exact HB.out | apply ba_ | apply bn_ | apply bd_) | exact HB.out)⟩
      rw [decide_eq_true c1] at hr
      have G1_ := am_ hr
      have hok : okS ⟨f0, ⟨f1, f2⟩⟩ := ⟨c0, c1⟩
      clear hr g0_ c0 c1
      by_cases hi0 : i = 0
      · obtain rfl : i = 0 := hi0
        have d5 : decide ((0 : Int) < ((0 : Nat) : Int)) = false := decide_eq_false (by omega)
        have d6 : decide ((0 : Int) < 0) = false := decide_eq_false (by omega)
        have hl0 := eq_true (show (0 : Int) < (xs.length : Int) from by omega)
        have HFS := am_ (show chkS (prvS xs (0 + 1)) (xs.drop (0 + 1)) = FIN from by rw [← HF.out, chkS_go hil HA.out hok (fun q e => by cases e)])
        clear hok
        refine start_ (n := 25) (S := fun w' => w'.cell? ⟨g4, 0, none⟩ = some (.int .i64 f0) ∧ w'.cell? ⟨g4, 1, none⟩ = some (.int .i64 f1) ∧ w'.cell? ⟨g4, 2, none⟩ = some (.int .i64 f2)) (ds := []) (ar_ 25 0) (by kernel_rfl) rfl rfl ⟨(blk_cell BKg4.out 0).trans rfl, (blk_cell BKg4.out 1).trans rfl, (blk_cell BKg4.out 2).trans rfl⟩ (fun hHeld => ?_)
        refine with_tabW tab80_6_t tab80_6_b (fun HT_ HW_ => ?_)
        have n_ := am_ (blk_drew BKg4.out); clear BKg4; have BKg4 := n_; clear n_
        have n_ := am_ (below_drew1 HB.out); clear HB; have HB := n_; clear n_
        generalize W4.drew = wq_ at BKg4 HB hHeld ⊢
        refine pure_ (i := 0) (N := some 26) (v := ?_) (a' := ?_) (ar_ 25 1) rfl rfl (any_of HT_.out (by kernel_rfl)) (fun _ _ _ h => h) (Or.inl ⟨by rfl, ?_⟩) ?_ ?_; rotate_left; (focus (intro w'; go_simp; with_reducible rfl)); rotate_left; (focus (simp only [Act.put, List.setIfInBounds_toArray, List.set_cons_zero, List.set_cons_succ, i64_w, i32_w]; first | done | rfl))
        refine take_ (i := 1) (N := some 27) (v := ?_) (a' := ?_) (ar_ 25 2) rfl rfl (take_ofW HT_.out HW_.out (by kernel_rfl)) (fun _ _ _ h => h) (Or.inl ⟨by rfl, ?_⟩) hHeld ?_ ?_; rotate_left; (focus (rintro w' ⟨s0, s1, s2⟩; go_simp; with_reducible rfl)); rotate_left; (focus (simp only [Act.put, List.setIfInBounds_toArray, List.set_cons_zero, List.set_cons_succ, i64_w, i32_w]; first | done | rfl))
        refine one_ (i := 2) (N := some 28) (ar_ 25 3) rfl rfl (one_of HT_.out (by kernel_rfl)) (by decide) (fun K hK => ?_)
        refine goes_ Try.func64 (by kernel_rfl) rfl #[.int .i64 f0] (by rfl) rfl rfl (by (try simp only [List.map_toArray, List.map_cons, List.map_nil]); first | done | rfl) ?_
        with_reducible refine (impl_isDay.calls f0 true _ G0.out).mono ?_
        rintro e w1_ ⟨rfl, hb0⟩
        have hb := db_ hb0
        clear hb0
        replace BKg4 := am_ (blk_below (blk_below BKg4.out (by repeat first | exact Below.refl _ _ | apply ba_ | apply bn_ | apply bd_)) hb); replace HB := am_ (below_step (by repeat first | (with_reducible first | exact HB.out | apply ba_ | apply bn_ | apply bd_) | exact HB.out) hb); clear hb
        refine ⟨_, rfl, ?_⟩
        refine hK.out _ _ ⟨(blk_cell BKg4.out 0).trans rfl, (blk_cell BKg4.out 1).trans rfl, (blk_cell BKg4.out 2).trans rfl⟩ (fun hHeld => ?_)
        clear hK K
        refine norm_ (a' := ?_) ?_ ?_; rotate_left; (focus (show Act.put _ (some 28) _ = _; simp only [Act.put, List.setIfInBounds_toArray, List.set_cons_zero, List.set_cons_succ, i64_w, i32_w]; first | done | rfl))
        refine pure_ (i := 3) (N := some 29) (v := ?_) (a' := ?_) (ar_ 25 4) rfl rfl (any_of HT_.out (by kernel_rfl)) (fun _ _ _ h => h) (Or.inl ⟨by rfl, ?_⟩) ?_ ?_; rotate_left; (focus (intro w'; go_simp; with_reducible rfl)); rotate_left; (focus (simp only [Act.put, List.setIfInBounds_toArray, List.set_cons_zero, List.set_cons_succ, i64_w, i32_w]; first | done | rfl))
        refine pure_ (i := 4) (N := some 30) (v := ?_) (a' := ?_) (ar_ 25 5) rfl rfl (any_of HT_.out (by kernel_rfl)) (fun _ _ _ h => h) (Or.inl ⟨by rfl, ?_⟩) ?_ ?_; rotate_left; (focus (intro w'; go_simp; with_reducible rfl)); rotate_left; (focus (simp only [Act.put, List.setIfInBounds_toArray, List.set_cons_zero, List.set_cons_succ, i64_w, i32_w]; first | done | rfl))
        refine pure_ (i := 5) (N := some 31) (v := ?_) (a' := ?_) (ar_ 25 6) rfl rfl (any_of HT_.out (by kernel_rfl)) (fun _ _ _ h => h) (Or.inl ⟨by rfl, ?_⟩) ?_ ?_; rotate_left; (focus (intro w'; go_simp; with_reducible rfl)); rotate_left; (focus (simp only [Act.put, List.setIfInBounds_toArray, List.set_cons_zero, List.set_cons_succ, i64_w, i32_w]; first | done | rfl))
        refine take_ (i := 6) (N := some 32) (v := ?_) (a' := ?_) (ar_ 25 7) rfl rfl (take_ofW HT_.out HW_.out (by kernel_rfl)) (fun _ _ _ h => h) (Or.inl ⟨by rfl, ?_⟩) hHeld ?_ ?_; rotate_left; (focus (rintro w' ⟨s0, s1, s2⟩; go_simp; with_reducible rfl)); rotate_left; (focus (simp only [Act.put, List.setIfInBounds_toArray, List.set_cons_zero, List.set_cons_succ, i64_w, i32_w]; first | done | rfl))
        refine one_ (i := 7) (N := some 33) (ar_ 25 8) rfl rfl (one_of HT_.out (by kernel_rfl)) (by decide) (fun K hK => ?_)
        refine goes_ Try.func54 (by kernel_rfl) rfl #[.agg #[.int .i64 f1, .int .i64 f2]] (by rfl) rfl rfl (by (try simp only [List.map_toArray, List.map_cons, List.map_nil]); first | done | rfl) ?_
        with_reducible refine (impl_isRate.calls kr f1 f2 true _ G1_.out).mono ?_
        rintro e w2_ ⟨rfl, hb⟩
        replace BKg4 := am_ (blk_below (blk_below BKg4.out (by repeat first | exact Below.refl _ _ | apply ba_ | apply bn_ | apply bd_)) hb); replace HB := am_ (below_step (by repeat first | (with_reducible first | exact HB.out | apply ba_ | apply bn_ | apply bd_) | exact HB.out) hb); clear hb
        refine ⟨_, rfl, ?_⟩
        refine hK.out _ _ ⟨(blk_cell BKg4.out 0).trans rfl, (blk_cell BKg4.out 1).trans rfl, (blk_cell BKg4.out 2).trans rfl⟩ (fun hHeld => ?_)
        clear hK K
        refine norm_ (a' := ?_) ?_ ?_; rotate_left; (focus (show Act.put _ (some 33) _ = _; simp only [Act.put, List.setIfInBounds_toArray, List.set_cons_zero, List.set_cons_succ, i64_w, i32_w]; first | done | rfl))
        refine pure_ (i := 8) (N := some 34) (v := ?_) (a' := ?_) (ar_ 25 9) rfl rfl (any_of HT_.out (by kernel_rfl)) (fun _ _ _ h => h) (Or.inl ⟨by rfl, ?_⟩) ?_ ?_; rotate_left; (focus (intro w'; go_simp; with_reducible rfl)); rotate_left; (focus (simp only [Act.put, List.setIfInBounds_toArray, List.set_cons_zero, List.set_cons_succ, i64_w, i32_w]; first | done | rfl))
        refine pure_ (i := 9) (N := some 35) (v := ?_) (a' := ?_) (ar_ 25 10) rfl rfl (any_of HT_.out (by kernel_rfl)) (fun _ _ _ h => h) (Or.inl ⟨by rfl, ?_⟩) ?_ ?_; rotate_left; (focus (intro w'; go_simp; with_reducible rfl)); rotate_left; (focus (simp only [Act.put, List.setIfInBounds_toArray, List.set_cons_zero, List.set_cons_succ, i64_w, i32_w]; first | done | rfl))
        refine pure_ (i := 10) (N := some 36) (v := ?_) (a' := ?_) (ar_ 25 11) rfl rfl (any_of HT_.out (by kernel_rfl)) (fun _ _ _ h => h) (Or.inl ⟨by rfl, ?_⟩) ?_ ?_; rotate_left; (focus (intro w'; go_simp; with_reducible rfl)); rotate_left; (focus (simp only [Act.put, List.setIfInBounds_toArray, List.set_cons_zero, List.set_cons_succ, i64_w, i32_w]; first | done | rfl))
        refine pure_ (i := 11) (N := some 37) (v := ?_) (a' := ?_) (ar_ 25 12) rfl rfl (any_of HT_.out (by kernel_rfl)) (fun _ _ _ h => h) (Or.inl ⟨by rfl, ?_⟩) ?_ ?_; rotate_left; (focus (intro w'; go_simp; with_reducible rfl)); rotate_left; (focus (simp only [Act.put, List.setIfInBounds_toArray, List.set_cons_zero, List.set_cons_succ, i64_w, i32_w]; first | done | rfl))
        refine pure_ (i := 12) (N := some 38) (v := ?_) (a' := ?_) (ar_ 25 13) rfl rfl (any_of HT_.out (by kernel_rfl)) (fun _ _ _ h => h) (Or.inl ⟨by rfl, ?_⟩) ?_ ?_; rotate_left; (focus (intro w'; go_simp; with_reducible rfl)); rotate_left; (focus (simp only [Act.put, List.setIfInBounds_toArray, List.set_cons_zero, List.set_cons_succ, i64_w, i32_w]; first | done | rfl))
        refine pure_ (i := 13) (N := some 39) (v := ?_) (a' := ?_) (ar_ 25 14) rfl rfl (any_of HT_.out (by kernel_rfl)) (fun _ _ _ h => h) (Or.inl ⟨by rfl, ?_⟩) ?_ ?_; rotate_left; (focus (intro w'; go_simp; with_reducible rfl)); rotate_left; (focus (simp only [Act.put, List.setIfInBounds_toArray, List.set_cons_zero, List.set_cons_succ, i64_w, i32_w]; first | done | rfl))
        refine pure_ (i := 14) (N := some 40) (v := undef) (a' := ?_) (ar_ 25 15) rfl rfl (any_of HT_.out (by kernel_rfl)) (fun _ _ _ h => h) (Or.inr ⟨by rfl, rfl⟩) ?_ ?_; rotate_left; (focus (simp only [Act.put, List.setIfInBounds_toArray, List.set_cons_zero, List.set_cons_succ, i64_w, i32_w]; first | done | rfl))
        refine pure_ (i := 15) (N := some 41) (v := undef) (a' := ?_) (ar_ 25 16) rfl rfl (any_of HT_.out (by kernel_rfl)) (fun _ _ _ h => h) (Or.inr ⟨by rfl, rfl⟩) ?_ ?_; rotate_left; (focus (simp only [Act.put, List.setIfInBounds_toArray, List.set_cons_zero, List.set_cons_succ, i64_w, i32_w]; first | done | rfl))
        refine pure_ (i := 16) (N := some 42) (v := undef) (a' := ?_) (ar_ 25 17) rfl rfl (any_of HT_.out (by kernel_rfl)) (fun _ _ _ h => h) (Or.inr ⟨by rfl, rfl⟩) ?_ ?_; rotate_left; (focus (simp only [Act.put, List.setIfInBounds_toArray, List.set_cons_zero, List.set_cons_succ, i64_w, i32_w]; first | done | rfl))
        refine pure_ (i := 17) (N := some 43) (v := undef) (a' := ?_) (ar_ 25 18) rfl rfl (any_of HT_.out (by kernel_rfl)) (fun _ _ _ h => h) (Or.inr ⟨by rfl, rfl⟩) ?_ ?_; rotate_left; (focus (simp only [Act.put, List.setIfInBounds_toArray, List.set_cons_zero, List.set_cons_succ, i64_w, i32_w]; first | done | rfl))
        refine pure_ (i := 18) (N := some 44) (v := undef) (a' := ?_) (ar_ 25 19) rfl rfl (any_of HT_.out (by kernel_rfl)) (fun _ _ _ h => h) (Or.inr ⟨by rfl, rfl⟩) ?_ ?_; rotate_left; (focus (simp only [Act.put, List.setIfInBounds_toArray, List.set_cons_zero, List.set_cons_succ, i64_w, i32_w]; first | done | rfl))
        refine pure_ (i := 19) (N := some 45) (v := undef) (a' := ?_) (ar_ 25 20) rfl rfl (any_of HT_.out (by kernel_rfl)) (fun _ _ _ h => h) (Or.inr ⟨by rfl, rfl⟩) ?_ ?_; rotate_left; (focus (simp only [Act.put, List.setIfInBounds_toArray, List.set_cons_zero, List.set_cons_succ, i64_w, i32_w]; first | done | rfl))
        refine pure_ (i := 20) (N := some 46) (v := undef) (a' := ?_) (ar_ 25 21) rfl rfl (any_of HT_.out (by kernel_rfl)) (fun _ _ _ h => h) (Or.inr ⟨by rfl, rfl⟩) ?_ ?_; rotate_left; (focus (simp only [Act.put, List.setIfInBounds_toArray, List.set_cons_zero, List.set_cons_succ, i64_w, i32_w]; first | done | rfl))
        refine pure_ (i := 21) (N := some 47) (v := undef) (a' := ?_) (ar_ 25 22) rfl rfl (any_of HT_.out (by kernel_rfl)) (fun _ _ _ h => h) (Or.inr ⟨by rfl, rfl⟩) ?_ ?_; rotate_left; (focus (simp only [Act.put, List.setIfInBounds_toArray, List.set_cons_zero, List.set_cons_succ, i64_w, i32_w]; first | done | rfl))
        refine pure_ (i := 22) (N := some 48) (v := undef) (a' := ?_) (ar_ 25 23) rfl rfl (any_of HT_.out (by kernel_rfl)) (fun _ _ _ h => h) (Or.inr ⟨by rfl, rfl⟩) ?_ ?_; rotate_left; (focus (simp only [Act.put, List.setIfInBounds_toArray, List.set_cons_zero, List.set_cons_succ, i64_w, i32_w]; first | done | rfl))
        refine pure_ (i := 23) (N := some 49) (v := ?_) (a' := ?_) (ar_ 25 24) rfl rfl (any_of HT_.out (by kernel_rfl)) (fun _ _ _ h => h) (Or.inl ⟨by rfl, ?_⟩) ?_ ?_; rotate_left; (focus (intro w'; go_simp; with_reducible rfl)); rotate_left; (focus (simp only [Act.put, List.setIfInBounds_toArray, List.set_cons_zero, List.set_cons_succ, i64_w, i32_w]; first | done | rfl))
        refine pure_ (i := 24) (N := some 50) (v := ?_) (a' := ?_) (ar_ 25 25) rfl rfl (any_of HT_.out (by kernel_rfl)) (fun _ _ _ h => h) (Or.inl ⟨by rfl, ?_⟩) ?_ ?_; rotate_left; (focus (intro w'; go_simp; with_reducible rfl)); rotate_left; (focus (simp only [Act.put, List.setIfInBounds_toArray, List.set_cons_zero, List.set_cons_succ, i64_w, i32_w]; first | done | rfl))
        refine done_ (done_of HT_.out (by kernel_rfl)) ?_
        go_wp2
        go_roundw
        case rel => exact ⟨0 + 1, by go_num, ⟨hil⟩, HFS, ⟨(by repeat first | (with_reducible first | exact HB.out | apply ba_ | apply bn_ | apply bd_) | exact HB.out)⟩⟩
        case measure => simp [intOf]; omega
      · have d5 : decide ((0 : Int) < (i : Int)) = true := decide_eq_true (by omega)
        have d6 : decide (0 < i) = true := decide_eq_true (by omega)
        obtain ⟨⟨pv, ⟨p1, p2⟩⟩, hpv⟩ : ∃ x, x = rd_T61 xs ((i - 1 : Nat) : Int) := ⟨_, rfl⟩
        have hp0 := (cellsR HR0.out (i - 1) (by omega) hpv.symm).1
        have HP := am_ hp0
        have HPV := am_ (show prvS xs i = some pv from by rw [prvS_pos xs (by omega), ← hpv])
        have tk : ((i : Int) - 1).toNat = i - 1 := by omega
        have tk2 : (0 : Int) ≤ (i : Int) - 1 := by omega
        have tk3 : (i : Int) - 1 < (xs.length : Int) := by omega
        have tk4 : (i : Int) < (xs.length : Int) := by omega
        have tk5 : (1 : Int) ≤ (i : Int) := by omega
        have tk7 : (0 : Int) < (i : Int) := by omega
        clear hp0 hpv hi0
        by_cases c5 : f0 ≤ pv
        · have d7 : decide (f0 ≤ pv) = true := decide_eq_true c5
          have HFZ := am_ (show FIN = false from by rw [← HF.out, chkS_no hil HA.out (fun g => by have := g.2 pv HPV.out; simp only at this; omega)])
          clear hok c5
          have tk6 : IntKind.i64.wrap ((i : Int) - 1) = (i : Int) - 1 := IntWalk.i64_in _ (by omega)
          have yg4_0 : W4.cell? ⟨g4, 0, none⟩ = some (.int .i64 f0) := (blk_cell BKg4.out 0).trans rfl; have fg4_0 := blk_frozen BKg4.out 0; have yg4_1 : W4.cell? ⟨g4, 1, none⟩ = some (.int .i64 f1) := (blk_cell BKg4.out 1).trans rfl; have fg4_1 := blk_frozen BKg4.out 1; have yg4_2 : W4.cell? ⟨g4, 2, none⟩ = some (.int .i64 f2) := (blk_cell BKg4.out 2).trans rfl; have fg4_2 := blk_frozen BKg4.out 2
          have hp := (HB.out.cell (p := ⟨b0, (i - 1) * 3, none⟩) HBX.out).trans HP.out
          go_region_held3 (fun w' => w'.cell? ⟨g4, 0, none⟩ = some (.int .i64 f0) ∧ w'.cell? ⟨g4, 1, none⟩ = some (.int .i64 f1) ∧ w'.cell? ⟨g4, 2, none⟩ = some (.int .i64 f2) ∧ w'.cell? ⟨b0, (i - 1) * 3, none⟩ = some (.int .i64 pv)) (go_keep)
            ((first
              | (go_at_call 64; refine (impl_isDay.calls f0 true _ G0.out).mono ?_; rintro e w1_ ⟨rfl, hb0⟩; have hb := db_ hb0; clear hb0; replace BKg4 := am_ (blk_below (blk_below BKg4.out (by repeat first | exact Below.refl _ _ | apply ba_ | apply bn_ | apply bd_)) hb); replace HB := am_ (below_step (by repeat first | (with_reducible first | exact HB.out | apply ba_ | apply bn_ | apply bd_) | exact HB.out) hb); clear hb; clear yg4_0 fg4_0 yg4_1 fg4_1 yg4_2 fg4_2; clear hp; have yg4_0 : w1_.cell? ⟨g4, 0, none⟩ = some (.int .i64 f0) := (blk_cell BKg4.out 0).trans rfl; have fg4_0 := blk_frozen BKg4.out 0; have yg4_1 : w1_.cell? ⟨g4, 1, none⟩ = some (.int .i64 f1) := (blk_cell BKg4.out 1).trans rfl; have fg4_1 := blk_frozen BKg4.out 1; have yg4_2 : w1_.cell? ⟨g4, 2, none⟩ = some (.int .i64 f2) := (blk_cell BKg4.out 2).trans rfl; have fg4_2 := blk_frozen BKg4.out 2; have hp := (HB.out.cell (p := ⟨b0, (i - 1) * 3, none⟩) HBX.out).trans HP.out)
              | (go_at_call 54; refine (impl_isRate.calls kr f1 f2 true _ G1_.out).mono ?_; rintro e w2_ ⟨rfl, hb⟩; replace BKg4 := am_ (blk_below (blk_below BKg4.out (by repeat first | exact Below.refl _ _ | apply ba_ | apply bn_ | apply bd_)) hb); replace HB := am_ (below_step (by repeat first | (with_reducible first | exact HB.out | apply ba_ | apply bn_ | apply bd_) | exact HB.out) hb); clear hb; clear yg4_0 fg4_0 yg4_1 fg4_1 yg4_2 fg4_2; clear hp; have yg4_0 : w2_.cell? ⟨g4, 0, none⟩ = some (.int .i64 f0) := (blk_cell BKg4.out 0).trans rfl; have fg4_0 := blk_frozen BKg4.out 0; have yg4_1 : w2_.cell? ⟨g4, 1, none⟩ = some (.int .i64 f1) := (blk_cell BKg4.out 1).trans rfl; have fg4_1 := blk_frozen BKg4.out 1; have yg4_2 : w2_.cell? ⟨g4, 2, none⟩ = some (.int .i64 f2) := (blk_cell BKg4.out 2).trans rfl; have fg4_2 := blk_frozen BKg4.out 2; have hp := (HB.out.cell (p := ⟨b0, (i - 1) * 3, none⟩) HBX.out).trans HP.out)))
          clear yg4_0 fg4_0 yg4_1 fg4_1 yg4_2 fg4_2
          clear hp
          clear tk tk2 tk3 tk4 tk5 tk6 tk7
          go_wp2
          go_ret
          exact ⟨by rw [HFZ.out]; rfl, (by repeat first | (with_reducible first | exact HB.out | apply ba_ | apply bn_ | apply bd_) | exact HB.out)⟩
        · have d7 : decide (f0 ≤ pv) = false := decide_eq_false c5
          have HFS := am_ (show chkS (prvS xs (i + 1)) (xs.drop (i + 1)) = FIN from by rw [← HF.out, chkS_go hil HA.out hok (fun q e => by rw [HPV.out] at e; cases e; show pv < f0; omega)])
          clear hok c5
          have tk6 : IntKind.i64.wrap ((i : Int) - 1) = (i : Int) - 1 := IntWalk.i64_in _ (by omega)
          have yg4_0 : W4.cell? ⟨g4, 0, none⟩ = some (.int .i64 f0) := (blk_cell BKg4.out 0).trans rfl; have fg4_0 := blk_frozen BKg4.out 0; have yg4_1 : W4.cell? ⟨g4, 1, none⟩ = some (.int .i64 f1) := (blk_cell BKg4.out 1).trans rfl; have fg4_1 := blk_frozen BKg4.out 1; have yg4_2 : W4.cell? ⟨g4, 2, none⟩ = some (.int .i64 f2) := (blk_cell BKg4.out 2).trans rfl; have fg4_2 := blk_frozen BKg4.out 2
          have hp := (HB.out.cell (p := ⟨b0, (i - 1) * 3, none⟩) HBX.out).trans HP.out
          go_region_held3 (fun w' => w'.cell? ⟨g4, 0, none⟩ = some (.int .i64 f0) ∧ w'.cell? ⟨g4, 1, none⟩ = some (.int .i64 f1) ∧ w'.cell? ⟨g4, 2, none⟩ = some (.int .i64 f2) ∧ w'.cell? ⟨b0, (i - 1) * 3, none⟩ = some (.int .i64 pv)) (go_keep)
            ((first
              | (go_at_call 64; refine (impl_isDay.calls f0 true _ G0.out).mono ?_; rintro e w1_ ⟨rfl, hb0⟩; have hb := db_ hb0; clear hb0; replace BKg4 := am_ (blk_below (blk_below BKg4.out (by repeat first | exact Below.refl _ _ | apply ba_ | apply bn_ | apply bd_)) hb); replace HB := am_ (below_step (by repeat first | (with_reducible first | exact HB.out | apply ba_ | apply bn_ | apply bd_) | exact HB.out) hb); clear hb; clear yg4_0 fg4_0 yg4_1 fg4_1 yg4_2 fg4_2; clear hp; have yg4_0 : w1_.cell? ⟨g4, 0, none⟩ = some (.int .i64 f0) := (blk_cell BKg4.out 0).trans rfl; have fg4_0 := blk_frozen BKg4.out 0; have yg4_1 : w1_.cell? ⟨g4, 1, none⟩ = some (.int .i64 f1) := (blk_cell BKg4.out 1).trans rfl; have fg4_1 := blk_frozen BKg4.out 1; have yg4_2 : w1_.cell? ⟨g4, 2, none⟩ = some (.int .i64 f2) := (blk_cell BKg4.out 2).trans rfl; have fg4_2 := blk_frozen BKg4.out 2; have hp := (HB.out.cell (p := ⟨b0, (i - 1) * 3, none⟩) HBX.out).trans HP.out)
              | (go_at_call 54; refine (impl_isRate.calls kr f1 f2 true _ G1_.out).mono ?_; rintro e w2_ ⟨rfl, hb⟩; replace BKg4 := am_ (blk_below (blk_below BKg4.out (by repeat first | exact Below.refl _ _ | apply ba_ | apply bn_ | apply bd_)) hb); replace HB := am_ (below_step (by repeat first | (with_reducible first | exact HB.out | apply ba_ | apply bn_ | apply bd_) | exact HB.out) hb); clear hb; clear yg4_0 fg4_0 yg4_1 fg4_1 yg4_2 fg4_2; clear hp; have yg4_0 : w2_.cell? ⟨g4, 0, none⟩ = some (.int .i64 f0) := (blk_cell BKg4.out 0).trans rfl; have fg4_0 := blk_frozen BKg4.out 0; have yg4_1 : w2_.cell? ⟨g4, 1, none⟩ = some (.int .i64 f1) := (blk_cell BKg4.out 1).trans rfl; have fg4_1 := blk_frozen BKg4.out 1; have yg4_2 : w2_.cell? ⟨g4, 2, none⟩ = some (.int .i64 f2) := (blk_cell BKg4.out 2).trans rfl; have fg4_2 := blk_frozen BKg4.out 2; have hp := (HB.out.cell (p := ⟨b0, (i - 1) * 3, none⟩) HBX.out).trans HP.out)))
          clear yg4_0 fg4_0 yg4_1 fg4_1 yg4_2 fg4_2
          clear hp
          clear tk tk2 tk3 tk4 tk5 tk6 tk7
          go_wp2
          go_roundw
          case rel => exact ⟨i + 1, by go_num, ⟨hil⟩, HFS, ⟨(by repeat first | (with_reducible first | exact HB.out | apply ba_ | apply bn_ | apply bd_) | exact HB.out)⟩⟩
          case measure => simp [intOf]; omega
    · obtain rfl : i = xs.length := by have := HI.out; omega
      have ci : decide (xs.length < xs.length) = false := decide_eq_false (by omega)
      have hfe := HF.out
      rw [chkS_nil] at hfe
      have HFE := am_ hfe
      clear hfe
      go_wp2
      go_ret
      exact ⟨by rw [← HFE.out]; rfl, (by repeat first | (with_reducible first | exact HB.out | apply ba_ | apply bn_ | apply bd_) | exact HB.out)⟩
theorem okStepsI_c (A0 : Option Addr) (c0 : Nat) (xs : List S61) (a : Int) (v : Bool) (hv : some (arOk xs a) = some v) (w : World) (hr0 : Kd.C k61 w A0 xs.length xs) (ha0 : 0 < xs.length → ∃ b, A0 = some ⟨b, 0, none⟩) (hn : xs.length ≤ 1048576) :
    Calls Try.prog 80 #[.slice A0 xs.length c0, .int .i64 a] w fun e w' => e = .returned (.bool v) ∧ Below w.heap.size w w' := by
  obtain rfl : arOk xs a = v := Option.some.inj hv
  exact okStepsI_c0 A0 c0 xs a w hr0 ha0 hn
set_option maxHeartbeats 8000000 in
set_option maxRecDepth 100000 in
theorem addI_c (n d n1 d1 : Int) (w : World) :
    Calls Try.prog 81 #[.agg #[.int .i64 n, .int .i64 d], .agg #[.int .i64 n1, .int .i64 d1]] w fun e w' => e = .returned (.tuple #[.agg #[.int .i64 (addF n d n1 d1).1, .int .i64 (addF n d n1 d1).2.1], .bool (addF n d n1 d1).2.2]) ∧ Below w.heap.size w w' := by
  have HB := am_ (Below.refl w.heap.size w)
  obtain ⟨ka, ha⟩ := roundsOf (implIsF_ev n d)
  obtain ⟨kb, hbb⟩ := roundsOf (implIsF_ev n1 d1)
  have g0_ := ha
  by_cases c0_ : okF n d
  · rw [decide_eq_true c0_] at g0_
    have G1 := am_ g0_
    clear g0_
    have g1_ := hbb
    by_cases c1_ : okF n1 d1
    · rw [decide_eq_true c1_] at g1_
      have G2 := am_ g1_
      clear g1_
      have hm := okF_add c0_ c1_
      have hfin : addF n d n1 d1 = fracA (n * d1 + n1 * d) (d * d1) := by unfold addF; rw [if_pos ⟨c0_, c1_⟩]
      rw [hfin]
      obtain ⟨X, hX⟩ : ∃ X, X = n * d1 := ⟨_, rfl⟩
      obtain ⟨Y, hY⟩ : ∃ Y, Y = n1 * d := ⟨_, rfl⟩
      obtain ⟨Q, hQ⟩ : ∃ Q, Q = d * d1 := ⟨_, rfl⟩
      rw [← hX, ← hY, ← hQ] at hm ⊢
      obtain ⟨P, hP⟩ : ∃ P, P = X + Y := ⟨_, rfl⟩
      rw [← hP]
      have hp2 : P.natAbs ≤ 2000000000000000000 := by omega
      have hw1 : IntKind.i64.wrap (n * d1) = X := by rw [← hX]; exact IntWalk.i64_in _ (by omega)
      have hw2 : IntKind.i64.wrap (n1 * d) = Y := by rw [← hY]; exact IntWalk.i64_in _ (by omega)
      have hw3 : IntKind.i64.wrap (d * d1) = Q := by rw [← hQ]; exact IntWalk.i64_in _ (by omega)
      have hw4 : IntKind.i64.wrap (X + Y) = P := by rw [← hP]; exact IntWalk.i64_in _ (by omega)
      obtain ⟨FR, hFR⟩ : ∃ F, F = fracA P Q := ⟨_, rfl⟩
      have HFR := am_ hFR.symm
      rw [← hFR]
      obtain ⟨n2, d2, o2⟩ := FR
      clear hFR
      have HPA := am_ (show P.natAbs ≤ 4000000000000000000 ∧ Q.natAbs ≤ 4000000000000000000 ∧ Q ≠ 0 from by omega)
      clear hfin hP hQ hX hY hm hp2 c0_ c1_
      go_enter Try.func81, Try.ntmps81
      go_wp2_with (first
        | (((with_reducible refine gate_dst (N := 2) rfl ?_); refine box_event ?hg (N := 2) ?hd (cs := #[.int .i64 n,.int .i64 d]) (t := 24) ?hr ?_; (case hd => rfl); (case hg => rfl); (case hr => first | (go_simp; done) | (go_simp; rfl))); intro g1 hg w_g1 hbox hb; have n_ := am_ (below_step (by repeat first | (with_reducible first | exact HB.out | apply ba_ | apply bn_ | apply bd_) | exact HB.out) hb); have BKg1 := am_ hbox; have GEg1 := am_ (show w.heap.size ≤ g1 from by rw [hg]; exact below_size (by repeat first | (with_reducible first | exact HB.out | apply ba_ | apply bn_ | apply bd_) | exact HB.out)); clear HB ; have HB := n_; clear n_ hb hbox hg)
        | (((with_reducible refine gate_dst (N := 3) rfl ?_); refine box_event ?hg (N := 3) ?hd (cs := #[.int .i64 n1,.int .i64 d1]) (t := 24) ?hr ?_; (case hd => rfl); (case hg => rfl); (case hr => first | (go_simp; done) | (go_simp; rfl))); intro g2 hg w_g2 hbox hb; have n_ := am_ (below_step (by repeat first | (with_reducible first | exact HB.out | apply ba_ | apply bn_ | apply bd_ | refine below_set ?_ GEg1.out) | exact HB.out) hb); have m_g1 := am_ (blk_below (blk_below BKg1.out (by repeat first | exact Below.refl _ _ | apply ba_ | apply bn_ | apply bd_)) hb); have NEg1_g2 := am_ (show g1 ≠ g2 from by rw [hg]; exact Nat.ne_of_lt (blk_lt (blk_below BKg1.out (by repeat first | exact Below.refl _ _ | apply ba_ | apply bn_ | apply bd_)))); have NEg2_g1 := am_ (Ne.symm NEg1_g2.out); have BKg2 := am_ hbox; have GEg2 := am_ (show w.heap.size ≤ g2 from by rw [hg]; exact below_size (by repeat first | (with_reducible first | exact HB.out | apply ba_ | apply bn_ | apply bd_ | refine below_set ?_ GEg1.out) | exact HB.out)); clear HB BKg1; have HB := n_; clear n_ hb hbox hg; have BKg1 := m_g1; clear m_g1)
        | ((((with_reducible refine gate_dst (N := 4) rfl ?_); refine box_event ?hg (N := 4) ?hd (cs := #[.int .i64 0,.int .i64 0]) (t := 24) ?hr ?_; (case hd => rfl); (case hg => rfl); (case hr => first | (go_simp; done) | (go_simp; rfl))); intro g3 hg w_g3 hbox hb; have n_ := am_ (below_step (by repeat first | (with_reducible first | exact HB.out | apply ba_ | apply bn_ | apply bd_ | refine below_set ?_ GEg1.out | refine below_set ?_ GEg2.out) | exact HB.out) hb); have m_g1 := am_ (blk_below (blk_below BKg1.out (by repeat first | exact Below.refl _ _ | apply ba_ | apply bn_ | apply bd_)) hb); have NEg1_g3 := am_ (show g1 ≠ g3 from by rw [hg]; exact Nat.ne_of_lt (blk_lt (blk_below BKg1.out (by repeat first | exact Below.refl _ _ | apply ba_ | apply bn_ | apply bd_)))); have NEg3_g1 := am_ (Ne.symm NEg1_g3.out); have m_g2 := am_ (blk_below (blk_below BKg2.out (by repeat first | exact Below.refl _ _ | apply ba_ | apply bn_ | apply bd_)) hb); have NEg2_g3 := am_ (show g2 ≠ g3 from by rw [hg]; exact Nat.ne_of_lt (blk_lt (blk_below BKg2.out (by repeat first | exact Below.refl _ _ | apply ba_ | apply bn_ | apply bd_)))); have NEg3_g2 := am_ (Ne.symm NEg2_g3.out); have BKg3 := am_ hbox; have GEg3 := am_ (show w.heap.size ≤ g3 from by rw [hg]; exact below_size (by repeat first | (with_reducible first | exact HB.out | apply ba_ | apply bn_ | apply bd_ | refine below_set ?_ GEg1.out | refine below_set ?_ GEg2.out) | exact HB.out)); clear HB BKg1 BKg2; have HB := n_; clear n_ hb hbox hg; have BKg1 := m_g1; clear m_g1; have BKg2 := m_g2; clear m_g2); have yg1_0 : w_g3.cell? ⟨g1, 0, none⟩ = some (.int .i64 n) := (blk_cell BKg1.out 0).trans rfl; have fg1_0 := blk_frozen BKg1.out 0; have yg1_1 : w_g3.cell? ⟨g1, 1, none⟩ = some (.int .i64 d) := (blk_cell BKg1.out 1).trans rfl; have fg1_1 := blk_frozen BKg1.out 1)
        )
      clear yg1_0 fg1_0 yg1_1 fg1_1
      refine (impl_isFraction.calls ka n d true _ G1.out).mono ?_
      rintro e w1_ ⟨rfl, hb⟩
      replace BKg1 := am_ (blk_below (blk_below BKg1.out (by repeat first | exact Below.refl _ _ | apply ba_ | apply bn_ | apply bd_)) hb); replace BKg2 := am_ (blk_below (blk_below BKg2.out (by repeat first | exact Below.refl _ _ | apply ba_ | apply bn_ | apply bd_)) hb); replace BKg3 := am_ (blk_below (blk_below BKg3.out (by repeat first | exact Below.refl _ _ | apply ba_ | apply bn_ | apply bd_)) hb); replace HB := am_ (below_step (by repeat first | (with_reducible first | exact HB.out | apply ba_ | apply bn_ | apply bd_) | exact HB.out) hb); clear hb
      have yg2_0 : w1_.cell? ⟨g2, 0, none⟩ = some (.int .i64 n1) := (blk_cell BKg2.out 0).trans rfl; have fg2_0 := blk_frozen BKg2.out 0; have yg2_1 : w1_.cell? ⟨g2, 1, none⟩ = some (.int .i64 d1) := (blk_cell BKg2.out 1).trans rfl; have fg2_1 := blk_frozen BKg2.out 1
      go_wp2_with fail
      clear yg2_0 fg2_0 yg2_1 fg2_1
      refine (impl_isFraction.calls kb n1 d1 true _ G2.out).mono ?_
      rintro e w2_ ⟨rfl, hb⟩
      replace BKg1 := am_ (blk_below (blk_below BKg1.out (by repeat first | exact Below.refl _ _ | apply ba_ | apply bn_ | apply bd_)) hb); replace BKg2 := am_ (blk_below (blk_below BKg2.out (by repeat first | exact Below.refl _ _ | apply ba_ | apply bn_ | apply bd_)) hb); replace BKg3 := am_ (blk_below (blk_below BKg3.out (by repeat first | exact Below.refl _ _ | apply ba_ | apply bn_ | apply bd_)) hb); replace HB := am_ (below_step (by repeat first | (with_reducible first | exact HB.out | apply ba_ | apply bn_ | apply bd_) | exact HB.out) hb); clear hb
      have yg1_0 : w2_.cell? ⟨g1, 0, none⟩ = some (.int .i64 n) := (blk_cell BKg1.out 0).trans rfl; have fg1_0 := blk_frozen BKg1.out 0; have yg1_1 : w2_.cell? ⟨g1, 1, none⟩ = some (.int .i64 d) := (blk_cell BKg1.out 1).trans rfl; have fg1_1 := blk_frozen BKg1.out 1
      have yg2_0 : w2_.cell? ⟨g2, 0, none⟩ = some (.int .i64 n1) := (blk_cell BKg2.out 0).trans rfl; have fg2_0 := blk_frozen BKg2.out 0; have yg2_1 : w2_.cell? ⟨g2, 1, none⟩ = some (.int .i64 d1) := (blk_cell BKg2.out 1).trans rfl; have fg2_1 := blk_frozen BKg2.out 1
      go_wp2_with fail
      clear yg1_0 fg1_0 yg1_1 fg1_1
      clear yg2_0 fg2_0 yg2_1 fg2_1
      refine (fracI_c P Q HPA.out.1 HPA.out.2.1 HPA.out.2.2 _).mono ?_
      rw [HFR.out]
      rintro e w3_ ⟨rfl, hb⟩
      replace BKg1 := am_ (blk_below (blk_below BKg1.out (by repeat first | exact Below.refl _ _ | apply ba_ | apply bn_ | apply bd_)) hb); replace BKg2 := am_ (blk_below (blk_below BKg2.out (by repeat first | exact Below.refl _ _ | apply ba_ | apply bn_ | apply bd_)) hb); replace BKg3 := am_ (blk_below (blk_below BKg3.out (by repeat first | exact Below.refl _ _ | apply ba_ | apply bn_ | apply bd_)) hb); replace HB := am_ (below_step (by repeat first | (with_reducible first | exact HB.out | apply ba_ | apply bn_ | apply bd_) | exact HB.out) hb); clear hb
      have yg3_0 : w3_.cell? ⟨g3, 0, none⟩ = some (.int .i64 0) := (blk_cell BKg3.out 0).trans rfl; have fg3_0 := blk_frozen BKg3.out 0; have yg3_1 : w3_.cell? ⟨g3, 1, none⟩ = some (.int .i64 0) := (blk_cell BKg3.out 1).trans rfl; have fg3_1 := blk_frozen BKg3.out 1
      go_wp2
      refine bodyPost_ret (results_ct rfl _ _ g3 24 #[.int .i64 n2, .int .i64 d2] (0, 0) _ rfl (by (with_reducible repeat first | refine kn_ ?_ _ | refine kd_ ?_ | refine ka_ ?_ _); refine blk_put (cs := #[.int .i64 n2, .int .i64 0]) ?_ 1 _ rfl; (with_reducible repeat first | refine kn_ ?_ _ | refine kd_ ?_ | refine ka_ ?_ _); refine blk_put (cs := #[.int .i64 0, .int .i64 0]) ?_ 0 _ rfl; (with_reducible repeat first | refine kn_ ?_ _ | refine kd_ ?_ | refine ka_ ?_ _); exact BKg3.out) Try.underlying24 rfl (by kernel_rfl)) rfl ?_
      exact ⟨rfl, (by repeat first | (with_reducible first | exact HB.out | apply ba_ | apply bn_ | apply bd_ | refine below_set ?_ GEg1.out | refine below_set ?_ GEg2.out | refine below_set ?_ GEg3.out) | exact HB.out)⟩
    · rw [decide_eq_false c1_] at g1_
      have G2 := am_ g1_
      clear g1_
      have hfin : addF n d n1 d1 = (0, 0, false) := by unfold addF; rw [if_neg (fun v => c1_ v.2)]
      rw [hfin]
      clear hfin
      go_enter Try.func81, Try.ntmps81
      go_wp2_with (first
        | (((with_reducible refine gate_dst (N := 2) rfl ?_); refine box_event ?hg (N := 2) ?hd (cs := #[.int .i64 n,.int .i64 d]) (t := 24) ?hr ?_; (case hd => rfl); (case hg => rfl); (case hr => first | (go_simp; done) | (go_simp; rfl))); intro g1 hg w_g1 hbox hb; have n_ := am_ (below_step (by repeat first | (with_reducible first | exact HB.out | apply ba_ | apply bn_ | apply bd_) | exact HB.out) hb); have BKg1 := am_ hbox; have GEg1 := am_ (show w.heap.size ≤ g1 from by rw [hg]; exact below_size (by repeat first | (with_reducible first | exact HB.out | apply ba_ | apply bn_ | apply bd_) | exact HB.out)); clear HB ; have HB := n_; clear n_ hb hbox hg)
        | (((with_reducible refine gate_dst (N := 3) rfl ?_); refine box_event ?hg (N := 3) ?hd (cs := #[.int .i64 n1,.int .i64 d1]) (t := 24) ?hr ?_; (case hd => rfl); (case hg => rfl); (case hr => first | (go_simp; done) | (go_simp; rfl))); intro g2 hg w_g2 hbox hb; have n_ := am_ (below_step (by repeat first | (with_reducible first | exact HB.out | apply ba_ | apply bn_ | apply bd_ | refine below_set ?_ GEg1.out) | exact HB.out) hb); have m_g1 := am_ (blk_below (blk_below BKg1.out (by repeat first | exact Below.refl _ _ | apply ba_ | apply bn_ | apply bd_)) hb); have NEg1_g2 := am_ (show g1 ≠ g2 from by rw [hg]; exact Nat.ne_of_lt (blk_lt (blk_below BKg1.out (by repeat first | exact Below.refl _ _ | apply ba_ | apply bn_ | apply bd_)))); have NEg2_g1 := am_ (Ne.symm NEg1_g2.out); have BKg2 := am_ hbox; have GEg2 := am_ (show w.heap.size ≤ g2 from by rw [hg]; exact below_size (by repeat first | (with_reducible first | exact HB.out | apply ba_ | apply bn_ | apply bd_ | refine below_set ?_ GEg1.out) | exact HB.out)); clear HB BKg1; have HB := n_; clear n_ hb hbox hg; have BKg1 := m_g1; clear m_g1)
        | ((((with_reducible refine gate_dst (N := 4) rfl ?_); refine box_event ?hg (N := 4) ?hd (cs := #[.int .i64 0,.int .i64 0]) (t := 24) ?hr ?_; (case hd => rfl); (case hg => rfl); (case hr => first | (go_simp; done) | (go_simp; rfl))); intro g3 hg w_g3 hbox hb; have n_ := am_ (below_step (by repeat first | (with_reducible first | exact HB.out | apply ba_ | apply bn_ | apply bd_ | refine below_set ?_ GEg1.out | refine below_set ?_ GEg2.out) | exact HB.out) hb); have m_g1 := am_ (blk_below (blk_below BKg1.out (by repeat first | exact Below.refl _ _ | apply ba_ | apply bn_ | apply bd_)) hb); have NEg1_g3 := am_ (show g1 ≠ g3 from by rw [hg]; exact Nat.ne_of_lt (blk_lt (blk_below BKg1.out (by repeat first | exact Below.refl _ _ | apply ba_ | apply bn_ | apply bd_)))); have NEg3_g1 := am_ (Ne.symm NEg1_g3.out); have m_g2 := am_ (blk_below (blk_below BKg2.out (by repeat first | exact Below.refl _ _ | apply ba_ | apply bn_ | apply bd_)) hb); have NEg2_g3 := am_ (show g2 ≠ g3 from by rw [hg]; exact Nat.ne_of_lt (blk_lt (blk_below BKg2.out (by repeat first | exact Below.refl _ _ | apply ba_ | apply bn_ | apply bd_)))); have NEg3_g2 := am_ (Ne.symm NEg2_g3.out); have BKg3 := am_ hbox; have GEg3 := am_ (show w.heap.size ≤ g3 from by rw [hg]; exact below_size (by repeat first | (with_reducible first | exact HB.out | apply ba_ | apply bn_ | apply bd_ | refine below_set ?_ GEg1.out | refine below_set ?_ GEg2.out) | exact HB.out)); clear HB BKg1 BKg2; have HB := n_; clear n_ hb hbox hg; have BKg1 := m_g1; clear m_g1; have BKg2 := m_g2; clear m_g2); have yg1_0 : w_g3.cell? ⟨g1, 0, none⟩ = some (.int .i64 n) := (blk_cell BKg1.out 0).trans rfl; have fg1_0 := blk_frozen BKg1.out 0; have yg1_1 : w_g3.cell? ⟨g1, 1, none⟩ = some (.int .i64 d) := (blk_cell BKg1.out 1).trans rfl; have fg1_1 := blk_frozen BKg1.out 1)
        )
      clear yg1_0 fg1_0 yg1_1 fg1_1
      refine (impl_isFraction.calls ka n d true _ G1.out).mono ?_
      rintro e w1_ ⟨rfl, hb⟩
      replace BKg1 := am_ (blk_below (blk_below BKg1.out (by repeat first | exact Below.refl _ _ | apply ba_ | apply bn_ | apply bd_)) hb); replace BKg2 := am_ (blk_below (blk_below BKg2.out (by repeat first | exact Below.refl _ _ | apply ba_ | apply bn_ | apply bd_)) hb); replace BKg3 := am_ (blk_below (blk_below BKg3.out (by repeat first | exact Below.refl _ _ | apply ba_ | apply bn_ | apply bd_)) hb); replace HB := am_ (below_step (by repeat first | (with_reducible first | exact HB.out | apply ba_ | apply bn_ | apply bd_) | exact HB.out) hb); clear hb
      have yg2_0 : w1_.cell? ⟨g2, 0, none⟩ = some (.int .i64 n1) := (blk_cell BKg2.out 0).trans rfl; have fg2_0 := blk_frozen BKg2.out 0; have yg2_1 : w1_.cell? ⟨g2, 1, none⟩ = some (.int .i64 d1) := (blk_cell BKg2.out 1).trans rfl; have fg2_1 := blk_frozen BKg2.out 1
      go_wp2_with fail
      clear yg2_0 fg2_0 yg2_1 fg2_1
      refine (impl_isFraction.calls kb n1 d1 false _ G2.out).mono ?_
      rintro e w2_ ⟨rfl, hb⟩
      replace BKg1 := am_ (blk_below (blk_below BKg1.out (by repeat first | exact Below.refl _ _ | apply ba_ | apply bn_ | apply bd_)) hb); replace BKg2 := am_ (blk_below (blk_below BKg2.out (by repeat first | exact Below.refl _ _ | apply ba_ | apply bn_ | apply bd_)) hb); replace BKg3 := am_ (blk_below (blk_below BKg3.out (by repeat first | exact Below.refl _ _ | apply ba_ | apply bn_ | apply bd_)) hb); replace HB := am_ (below_step (by repeat first | (with_reducible first | exact HB.out | apply ba_ | apply bn_ | apply bd_) | exact HB.out) hb); clear hb
      have yg3_0 : w2_.cell? ⟨g3, 0, none⟩ = some (.int .i64 0) := (blk_cell BKg3.out 0).trans rfl; have fg3_0 := blk_frozen BKg3.out 0; have yg3_1 : w2_.cell? ⟨g3, 1, none⟩ = some (.int .i64 0) := (blk_cell BKg3.out 1).trans rfl; have fg3_1 := blk_frozen BKg3.out 1
      go_wp2
      refine bodyPost_ret (results_ct rfl _ _ g3 24 #[.int .i64 0, .int .i64 0] (0, 0) _ rfl (by (with_reducible repeat first | refine kn_ ?_ _ | refine kd_ ?_ | refine ka_ ?_ _); refine blk_put (cs := #[.int .i64 0, .int .i64 0]) ?_ 1 _ rfl; (with_reducible repeat first | refine kn_ ?_ _ | refine kd_ ?_ | refine ka_ ?_ _); refine blk_put (cs := #[.int .i64 0, .int .i64 0]) ?_ 0 _ rfl; (with_reducible repeat first | refine kn_ ?_ _ | refine kd_ ?_ | refine ka_ ?_ _); exact BKg3.out) Try.underlying24 rfl (by kernel_rfl)) rfl ?_
      exact ⟨rfl, (by repeat first | (with_reducible first | exact HB.out | apply ba_ | apply bn_ | apply bd_ | refine below_set ?_ GEg1.out | refine below_set ?_ GEg2.out | refine below_set ?_ GEg3.out) | exact HB.out)⟩
  · rw [decide_eq_false c0_] at g0_
    have G1 := am_ g0_
    clear g0_
    have hfin : addF n d n1 d1 = (0, 0, false) := by unfold addF; rw [if_neg (fun v => c0_ v.1)]
    rw [hfin]
    clear hfin
    go_enter Try.func81, Try.ntmps81
    go_wp2_with (first
      | (((with_reducible refine gate_dst (N := 2) rfl ?_); refine box_event ?hg (N := 2) ?hd (cs := #[.int .i64 n,.int .i64 d]) (t := 24) ?hr ?_; (case hd => rfl); (case hg => rfl); (case hr => first | (go_simp; done) | (go_simp; rfl))); intro g1 hg w_g1 hbox hb; have n_ := am_ (below_step (by repeat first | (with_reducible first | exact HB.out | apply ba_ | apply bn_ | apply bd_) | exact HB.out) hb); have BKg1 := am_ hbox; have GEg1 := am_ (show w.heap.size ≤ g1 from by rw [hg]; exact below_size (by repeat first | (with_reducible first | exact HB.out | apply ba_ | apply bn_ | apply bd_) | exact HB.out)); clear HB ; have HB := n_; clear n_ hb hbox hg)
      | (((with_reducible refine gate_dst (N := 3) rfl ?_); refine box_event ?hg (N := 3) ?hd (cs := #[.int .i64 n1,.int .i64 d1]) (t := 24) ?hr ?_; (case hd => rfl); (case hg => rfl); (case hr => first | (go_simp; done) | (go_simp; rfl))); intro g2 hg w_g2 hbox hb; have n_ := am_ (below_step (by repeat first | (with_reducible first | exact HB.out | apply ba_ | apply bn_ | apply bd_ | refine below_set ?_ GEg1.out) | exact HB.out) hb); have m_g1 := am_ (blk_below (blk_below BKg1.out (by repeat first | exact Below.refl _ _ | apply ba_ | apply bn_ | apply bd_)) hb); have NEg1_g2 := am_ (show g1 ≠ g2 from by rw [hg]; exact Nat.ne_of_lt (blk_lt (blk_below BKg1.out (by repeat first | exact Below.refl _ _ | apply ba_ | apply bn_ | apply bd_)))); have NEg2_g1 := am_ (Ne.symm NEg1_g2.out); have BKg2 := am_ hbox; have GEg2 := am_ (show w.heap.size ≤ g2 from by rw [hg]; exact below_size (by repeat first | (with_reducible first | exact HB.out | apply ba_ | apply bn_ | apply bd_ | refine below_set ?_ GEg1.out) | exact HB.out)); clear HB BKg1; have HB := n_; clear n_ hb hbox hg; have BKg1 := m_g1; clear m_g1)
      | ((((with_reducible refine gate_dst (N := 4) rfl ?_); refine box_event ?hg (N := 4) ?hd (cs := #[.int .i64 0,.int .i64 0]) (t := 24) ?hr ?_; (case hd => rfl); (case hg => rfl); (case hr => first | (go_simp; done) | (go_simp; rfl))); intro g3 hg w_g3 hbox hb; have n_ := am_ (below_step (by repeat first | (with_reducible first | exact HB.out | apply ba_ | apply bn_ | apply bd_ | refine below_set ?_ GEg1.out | refine below_set ?_ GEg2.out) | exact HB.out) hb); have m_g1 := am_ (blk_below (blk_below BKg1.out (by repeat first | exact Below.refl _ _ | apply ba_ | apply bn_ | apply bd_)) hb); have NEg1_g3 := am_ (show g1 ≠ g3 from by rw [hg]; exact Nat.ne_of_lt (blk_lt (blk_below BKg1.out (by repeat first | exact Below.refl _ _ | apply ba_ | apply bn_ | apply bd_)))); have NEg3_g1 := am_ (Ne.symm NEg1_g3.out); have m_g2 := am_ (blk_below (blk_below BKg2.out (by repeat first | exact Below.refl _ _ | apply ba_ | apply bn_ | apply bd_)) hb); have NEg2_g3 := am_ (show g2 ≠ g3 from by rw [hg]; exact Nat.ne_of_lt (blk_lt (blk_below BKg2.out (by repeat first | exact Below.refl _ _ | apply ba_ | apply bn_ | apply bd_)))); have NEg3_g2 := am_ (Ne.symm NEg2_g3.out); have BKg3 := am_ hbox; have GEg3 := am_ (show w.heap.size ≤ g3 from by rw [hg]; exact below_size (by repeat first | (with_reducible first | exact HB.out | apply ba_ | apply bn_ | apply bd_ | refine below_set ?_ GEg1.out | refine below_set ?_ GEg2.out) | exact HB.out)); clear HB BKg1 BKg2; have HB := n_; clear n_ hb hbox hg; have BKg1 := m_g1; clear m_g1; have BKg2 := m_g2; clear m_g2); have yg1_0 : w_g3.cell? ⟨g1, 0, none⟩ = some (.int .i64 n) := (blk_cell BKg1.out 0).trans rfl; have fg1_0 := blk_frozen BKg1.out 0; have yg1_1 : w_g3.cell? ⟨g1, 1, none⟩ = some (.int .i64 d) := (blk_cell BKg1.out 1).trans rfl; have fg1_1 := blk_frozen BKg1.out 1)
      )
    clear yg1_0 fg1_0 yg1_1 fg1_1
    refine (impl_isFraction.calls ka n d false _ G1.out).mono ?_
    rintro e w1_ ⟨rfl, hb⟩
    replace BKg1 := am_ (blk_below (blk_below BKg1.out (by repeat first | exact Below.refl _ _ | apply ba_ | apply bn_ | apply bd_)) hb); replace BKg2 := am_ (blk_below (blk_below BKg2.out (by repeat first | exact Below.refl _ _ | apply ba_ | apply bn_ | apply bd_)) hb); replace BKg3 := am_ (blk_below (blk_below BKg3.out (by repeat first | exact Below.refl _ _ | apply ba_ | apply bn_ | apply bd_)) hb); replace HB := am_ (below_step (by repeat first | (with_reducible first | exact HB.out | apply ba_ | apply bn_ | apply bd_) | exact HB.out) hb); clear hb
    have yg3_0 : w1_.cell? ⟨g3, 0, none⟩ = some (.int .i64 0) := (blk_cell BKg3.out 0).trans rfl; have fg3_0 := blk_frozen BKg3.out 0; have yg3_1 : w1_.cell? ⟨g3, 1, none⟩ = some (.int .i64 0) := (blk_cell BKg3.out 1).trans rfl; have fg3_1 := blk_frozen BKg3.out 1
    go_wp2
    refine bodyPost_ret (results_ct rfl _ _ g3 24 #[.int .i64 0, .int .i64 0] (0, 0) _ rfl (by (with_reducible repeat first | refine kn_ ?_ _ | refine kd_ ?_ | refine ka_ ?_ _); refine blk_put (cs := #[.int .i64 0, .int .i64 0]) ?_ 1 _ rfl; (with_reducible repeat first | refine kn_ ?_ _ | refine kd_ ?_ | refine ka_ ?_ _); refine blk_put (cs := #[.int .i64 0, .int .i64 0]) ?_ 0 _ rfl; (with_reducible repeat first | refine kn_ ?_ _ | refine kd_ ?_ | refine ka_ ?_ _); exact BKg3.out) Try.underlying24 rfl (by kernel_rfl)) rfl ?_
    exact ⟨rfl, (by repeat first | (with_reducible first | exact HB.out | apply ba_ | apply bn_ | apply bd_ | refine below_set ?_ GEg1.out | refine below_set ?_ GEg2.out | refine below_set ?_ GEg3.out) | exact HB.out)⟩
set_option maxHeartbeats 8000000 in
set_option maxRecDepth 100000 in
theorem stepI_c (A0 : Option Addr) (c0 : Nat) (xs : List S61) (p0 a b c m : Int) (hn : xs.length ≤ 1048576) (w : World) (hr0 : Kd.C k61 w A0 xs.length xs) (hc0 : xs.length ≤ c0) (ha0 : 0 < xs.length → ∃ b, A0 = some ⟨b, 0, none⟩) :
    Calls Try.prog 31 #[.int .i64 p0, .slice A0 xs.length c0, .int .i64 a, .int .i64 b, .int .i64 c, .int .i64 m] w fun e w' => e = .returned (.tuple #[.int .i64 (stepA p0 xs a b c m).1, .bool (stepA p0 xs a b c m).2]) ∧ Below w.heap.size w w' := by
  have HB := am_ (Below.refl w.heap.size w)
  have HR0 := am_ hr0
  have HC0 := am_ hc0
  have HA0 := am_ ha0
  clear hr0 hc0 ha0
  have g0_ := within_eq p0 0 1000000000
  by_cases c0_ : 0 ≤ p0 ∧ p0 ≤ 1000000000
  · rw [decide_eq_true c0_] at g0_
    have G1 := am_ g0_
    clear g0_
    have g1_ := isCount_eq c
    by_cases c1_ : 1 ≤ c ∧ c ≤ 4
    · rw [decide_eq_true c1_] at g1_
      have G2 := am_ g1_
      clear g1_
      have g2_ := isMode_eq m
      by_cases c2_ : 1 ≤ m ∧ m ≤ 4
      · rw [decide_eq_true c2_] at g2_
        have G3 := am_ g2_
        clear g2_
        have g3_ := isDay_eq a
        by_cases c3_ : 0 ≤ a ∧ a ≤ 36524
        · rw [decide_eq_true c3_] at g3_
          have G4 := am_ g3_
          clear g3_
          have g4_ := isDay_eq b
          by_cases c4_ : 0 ≤ b ∧ b ≤ 36524
          · rw [decide_eq_true c4_] at g4_
            have G5 := am_ g4_
            clear g4_
            by_cases c5_ : ¬ b < a
            · have cb5_ : decide (¬ b < a) = true := decide_eq_true c5_
              have g6_ := arF_eq xs a
              by_cases c6_ : arOk xs a = true
              · rw [decide_eq_true c6_] at g6_
                have G7 := am_ g6_
                clear g6_
                have hfin : stepA p0 xs a b c m = stepF p0 a b c m 0 1 xs := by unfold stepA; rw [if_pos ⟨c0_, (arOk_iff.mp c6_).1, (arOk_iff.mp c6_).2.1, c3_, c4_, by omega, (arOk_iff.mp c6_).2.2, c1_⟩]
                rw [hfin]
                obtain ⟨FIN, hFIN⟩ : ∃ F, F = stepF p0 a b c m 0 1 xs := ⟨_, rfl⟩
                rw [← hFIN]
                have HF := am_ (show stepF p0 a b c m 0 1 (xs.drop 0) = FIN from hFIN.symm)
                have hlq := (arOk_iff.mp c6_).1
                have hl12 : xs.length ≤ 12 := by omega
                have hl1 : 1 ≤ xs.length := by omega
                clear hlq
                have cab_ : decide (b < a) = false := decide_eq_false (by omega)
                clear hfin hFIN c0_ c1_ c2_ c3_ c4_ c5_ c6_
                go_enter Try.func31, Try.ntmps31
                go_wp2_with fail
                refine (impl_within.calls p0 0 1000000000 true _ G1.out).mono ?_
                rintro e w1_ ⟨rfl, hb0⟩
                have hb := db_ hb0
                clear hb0
                replace HB := am_ (below_step (by repeat first | (with_reducible first | exact HB.out | apply ba_ | apply bn_ | apply bd_) | exact HB.out) hb); clear hb
                go_wp2_with fail
                refine (impl_isCount.calls c true _ G2.out).mono ?_
                rintro e w2_ ⟨rfl, hb0⟩
                have hb := db_ hb0
                clear hb0
                replace HB := am_ (below_step (by repeat first | (with_reducible first | exact HB.out | apply ba_ | apply bn_ | apply bd_) | exact HB.out) hb); clear hb
                go_wp2_with fail
                refine (impl_isMode.calls m true _ G3.out).mono ?_
                rintro e w3_ ⟨rfl, hb0⟩
                have hb := db_ hb0
                clear hb0
                replace HB := am_ (below_step (by repeat first | (with_reducible first | exact HB.out | apply ba_ | apply bn_ | apply bd_) | exact HB.out) hb); clear hb
                go_wp2_with fail
                refine (impl_isDay.calls a true _ G4.out).mono ?_
                rintro e w4_ ⟨rfl, hb0⟩
                have hb := db_ hb0
                clear hb0
                replace HB := am_ (below_step (by repeat first | (with_reducible first | exact HB.out | apply ba_ | apply bn_ | apply bd_) | exact HB.out) hb); clear hb
                go_wp2_with fail
                refine (impl_isDay.calls b true _ G5.out).mono ?_
                rintro e w5_ ⟨rfl, hb0⟩
                have hb := db_ hb0
                clear hb0
                replace HB := am_ (below_step (by repeat first | (with_reducible first | exact HB.out | apply ba_ | apply bn_ | apply bd_) | exact HB.out) hb); clear hb
                go_wp2_with fail
                refine (okStepsI_c _ _ xs a true G7.out _ (by repeat first | exact (Kd.C_below HR0.out HB.out) | with_reducible refine ca_ ?_ _ | with_reducible refine cn_ ?_ _ | with_reducible refine cd_ ?_) HA0.out hn).mono ?_
                rintro e w6_ ⟨rfl, hb⟩
                replace HB := am_ (below_step (by repeat first | (with_reducible first | exact HB.out | apply ba_ | apply bn_ | apply bd_) | exact HB.out) hb); clear hb
                go_upto_region 4 with ((((with_reducible refine gate_dst (N := 14) rfl ?_); refine box_event ?hg (N := 14) ?hd (cs := #[.int .i64 0, .int .i64 0]) (t := 24) ?hr ?_; (case hd => rfl); (case hg => rfl); (case hr => first | (go_simp; done) | (go_simp; rfl))); intro g1 hg w_g1 hbox hb; have n_ := am_ (below_step (by repeat first | (with_reducible first | exact HB.out | apply ba_ | apply bn_ | apply bd_) | exact HB.out) hb); have BKg1 := am_ hbox; have GEg1 := am_ (show w.heap.size ≤ g1 from by rw [hg]; exact below_size (by repeat first | (with_reducible first | exact HB.out | apply ba_ | apply bn_ | apply bd_) | exact HB.out)); clear HB ; have HB := n_; clear n_ hb hbox hg); have yg1_0 : w_g1.cell? ⟨g1, 0, none⟩ = some (.int .i64 0) := (blk_cell BKg1.out 0).trans rfl; have fg1_0 := blk_frozen BKg1.out 0; have yg1_1 : w_g1.cell? ⟨g1, 1, none⟩ = some (.int .i64 0) := (blk_cell BKg1.out 1).trans rfl; have fg1_1 := blk_frozen BKg1.out 1)
                have BKn := am_ (show (((w_g1).setCell ⟨g1, 0, none⟩ (.int .i64 0)).setCell ⟨g1, 1, none⟩ (.int .i64 1)).heap[g1]? = some (.cells #[.int .i64 0, .int .i64 1] 24 (0, 0)) from (by (with_reducible repeat first | refine kn_ ?_ _ | refine kd_ ?_ | refine ka_ ?_ _); refine blk_put (cs := #[.int .i64 0, .int .i64 0]) ?_ 1 _ rfl; (with_reducible repeat first | refine kn_ ?_ _ | refine kd_ ?_ | refine ka_ ?_ _); refine blk_put (cs := #[.int .i64 0, .int .i64 0]) ?_ 0 _ rfl; (with_reducible repeat first | refine kn_ ?_ _ | refine kd_ ?_ | refine ka_ ?_ _); exact BKg1.out))
                have HBn := am_ (show Below w.heap.size w (((w_g1).setCell ⟨g1, 0, none⟩ (.int .i64 0)).setCell ⟨g1, 1, none⟩ (.int .i64 1)) from (by repeat first | (with_reducible first | exact HB.out | apply ba_ | apply bn_ | apply bd_ | refine below_set ?_ GEg1.out) | exact HB.out))
                clear HB BKg1 
                clear yg1_0 fg1_0 yg1_1 fg1_1
                generalize ((w_g1).setCell ⟨g1, 0, none⟩ (.int .i64 0)).setCell ⟨g1, 1, none⟩ (.int .i64 1) = W1 at BKn HBn  ⊢
                have BKg1 := BKn
                have HB := HBn
                clear BKn HBn
                go_wp2
                go_loopw [58] (fun vi wr => ∃ (i : Nat) (n d : Int), vi = .int .i64 i ∧ Aside0 (i ≤ xs.length) ∧ Aside0 (stepF p0 a b c m n d (xs.drop i) = FIN) ∧ Aside0 (wr.heap[g1]? = some (.cells #[.int .i64 n, .int .i64 d] 24 (0, 0))) ∧ Aside0 (Below w.heap.size w wr)) (fun vi _ => xs.length - (intOf vi).toNat)
                case atStart => exact ⟨0, 0, 1, rfl, ⟨Nat.zero_le _⟩, HF, BKg1, HB⟩
                case round =>
                  clear HF BKg1 HB
                  obtain ⟨i, n, d, rfl, HI, HF, BKg1, HB⟩ := hrel
                  by_cases hil : i < xs.length
                  · have ci : decide (i < xs.length) = true := decide_eq_true hil
                    have hi12 : i < 12 := by omega
                    obtain ⟨b0, e0⟩ := HA0.out (by omega)
                    subst e0
                    obtain ⟨⟨f0, ⟨f1, f2⟩⟩, ha⟩ : ∃ x, x = rd_T61 xs (i : Int) := ⟨_, rfl⟩
                    obtain ⟨hx0, hx1, hx2⟩ := cellsR HR0.out i hil ha.symm
                    have HX0 := am_ hx0
                    have HX1 := am_ hx1
                    have HX2 := am_ hx2
                    have HBX := am_ (World.block_lt_of_cell? w _ hx0)
                    clear hx0 hx1 hx2
                    obtain ⟨lo, hlo⟩ : ∃ x, x = mx a f0 := ⟨_, rfl⟩
                    have tk : ((i : Int) + 1).toNat = i + 1 := by omega
                    by_cases hn : i + 1 < xs.length
                    · have cn : decide ((i : Int) + 1 < (xs.length : Int)) = true := decide_eq_true (by omega)
                      have cn2 : decide (i + 1 < xs.length) = true := decide_eq_true (by omega)
                      obtain ⟨⟨f3, ⟨f4, f5⟩⟩, hb_⟩ : ∃ x, x = rd_T61 xs ((i + 1 : Nat) : Int) := ⟨_, rfl⟩
                      obtain ⟨hx3, _, _⟩ := cellsR HR0.out (i + 1) hn hb_.symm
                      have HX3 := am_ hx3
                      clear hx3
                      obtain ⟨hi, hhi⟩ : ∃ x, x = minI b f3 := ⟨_, rfl⟩
                      have HHS := am_ (show hiS b (xs.drop (i + 1)) = hi from by rw [hiS_at, if_pos hn, ← hb_, hhi])
                      have g1_ : (0 : Int) ≤ (i : Int) + 1 := by omega
                      have g2_ : (i : Int) + 1 < (xs.length : Int) := by omega
                      have HLO := am_ (show (if a < f0 then f0 else a) = lo from by rw [hlo]; unfold mx; repeat (first | rfl | omega | split))
                      have HHI := am_ (show (if f3 < b then f3 else b) = hi from by rw [hhi]; unfold minI; repeat (first | rfl | omega | split))
                      have HLQ := am_ hlo.symm
                      have HA := am_ ha.symm
                      clear hlo ha hhi hb_
                      by_cases hc : hi ≤ lo
                      · have cg : decide (hi ≤ lo) = true := decide_eq_true hc
                        have HFS := am_ (show stepF p0 a b c m n d (xs.drop (i + 1)) = FIN from by rw [← HF.out]; exact (stepF_skip hil HA.out HLQ.out HHS.out hc).symm)
                        clear hc
                        have hx0 := (HB.out.cell HBX.out).trans HX0.out
                        have hx1 := (HB.out.cell (p := ⟨b0, i * 3 + 1, none⟩) HBX.out).trans HX1.out
                        have hx2 := (HB.out.cell (p := ⟨b0, i * 3 + 2, none⟩) HBX.out).trans HX2.out
                        go_upto_region 7 with ((((with_reducible refine gate_dst (N := 16) rfl ?_); refine box_event ?hg (N := 16) ?hd (cs := #[.int .i64 0, .int .i64 0, .int .i64 0]) (t := 61) ?hr ?_; (case hd => rfl); (case hg => rfl); (case hr => first | (go_simp; done) | (go_simp; rfl))); intro g2 hg w_g2 hbox hb; have n_ := am_ (below_step (by repeat first | (with_reducible first | exact HB.out | apply ba_ | apply bn_ | apply bd_ | refine below_set ?_ GEg1.out) | exact HB.out) hb); have m_g1 := am_ (blk_below (blk_below BKg1.out (by repeat first | exact Below.refl _ _ | apply ba_ | apply bn_ | apply bd_)) hb); have NEg1_g2 := am_ (show g1 ≠ g2 from by rw [hg]; exact Nat.ne_of_lt (blk_lt (blk_below BKg1.out (by repeat first | exact Below.refl _ _ | apply ba_ | apply bn_ | apply bd_)))); have NEg2_g1 := am_ (Ne.symm NEg1_g2.out); have BKg2 := am_ hbox; have GEg2 := am_ (show w.heap.size ≤ g2 from by rw [hg]; exact below_size (by repeat first | (with_reducible first | exact HB.out | apply ba_ | apply bn_ | apply bd_ | refine below_set ?_ GEg1.out) | exact HB.out)); clear HB BKg1; have HB := n_; clear n_ hb hbox hg; have BKg1 := m_g1; clear m_g1); have yg2_0 : w_g2.cell? ⟨g2, 0, none⟩ = some (.int .i64 0) := (blk_cell BKg2.out 0).trans rfl; have fg2_0 := blk_frozen BKg2.out 0; have yg2_1 : w_g2.cell? ⟨g2, 1, none⟩ = some (.int .i64 0) := (blk_cell BKg2.out 1).trans rfl; have fg2_1 := blk_frozen BKg2.out 1; have yg2_2 : w_g2.cell? ⟨g2, 2, none⟩ = some (.int .i64 0) := (blk_cell BKg2.out 2).trans rfl; have fg2_2 := blk_frozen BKg2.out 2)
                        clear hx0 hx1 hx2
                        have BKn := am_ (show ((((w_g2).setCell ⟨g2, 0, none⟩ (.int .i64 f0)).setCell ⟨g2, 1, none⟩ (.int .i64 f1)).setCell ⟨g2, 2, none⟩ (.int .i64 f2)).heap[g2]? = some (.cells #[.int .i64 f0, .int .i64 f1, .int .i64 f2] 61 (0, 0)) from (by (with_reducible repeat first | refine kn_ ?_ _ | refine kd_ ?_ | refine ka_ ?_ _); refine blk_put (cs := #[.int .i64 f0, .int .i64 f1, .int .i64 0]) ?_ 2 _ rfl; (with_reducible repeat first | refine kn_ ?_ _ | refine kd_ ?_ | refine ka_ ?_ _); refine blk_put (cs := #[.int .i64 f0, .int .i64 0, .int .i64 0]) ?_ 1 _ rfl; (with_reducible repeat first | refine kn_ ?_ _ | refine kd_ ?_ | refine ka_ ?_ _); refine blk_put (cs := #[.int .i64 0, .int .i64 0, .int .i64 0]) ?_ 0 _ rfl; (with_reducible repeat first | refine kn_ ?_ _ | refine kd_ ?_ | refine ka_ ?_ _); exact BKg2.out))
                        have BK_g1 := am_ (show ((((w_g2).setCell ⟨g2, 0, none⟩ (.int .i64 f0)).setCell ⟨g2, 1, none⟩ (.int .i64 f1)).setCell ⟨g2, 2, none⟩ (.int .i64 f2)).heap[g1]? = some (.cells #[.int .i64 n, .int .i64 d] 24 (0, 0)) from (by repeat (with_reducible first | exact BKg1.out | refine kn_ ?_ _ | refine kd_ ?_ | refine ka_ ?_ _ | refine kf_ ?_ NEg1_g2.out _)))
                        have HBn := am_ (show Below w.heap.size w ((((w_g2).setCell ⟨g2, 0, none⟩ (.int .i64 f0)).setCell ⟨g2, 1, none⟩ (.int .i64 f1)).setCell ⟨g2, 2, none⟩ (.int .i64 f2)) from (by repeat first | (with_reducible first | exact HB.out | apply ba_ | apply bn_ | apply bd_ | refine below_set ?_ GEg2.out) | exact HB.out))
                        clear HB BKg2 BKg1
                        clear yg2_0 fg2_0 yg2_1 fg2_1 yg2_2 fg2_2
                        generalize (((w_g2).setCell ⟨g2, 0, none⟩ (.int .i64 f0)).setCell ⟨g2, 1, none⟩ (.int .i64 f1)).setCell ⟨g2, 2, none⟩ (.int .i64 f2) = W2 at BKn HBn BK_g1 ⊢
                        have BKg2 := BKn
                        have HB := HBn
                        clear BKn HBn
                        have BKg1 := BK_g1
                        clear BK_g1
                        have yg2_0 : W2.cell? ⟨g2, 0, none⟩ = some (.int .i64 f0) := (blk_cell BKg2.out 0).trans rfl; have fg2_0 := blk_frozen BKg2.out 0; have yg2_1 : W2.cell? ⟨g2, 1, none⟩ = some (.int .i64 f1) := (blk_cell BKg2.out 1).trans rfl; have fg2_1 := blk_frozen BKg2.out 1; have yg2_2 : W2.cell? ⟨g2, 2, none⟩ = some (.int .i64 f2) := (blk_cell BKg2.out 2).trans rfl; have fg2_2 := blk_frozen BKg2.out 2
                        have hmx := HLO.out
                        have hmn := HHI.out
                        have hx3 := (HB.out.cell (p := ⟨b0, (i + 1) * 3, none⟩) HBX.out).trans HX3.out
                        go_wp2
                        go_roundw
                        case rel => exact ⟨i + 1, n, d, by go_num, ⟨hil⟩, HFS, ⟨(by (with_reducible repeat first | refine kn_ ?_ _ | refine kd_ ?_ | refine ka_ ?_ _); exact BKg1.out)⟩, ⟨(by repeat first | (with_reducible first | exact HB.out | apply ba_ | apply bn_ | apply bd_) | exact HB.out)⟩⟩
                        case measure => simp [intOf]; omega
                      · have cg : decide (hi ≤ lo) = false := decide_eq_false hc
                        obtain ⟨GR, hGR⟩ : ∃ F, F = growthA f1 f2 lo hi c := ⟨_, rfl⟩
                        obtain ⟨n1, d1, o1⟩ := GR
                        have HGR := am_ hGR.symm
                        obtain ⟨AR, hAR⟩ : ∃ F, F = addF n d n1 d1 := ⟨_, rfl⟩
                        obtain ⟨n2, d2, o2⟩ := AR
                        have HAR := am_ hAR.symm
                        have HST := am_ (show FIN = if o1 = true ∧ o2 = true then stepF p0 a b c m n2 d2 (xs.drop (i + 1)) else (0, false) from by rw [← HF.out]; exact stepF_go hil HA.out HLQ.out HHS.out hc hGR.symm hAR.symm)
                        clear hGR hAR hc
                        have hx0 := (HB.out.cell HBX.out).trans HX0.out
                        have hx1 := (HB.out.cell (p := ⟨b0, i * 3 + 1, none⟩) HBX.out).trans HX1.out
                        have hx2 := (HB.out.cell (p := ⟨b0, i * 3 + 2, none⟩) HBX.out).trans HX2.out
                        go_upto_region 7 with ((((with_reducible refine gate_dst (N := 16) rfl ?_); refine box_event ?hg (N := 16) ?hd (cs := #[.int .i64 0, .int .i64 0, .int .i64 0]) (t := 61) ?hr ?_; (case hd => rfl); (case hg => rfl); (case hr => first | (go_simp; done) | (go_simp; rfl))); intro g2 hg w_g2 hbox hb; have n_ := am_ (below_step (by repeat first | (with_reducible first | exact HB.out | apply ba_ | apply bn_ | apply bd_ | refine below_set ?_ GEg1.out) | exact HB.out) hb); have m_g1 := am_ (blk_below (blk_below BKg1.out (by repeat first | exact Below.refl _ _ | apply ba_ | apply bn_ | apply bd_)) hb); have NEg1_g2 := am_ (show g1 ≠ g2 from by rw [hg]; exact Nat.ne_of_lt (blk_lt (blk_below BKg1.out (by repeat first | exact Below.refl _ _ | apply ba_ | apply bn_ | apply bd_)))); have NEg2_g1 := am_ (Ne.symm NEg1_g2.out); have BKg2 := am_ hbox; have GEg2 := am_ (show w.heap.size ≤ g2 from by rw [hg]; exact below_size (by repeat first | (with_reducible first | exact HB.out | apply ba_ | apply bn_ | apply bd_ | refine below_set ?_ GEg1.out) | exact HB.out)); clear HB BKg1; have HB := n_; clear n_ hb hbox hg; have BKg1 := m_g1; clear m_g1); have yg2_0 : w_g2.cell? ⟨g2, 0, none⟩ = some (.int .i64 0) := (blk_cell BKg2.out 0).trans rfl; have fg2_0 := blk_frozen BKg2.out 0; have yg2_1 : w_g2.cell? ⟨g2, 1, none⟩ = some (.int .i64 0) := (blk_cell BKg2.out 1).trans rfl; have fg2_1 := blk_frozen BKg2.out 1; have yg2_2 : w_g2.cell? ⟨g2, 2, none⟩ = some (.int .i64 0) := (blk_cell BKg2.out 2).trans rfl; have fg2_2 := blk_frozen BKg2.out 2)
                        clear hx0 hx1 hx2
                        have BKn := am_ (show ((((w_g2).setCell ⟨g2, 0, none⟩ (.int .i64 f0)).setCell ⟨g2, 1, none⟩ (.int .i64 f1)).setCell ⟨g2, 2, none⟩ (.int .i64 f2)).heap[g2]? = some (.cells #[.int .i64 f0, .int .i64 f1, .int .i64 f2] 61 (0, 0)) from (by (with_reducible repeat first | refine kn_ ?_ _ | refine kd_ ?_ | refine ka_ ?_ _); refine blk_put (cs := #[.int .i64 f0, .int .i64 f1, .int .i64 0]) ?_ 2 _ rfl; (with_reducible repeat first | refine kn_ ?_ _ | refine kd_ ?_ | refine ka_ ?_ _); refine blk_put (cs := #[.int .i64 f0, .int .i64 0, .int .i64 0]) ?_ 1 _ rfl; (with_reducible repeat first | refine kn_ ?_ _ | refine kd_ ?_ | refine ka_ ?_ _); refine blk_put (cs := #[.int .i64 0, .int .i64 0, .int .i64 0]) ?_ 0 _ rfl; (with_reducible repeat first | refine kn_ ?_ _ | refine kd_ ?_ | refine ka_ ?_ _); exact BKg2.out))
                        have BK_g1 := am_ (show ((((w_g2).setCell ⟨g2, 0, none⟩ (.int .i64 f0)).setCell ⟨g2, 1, none⟩ (.int .i64 f1)).setCell ⟨g2, 2, none⟩ (.int .i64 f2)).heap[g1]? = some (.cells #[.int .i64 n, .int .i64 d] 24 (0, 0)) from (by repeat (with_reducible first | exact BKg1.out | refine kn_ ?_ _ | refine kd_ ?_ | refine ka_ ?_ _ | refine kf_ ?_ NEg1_g2.out _)))
                        have HBn := am_ (show Below w.heap.size w ((((w_g2).setCell ⟨g2, 0, none⟩ (.int .i64 f0)).setCell ⟨g2, 1, none⟩ (.int .i64 f1)).setCell ⟨g2, 2, none⟩ (.int .i64 f2)) from (by repeat first | (with_reducible first | exact HB.out | apply ba_ | apply bn_ | apply bd_ | refine below_set ?_ GEg2.out) | exact HB.out))
                        clear HB BKg2 BKg1
                        clear yg2_0 fg2_0 yg2_1 fg2_1 yg2_2 fg2_2
                        generalize (((w_g2).setCell ⟨g2, 0, none⟩ (.int .i64 f0)).setCell ⟨g2, 1, none⟩ (.int .i64 f1)).setCell ⟨g2, 2, none⟩ (.int .i64 f2) = W2 at BKn HBn BK_g1 ⊢
                        have BKg2 := BKn
                        have HB := HBn
                        clear BKn HBn
                        have BKg1 := BK_g1
                        clear BK_g1
                        have yg2_0 : W2.cell? ⟨g2, 0, none⟩ = some (.int .i64 f0) := (blk_cell BKg2.out 0).trans rfl; have fg2_0 := blk_frozen BKg2.out 0; have yg2_1 : W2.cell? ⟨g2, 1, none⟩ = some (.int .i64 f1) := (blk_cell BKg2.out 1).trans rfl; have fg2_1 := blk_frozen BKg2.out 1; have yg2_2 : W2.cell? ⟨g2, 2, none⟩ = some (.int .i64 f2) := (blk_cell BKg2.out 2).trans rfl; have fg2_2 := blk_frozen BKg2.out 2
                        have hmx := HLO.out
                        have hmn := HHI.out
                        have hx3 := (HB.out.cell (p := ⟨b0, (i + 1) * 3, none⟩) HBX.out).trans HX3.out
                        go_wp2_with fail
                        clear yg2_0 fg2_0 yg2_1 fg2_1 yg2_2 fg2_2
                        clear hmx hmn hx3
                        refine (growthI_c f1 f2 lo hi c _).mono ?_
                        rw [HGR.out]
                        rintro e w3_ ⟨rfl, hb⟩
                        replace BKg1 := am_ (blk_below (blk_below BKg1.out (by repeat first | exact Below.refl _ _ | apply ba_ | apply bn_ | apply bd_)) hb); replace HB := am_ (below_step (by repeat first | (with_reducible first | exact HB.out | apply ba_ | apply bn_ | apply bd_) | exact HB.out) hb); clear hb
                        go_upto_region 12 with ((((with_reducible refine gate_dst (N := 19) rfl ?_); refine box_event ?hg (N := 19) ?hd (cs := #[.int .i64 0, .int .i64 0]) (t := 24) ?hr ?_; (case hd => rfl); (case hg => rfl); (case hr => first | (go_simp; done) | (go_simp; rfl))); intro g3 hg w_g3 hbox hb; have n_ := am_ (below_step (by repeat first | (with_reducible first | exact HB.out | apply ba_ | apply bn_ | apply bd_ | refine below_set ?_ GEg1.out) | exact HB.out) hb); have m_g1 := am_ (blk_below (blk_below BKg1.out (by repeat first | exact Below.refl _ _ | apply ba_ | apply bn_ | apply bd_)) hb); have NEg1_g3 := am_ (show g1 ≠ g3 from by rw [hg]; exact Nat.ne_of_lt (blk_lt (blk_below BKg1.out (by repeat first | exact Below.refl _ _ | apply ba_ | apply bn_ | apply bd_)))); have NEg3_g1 := am_ (Ne.symm NEg1_g3.out); have BKg3 := am_ hbox; have GEg3 := am_ (show w.heap.size ≤ g3 from by rw [hg]; exact below_size (by repeat first | (with_reducible first | exact HB.out | apply ba_ | apply bn_ | apply bd_ | refine below_set ?_ GEg1.out) | exact HB.out)); clear HB BKg1; have HB := n_; clear n_ hb hbox hg; have BKg1 := m_g1; clear m_g1); have yg3_0 : w_g3.cell? ⟨g3, 0, none⟩ = some (.int .i64 0) := (blk_cell BKg3.out 0).trans rfl; have fg3_0 := blk_frozen BKg3.out 0; have yg3_1 : w_g3.cell? ⟨g3, 1, none⟩ = some (.int .i64 0) := (blk_cell BKg3.out 1).trans rfl; have fg3_1 := blk_frozen BKg3.out 1)
                        have BKn := am_ (show (((w_g3).setCell ⟨g3, 0, none⟩ (.int .i64 n1)).setCell ⟨g3, 1, none⟩ (.int .i64 d1)).heap[g3]? = some (.cells #[.int .i64 n1, .int .i64 d1] 24 (0, 0)) from (by (with_reducible repeat first | refine kn_ ?_ _ | refine kd_ ?_ | refine ka_ ?_ _); refine blk_put (cs := #[.int .i64 n1, .int .i64 0]) ?_ 1 _ rfl; (with_reducible repeat first | refine kn_ ?_ _ | refine kd_ ?_ | refine ka_ ?_ _); refine blk_put (cs := #[.int .i64 0, .int .i64 0]) ?_ 0 _ rfl; (with_reducible repeat first | refine kn_ ?_ _ | refine kd_ ?_ | refine ka_ ?_ _); exact BKg3.out))
                        have BK_g1 := am_ (show (((w_g3).setCell ⟨g3, 0, none⟩ (.int .i64 n1)).setCell ⟨g3, 1, none⟩ (.int .i64 d1)).heap[g1]? = some (.cells #[.int .i64 n, .int .i64 d] 24 (0, 0)) from (by repeat (with_reducible first | exact BKg1.out | refine kn_ ?_ _ | refine kd_ ?_ | refine ka_ ?_ _ | refine kf_ ?_ NEg1_g3.out _)))
                        have HBn := am_ (show Below w.heap.size w (((w_g3).setCell ⟨g3, 0, none⟩ (.int .i64 n1)).setCell ⟨g3, 1, none⟩ (.int .i64 d1)) from (by repeat first | (with_reducible first | exact HB.out | apply ba_ | apply bn_ | apply bd_ | refine below_set ?_ GEg3.out) | exact HB.out))
                        clear HB BKg3 BKg1
                        clear yg3_0 fg3_0 yg3_1 fg3_1
                        generalize ((w_g3).setCell ⟨g3, 0, none⟩ (.int .i64 n1)).setCell ⟨g3, 1, none⟩ (.int .i64 d1) = W3 at BKn HBn BK_g1 ⊢
                        have BKg3 := BKn
                        have HB := HBn
                        clear BKn HBn
                        have BKg1 := BK_g1
                        clear BK_g1
                        cases o1 with
                        | false =>
                          have HFZ := am_ (show FIN = (0, false) from by have h_ := HST.out; rw [if_neg (by simp)] at h_; exact h_)
                          go_wp2
                          go_ret2
                          exact ⟨by rw [HFZ.out]; rfl, (by repeat first | (with_reducible first | exact HB.out | apply ba_ | apply bn_ | apply bd_) | exact HB.out)⟩
                        | true =>
                          have yg1_0 : W3.cell? ⟨g1, 0, none⟩ = some (.int .i64 n) := (blk_cell BKg1.out 0).trans rfl; have fg1_0 := blk_frozen BKg1.out 0; have yg1_1 : W3.cell? ⟨g1, 1, none⟩ = some (.int .i64 d) := (blk_cell BKg1.out 1).trans rfl; have fg1_1 := blk_frozen BKg1.out 1
                          have yg3_0 : W3.cell? ⟨g3, 0, none⟩ = some (.int .i64 n1) := (blk_cell BKg3.out 0).trans rfl; have fg3_0 := blk_frozen BKg3.out 0; have yg3_1 : W3.cell? ⟨g3, 1, none⟩ = some (.int .i64 d1) := (blk_cell BKg3.out 1).trans rfl; have fg3_1 := blk_frozen BKg3.out 1
                          go_wp2_with fail
                          clear yg1_0 fg1_0 yg1_1 fg1_1
                          clear yg3_0 fg3_0 yg3_1 fg3_1
                          refine (addI_c n d n1 d1 _).mono ?_
                          rw [HAR.out]
                          rintro e w4_ ⟨rfl, hb⟩
                          replace BKg1 := am_ (blk_below (blk_below BKg1.out (by repeat first | exact Below.refl _ _ | apply ba_ | apply bn_ | apply bd_)) hb); replace BKg3 := am_ (blk_below (blk_below BKg3.out (by repeat first | exact Below.refl _ _ | apply ba_ | apply bn_ | apply bd_)) hb); replace HB := am_ (below_step (by repeat first | (with_reducible first | exact HB.out | apply ba_ | apply bn_ | apply bd_) | exact HB.out) hb); clear hb
                          clear BKg3
                          have yg1_0 : w4_.cell? ⟨g1, 0, none⟩ = some (.int .i64 n) := (blk_cell BKg1.out 0).trans rfl; have fg1_0 := blk_frozen BKg1.out 0; have yg1_1 : w4_.cell? ⟨g1, 1, none⟩ = some (.int .i64 d) := (blk_cell BKg1.out 1).trans rfl; have fg1_1 := blk_frozen BKg1.out 1
                          go_upto_region 14 with (fail)
                          have BKn := am_ (show (((w4_).setCell ⟨g1, 0, none⟩ (.int .i64 n2)).setCell ⟨g1, 1, none⟩ (.int .i64 d2)).heap[g1]? = some (.cells #[.int .i64 n2, .int .i64 d2] 24 (0, 0)) from (by (with_reducible repeat first | refine kn_ ?_ _ | refine kd_ ?_ | refine ka_ ?_ _); refine blk_put (cs := #[.int .i64 n2, .int .i64 d]) ?_ 1 _ rfl; (with_reducible repeat first | refine kn_ ?_ _ | refine kd_ ?_ | refine ka_ ?_ _); refine blk_put (cs := #[.int .i64 n, .int .i64 d]) ?_ 0 _ rfl; (with_reducible repeat first | refine kn_ ?_ _ | refine kd_ ?_ | refine ka_ ?_ _); exact BKg1.out))
                          have HBn := am_ (show Below w.heap.size w (((w4_).setCell ⟨g1, 0, none⟩ (.int .i64 n2)).setCell ⟨g1, 1, none⟩ (.int .i64 d2)) from (by repeat first | (with_reducible first | exact HB.out | apply ba_ | apply bn_ | apply bd_ | refine below_set ?_ GEg1.out) | exact HB.out))
                          clear HB BKg1 
                          clear yg1_0 fg1_0 yg1_1 fg1_1
                          generalize ((w4_).setCell ⟨g1, 0, none⟩ (.int .i64 n2)).setCell ⟨g1, 1, none⟩ (.int .i64 d2) = W5 at BKn HBn  ⊢
                          have BKg1 := BKn
                          have HB := HBn
                          clear BKn HBn
                          cases o2 with
                          | false =>
                            have HFZ := am_ (show FIN = (0, false) from by have h_ := HST.out; rw [if_neg (by simp)] at h_; exact h_)
                            go_wp2
                            go_ret2
                            exact ⟨by rw [HFZ.out]; rfl, (by repeat first | (with_reducible first | exact HB.out | apply ba_ | apply bn_ | apply bd_) | exact HB.out)⟩
                          | true =>
                            have HFS := am_ (show stepF p0 a b c m n2 d2 (xs.drop (i + 1)) = FIN from by have h_ := HST.out; rw [if_pos (by simp)] at h_; exact h_.symm)
                            go_wp2
                            go_roundw
                            case rel => exact ⟨i + 1, n2, d2, by go_num, ⟨hil⟩, HFS, ⟨(by (with_reducible repeat first | refine kn_ ?_ _ | refine kd_ ?_ | refine ka_ ?_ _); exact BKg1.out)⟩, ⟨(by repeat first | (with_reducible first | exact HB.out | apply ba_ | apply bn_ | apply bd_) | exact HB.out)⟩⟩
                            case measure => simp [intOf]; omega
                    · have cn : decide ((i : Int) + 1 < (xs.length : Int)) = false := decide_eq_false (by omega)
                      have cn2 : decide (i + 1 < xs.length) = false := decide_eq_false (by omega)
                      have HHS := am_ (show hiS b (xs.drop (i + 1)) = b from by rw [hiS_at, if_neg hn])
                      have HLO := am_ (show (if a < f0 then f0 else a) = lo from by rw [hlo]; unfold mx; repeat (first | rfl | omega | split))
                      have HLQ := am_ hlo.symm
                      have HA := am_ ha.symm
                      clear hlo ha 
                      by_cases hc : b ≤ lo
                      · have cg : decide (b ≤ lo) = true := decide_eq_true hc
                        have HFS := am_ (show stepF p0 a b c m n d (xs.drop (i + 1)) = FIN from by rw [← HF.out]; exact (stepF_skip hil HA.out HLQ.out HHS.out hc).symm)
                        clear hc
                        have hx0 := (HB.out.cell HBX.out).trans HX0.out
                        have hx1 := (HB.out.cell (p := ⟨b0, i * 3 + 1, none⟩) HBX.out).trans HX1.out
                        have hx2 := (HB.out.cell (p := ⟨b0, i * 3 + 2, none⟩) HBX.out).trans HX2.out
                        go_upto_region 7 with ((((with_reducible refine gate_dst (N := 16) rfl ?_); refine box_event ?hg (N := 16) ?hd (cs := #[.int .i64 0, .int .i64 0, .int .i64 0]) (t := 61) ?hr ?_; (case hd => rfl); (case hg => rfl); (case hr => first | (go_simp; done) | (go_simp; rfl))); intro g2 hg w_g2 hbox hb; have n_ := am_ (below_step (by repeat first | (with_reducible first | exact HB.out | apply ba_ | apply bn_ | apply bd_ | refine below_set ?_ GEg1.out) | exact HB.out) hb); have m_g1 := am_ (blk_below (blk_below BKg1.out (by repeat first | exact Below.refl _ _ | apply ba_ | apply bn_ | apply bd_)) hb); have NEg1_g2 := am_ (show g1 ≠ g2 from by rw [hg]; exact Nat.ne_of_lt (blk_lt (blk_below BKg1.out (by repeat first | exact Below.refl _ _ | apply ba_ | apply bn_ | apply bd_)))); have NEg2_g1 := am_ (Ne.symm NEg1_g2.out); have BKg2 := am_ hbox; have GEg2 := am_ (show w.heap.size ≤ g2 from by rw [hg]; exact below_size (by repeat first | (with_reducible first | exact HB.out | apply ba_ | apply bn_ | apply bd_ | refine below_set ?_ GEg1.out) | exact HB.out)); clear HB BKg1; have HB := n_; clear n_ hb hbox hg; have BKg1 := m_g1; clear m_g1); have yg2_0 : w_g2.cell? ⟨g2, 0, none⟩ = some (.int .i64 0) := (blk_cell BKg2.out 0).trans rfl; have fg2_0 := blk_frozen BKg2.out 0; have yg2_1 : w_g2.cell? ⟨g2, 1, none⟩ = some (.int .i64 0) := (blk_cell BKg2.out 1).trans rfl; have fg2_1 := blk_frozen BKg2.out 1; have yg2_2 : w_g2.cell? ⟨g2, 2, none⟩ = some (.int .i64 0) := (blk_cell BKg2.out 2).trans rfl; have fg2_2 := blk_frozen BKg2.out 2)
                        clear hx0 hx1 hx2
                        have BKn := am_ (show ((((w_g2).setCell ⟨g2, 0, none⟩ (.int .i64 f0)).setCell ⟨g2, 1, none⟩ (.int .i64 f1)).setCell ⟨g2, 2, none⟩ (.int .i64 f2)).heap[g2]? = some (.cells #[.int .i64 f0, .int .i64 f1, .int .i64 f2] 61 (0, 0)) from (by (with_reducible repeat first | refine kn_ ?_ _ | refine kd_ ?_ | refine ka_ ?_ _); refine blk_put (cs := #[.int .i64 f0, .int .i64 f1, .int .i64 0]) ?_ 2 _ rfl; (with_reducible repeat first | refine kn_ ?_ _ | refine kd_ ?_ | refine ka_ ?_ _); refine blk_put (cs := #[.int .i64 f0, .int .i64 0, .int .i64 0]) ?_ 1 _ rfl; (with_reducible repeat first | refine kn_ ?_ _ | refine kd_ ?_ | refine ka_ ?_ _); refine blk_put (cs := #[.int .i64 0, .int .i64 0, .int .i64 0]) ?_ 0 _ rfl; (with_reducible repeat first | refine kn_ ?_ _ | refine kd_ ?_ | refine ka_ ?_ _); exact BKg2.out))
                        have BK_g1 := am_ (show ((((w_g2).setCell ⟨g2, 0, none⟩ (.int .i64 f0)).setCell ⟨g2, 1, none⟩ (.int .i64 f1)).setCell ⟨g2, 2, none⟩ (.int .i64 f2)).heap[g1]? = some (.cells #[.int .i64 n, .int .i64 d] 24 (0, 0)) from (by repeat (with_reducible first | exact BKg1.out | refine kn_ ?_ _ | refine kd_ ?_ | refine ka_ ?_ _ | refine kf_ ?_ NEg1_g2.out _)))
                        have HBn := am_ (show Below w.heap.size w ((((w_g2).setCell ⟨g2, 0, none⟩ (.int .i64 f0)).setCell ⟨g2, 1, none⟩ (.int .i64 f1)).setCell ⟨g2, 2, none⟩ (.int .i64 f2)) from (by repeat first | (with_reducible first | exact HB.out | apply ba_ | apply bn_ | apply bd_ | refine below_set ?_ GEg2.out) | exact HB.out))
                        clear HB BKg2 BKg1
                        clear yg2_0 fg2_0 yg2_1 fg2_1 yg2_2 fg2_2
                        generalize (((w_g2).setCell ⟨g2, 0, none⟩ (.int .i64 f0)).setCell ⟨g2, 1, none⟩ (.int .i64 f1)).setCell ⟨g2, 2, none⟩ (.int .i64 f2) = W2 at BKn HBn BK_g1 ⊢
                        have BKg2 := BKn
                        have HB := HBn
                        clear BKn HBn
                        have BKg1 := BK_g1
                        clear BK_g1
                        have yg2_0 : W2.cell? ⟨g2, 0, none⟩ = some (.int .i64 f0) := (blk_cell BKg2.out 0).trans rfl; have fg2_0 := blk_frozen BKg2.out 0; have yg2_1 : W2.cell? ⟨g2, 1, none⟩ = some (.int .i64 f1) := (blk_cell BKg2.out 1).trans rfl; have fg2_1 := blk_frozen BKg2.out 1; have yg2_2 : W2.cell? ⟨g2, 2, none⟩ = some (.int .i64 f2) := (blk_cell BKg2.out 2).trans rfl; have fg2_2 := blk_frozen BKg2.out 2
                        have hmx := HLO.out
                        go_wp2
                        go_roundw
                        case rel => exact ⟨i + 1, n, d, by go_num, ⟨hil⟩, HFS, ⟨(by (with_reducible repeat first | refine kn_ ?_ _ | refine kd_ ?_ | refine ka_ ?_ _); exact BKg1.out)⟩, ⟨(by repeat first | (with_reducible first | exact HB.out | apply ba_ | apply bn_ | apply bd_) | exact HB.out)⟩⟩
                        case measure => simp [intOf]; omega
                      · have cg : decide (b ≤ lo) = false := decide_eq_false hc
                        obtain ⟨GR, hGR⟩ : ∃ F, F = growthA f1 f2 lo b c := ⟨_, rfl⟩
                        obtain ⟨n1, d1, o1⟩ := GR
                        have HGR := am_ hGR.symm
                        obtain ⟨AR, hAR⟩ : ∃ F, F = addF n d n1 d1 := ⟨_, rfl⟩
                        obtain ⟨n2, d2, o2⟩ := AR
                        have HAR := am_ hAR.symm
                        have HST := am_ (show FIN = if o1 = true ∧ o2 = true then stepF p0 a b c m n2 d2 (xs.drop (i + 1)) else (0, false) from by rw [← HF.out]; exact stepF_go hil HA.out HLQ.out HHS.out hc hGR.symm hAR.symm)
                        clear hGR hAR hc
                        have hx0 := (HB.out.cell HBX.out).trans HX0.out
                        have hx1 := (HB.out.cell (p := ⟨b0, i * 3 + 1, none⟩) HBX.out).trans HX1.out
                        have hx2 := (HB.out.cell (p := ⟨b0, i * 3 + 2, none⟩) HBX.out).trans HX2.out
                        go_upto_region 7 with ((((with_reducible refine gate_dst (N := 16) rfl ?_); refine box_event ?hg (N := 16) ?hd (cs := #[.int .i64 0, .int .i64 0, .int .i64 0]) (t := 61) ?hr ?_; (case hd => rfl); (case hg => rfl); (case hr => first | (go_simp; done) | (go_simp; rfl))); intro g2 hg w_g2 hbox hb; have n_ := am_ (below_step (by repeat first | (with_reducible first | exact HB.out | apply ba_ | apply bn_ | apply bd_ | refine below_set ?_ GEg1.out) | exact HB.out) hb); have m_g1 := am_ (blk_below (blk_below BKg1.out (by repeat first | exact Below.refl _ _ | apply ba_ | apply bn_ | apply bd_)) hb); have NEg1_g2 := am_ (show g1 ≠ g2 from by rw [hg]; exact Nat.ne_of_lt (blk_lt (blk_below BKg1.out (by repeat first | exact Below.refl _ _ | apply ba_ | apply bn_ | apply bd_)))); have NEg2_g1 := am_ (Ne.symm NEg1_g2.out); have BKg2 := am_ hbox; have GEg2 := am_ (show w.heap.size ≤ g2 from by rw [hg]; exact below_size (by repeat first | (with_reducible first | exact HB.out | apply ba_ | apply bn_ | apply bd_ | refine below_set ?_ GEg1.out) | exact HB.out)); clear HB BKg1; have HB := n_; clear n_ hb hbox hg; have BKg1 := m_g1; clear m_g1); have yg2_0 : w_g2.cell? ⟨g2, 0, none⟩ = some (.int .i64 0) := (blk_cell BKg2.out 0).trans rfl; have fg2_0 := blk_frozen BKg2.out 0; have yg2_1 : w_g2.cell? ⟨g2, 1, none⟩ = some (.int .i64 0) := (blk_cell BKg2.out 1).trans rfl; have fg2_1 := blk_frozen BKg2.out 1; have yg2_2 : w_g2.cell? ⟨g2, 2, none⟩ = some (.int .i64 0) := (blk_cell BKg2.out 2).trans rfl; have fg2_2 := blk_frozen BKg2.out 2)
                        clear hx0 hx1 hx2
                        have BKn := am_ (show ((((w_g2).setCell ⟨g2, 0, none⟩ (.int .i64 f0)).setCell ⟨g2, 1, none⟩ (.int .i64 f1)).setCell ⟨g2, 2, none⟩ (.int .i64 f2)).heap[g2]? = some (.cells #[.int .i64 f0, .int .i64 f1, .int .i64 f2] 61 (0, 0)) from (by (with_reducible repeat first | refine kn_ ?_ _ | refine kd_ ?_ | refine ka_ ?_ _); refine blk_put (cs := #[.int .i64 f0, .int .i64 f1, .int .i64 0]) ?_ 2 _ rfl; (with_reducible repeat first | refine kn_ ?_ _ | refine kd_ ?_ | refine ka_ ?_ _); refine blk_put (cs := #[.int .i64 f0, .int .i64 0, .int .i64 0]) ?_ 1 _ rfl; (with_reducible repeat first | refine kn_ ?_ _ | refine kd_ ?_ | refine ka_ ?_ _); refine blk_put (cs := #[.int .i64 0, .int .i64 0, .int .i64 0]) ?_ 0 _ rfl; (with_reducible repeat first | refine kn_ ?_ _ | refine kd_ ?_ | refine ka_ ?_ _); exact BKg2.out))
                        have BK_g1 := am_ (show ((((w_g2).setCell ⟨g2, 0, none⟩ (.int .i64 f0)).setCell ⟨g2, 1, none⟩ (.int .i64 f1)).setCell ⟨g2, 2, none⟩ (.int .i64 f2)).heap[g1]? = some (.cells #[.int .i64 n, .int .i64 d] 24 (0, 0)) from (by repeat (with_reducible first | exact BKg1.out | refine kn_ ?_ _ | refine kd_ ?_ | refine ka_ ?_ _ | refine kf_ ?_ NEg1_g2.out _)))
                        have HBn := am_ (show Below w.heap.size w ((((w_g2).setCell ⟨g2, 0, none⟩ (.int .i64 f0)).setCell ⟨g2, 1, none⟩ (.int .i64 f1)).setCell ⟨g2, 2, none⟩ (.int .i64 f2)) from (by repeat first | (with_reducible first | exact HB.out | apply ba_ | apply bn_ | apply bd_ | refine below_set ?_ GEg2.out) | exact HB.out))
                        clear HB BKg2 BKg1
                        clear yg2_0 fg2_0 yg2_1 fg2_1 yg2_2 fg2_2
                        generalize (((w_g2).setCell ⟨g2, 0, none⟩ (.int .i64 f0)).setCell ⟨g2, 1, none⟩ (.int .i64 f1)).setCell ⟨g2, 2, none⟩ (.int .i64 f2) = W2 at BKn HBn BK_g1 ⊢
                        have BKg2 := BKn
                        have HB := HBn
                        clear BKn HBn
                        have BKg1 := BK_g1
                        clear BK_g1
                        have yg2_0 : W2.cell? ⟨g2, 0, none⟩ = some (.int .i64 f0) := (blk_cell BKg2.out 0).trans rfl; have fg2_0 := blk_frozen BKg2.out 0; have yg2_1 : W2.cell? ⟨g2, 1, none⟩ = some (.int .i64 f1) := (blk_cell BKg2.out 1).trans rfl; have fg2_1 := blk_frozen BKg2.out 1; have yg2_2 : W2.cell? ⟨g2, 2, none⟩ = some (.int .i64 f2) := (blk_cell BKg2.out 2).trans rfl; have fg2_2 := blk_frozen BKg2.out 2
                        have hmx := HLO.out
                        go_wp2_with fail
                        clear yg2_0 fg2_0 yg2_1 fg2_1 yg2_2 fg2_2
                        clear hmx 
                        refine (growthI_c f1 f2 lo b c _).mono ?_
                        rw [HGR.out]
                        rintro e w3_ ⟨rfl, hb⟩
                        replace BKg1 := am_ (blk_below (blk_below BKg1.out (by repeat first | exact Below.refl _ _ | apply ba_ | apply bn_ | apply bd_)) hb); replace HB := am_ (below_step (by repeat first | (with_reducible first | exact HB.out | apply ba_ | apply bn_ | apply bd_) | exact HB.out) hb); clear hb
                        go_upto_region 12 with ((((with_reducible refine gate_dst (N := 19) rfl ?_); refine box_event ?hg (N := 19) ?hd (cs := #[.int .i64 0, .int .i64 0]) (t := 24) ?hr ?_; (case hd => rfl); (case hg => rfl); (case hr => first | (go_simp; done) | (go_simp; rfl))); intro g3 hg w_g3 hbox hb; have n_ := am_ (below_step (by repeat first | (with_reducible first | exact HB.out | apply ba_ | apply bn_ | apply bd_ | refine below_set ?_ GEg1.out) | exact HB.out) hb); have m_g1 := am_ (blk_below (blk_below BKg1.out (by repeat first | exact Below.refl _ _ | apply ba_ | apply bn_ | apply bd_)) hb); have NEg1_g3 := am_ (show g1 ≠ g3 from by rw [hg]; exact Nat.ne_of_lt (blk_lt (blk_below BKg1.out (by repeat first | exact Below.refl _ _ | apply ba_ | apply bn_ | apply bd_)))); have NEg3_g1 := am_ (Ne.symm NEg1_g3.out); have BKg3 := am_ hbox; have GEg3 := am_ (show w.heap.size ≤ g3 from by rw [hg]; exact below_size (by repeat first | (with_reducible first | exact HB.out | apply ba_ | apply bn_ | apply bd_ | refine below_set ?_ GEg1.out) | exact HB.out)); clear HB BKg1; have HB := n_; clear n_ hb hbox hg; have BKg1 := m_g1; clear m_g1); have yg3_0 : w_g3.cell? ⟨g3, 0, none⟩ = some (.int .i64 0) := (blk_cell BKg3.out 0).trans rfl; have fg3_0 := blk_frozen BKg3.out 0; have yg3_1 : w_g3.cell? ⟨g3, 1, none⟩ = some (.int .i64 0) := (blk_cell BKg3.out 1).trans rfl; have fg3_1 := blk_frozen BKg3.out 1)
                        have BKn := am_ (show (((w_g3).setCell ⟨g3, 0, none⟩ (.int .i64 n1)).setCell ⟨g3, 1, none⟩ (.int .i64 d1)).heap[g3]? = some (.cells #[.int .i64 n1, .int .i64 d1] 24 (0, 0)) from (by (with_reducible repeat first | refine kn_ ?_ _ | refine kd_ ?_ | refine ka_ ?_ _); refine blk_put (cs := #[.int .i64 n1, .int .i64 0]) ?_ 1 _ rfl; (with_reducible repeat first | refine kn_ ?_ _ | refine kd_ ?_ | refine ka_ ?_ _); refine blk_put (cs := #[.int .i64 0, .int .i64 0]) ?_ 0 _ rfl; (with_reducible repeat first | refine kn_ ?_ _ | refine kd_ ?_ | refine ka_ ?_ _); exact BKg3.out))
                        have BK_g1 := am_ (show (((w_g3).setCell ⟨g3, 0, none⟩ (.int .i64 n1)).setCell ⟨g3, 1, none⟩ (.int .i64 d1)).heap[g1]? = some (.cells #[.int .i64 n, .int .i64 d] 24 (0, 0)) from (by repeat (with_reducible first | exact BKg1.out | refine kn_ ?_ _ | refine kd_ ?_ | refine ka_ ?_ _ | refine kf_ ?_ NEg1_g3.out _)))
                        have HBn := am_ (show Below w.heap.size w (((w_g3).setCell ⟨g3, 0, none⟩ (.int .i64 n1)).setCell ⟨g3, 1, none⟩ (.int .i64 d1)) from (by repeat first | (with_reducible first | exact HB.out | apply ba_ | apply bn_ | apply bd_ | refine below_set ?_ GEg3.out) | exact HB.out))
                        clear HB BKg3 BKg1
                        clear yg3_0 fg3_0 yg3_1 fg3_1
                        generalize ((w_g3).setCell ⟨g3, 0, none⟩ (.int .i64 n1)).setCell ⟨g3, 1, none⟩ (.int .i64 d1) = W3 at BKn HBn BK_g1 ⊢
                        have BKg3 := BKn
                        have HB := HBn
                        clear BKn HBn
                        have BKg1 := BK_g1
                        clear BK_g1
                        cases o1 with
                        | false =>
                          have HFZ := am_ (show FIN = (0, false) from by have h_ := HST.out; rw [if_neg (by simp)] at h_; exact h_)
                          go_wp2
                          go_ret2
                          exact ⟨by rw [HFZ.out]; rfl, (by repeat first | (with_reducible first | exact HB.out | apply ba_ | apply bn_ | apply bd_) | exact HB.out)⟩
                        | true =>
                          have yg1_0 : W3.cell? ⟨g1, 0, none⟩ = some (.int .i64 n) := (blk_cell BKg1.out 0).trans rfl; have fg1_0 := blk_frozen BKg1.out 0; have yg1_1 : W3.cell? ⟨g1, 1, none⟩ = some (.int .i64 d) := (blk_cell BKg1.out 1).trans rfl; have fg1_1 := blk_frozen BKg1.out 1
                          have yg3_0 : W3.cell? ⟨g3, 0, none⟩ = some (.int .i64 n1) := (blk_cell BKg3.out 0).trans rfl; have fg3_0 := blk_frozen BKg3.out 0; have yg3_1 : W3.cell? ⟨g3, 1, none⟩ = some (.int .i64 d1) := (blk_cell BKg3.out 1).trans rfl; have fg3_1 := blk_frozen BKg3.out 1
                          go_wp2_with fail
                          clear yg1_0 fg1_0 yg1_1 fg1_1
                          clear yg3_0 fg3_0 yg3_1 fg3_1
                          refine (addI_c n d n1 d1 _).mono ?_
                          rw [HAR.out]
                          rintro e w4_ ⟨rfl, hb⟩
                          replace BKg1 := am_ (blk_below (blk_below BKg1.out (by repeat first | exact Below.refl _ _ | apply ba_ | apply bn_ | apply bd_)) hb); replace BKg3 := am_ (blk_below (blk_below BKg3.out (by repeat first | exact Below.refl _ _ | apply ba_ | apply bn_ | apply bd_)) hb); replace HB := am_ (below_step (by repeat first | (with_reducible first | exact HB.out | apply ba_ | apply bn_ | apply bd_) | exact HB.out) hb); clear hb
                          clear BKg3
                          have yg1_0 : w4_.cell? ⟨g1, 0, none⟩ = some (.int .i64 n) := (blk_cell BKg1.out 0).trans rfl; have fg1_0 := blk_frozen BKg1.out 0; have yg1_1 : w4_.cell? ⟨g1, 1, none⟩ = some (.int .i64 d) := (blk_cell BKg1.out 1).trans rfl; have fg1_1 := blk_frozen BKg1.out 1
                          go_upto_region 14 with (fail)
                          have BKn := am_ (show (((w4_).setCell ⟨g1, 0, none⟩ (.int .i64 n2)).setCell ⟨g1, 1, none⟩ (.int .i64 d2)).heap[g1]? = some (.cells #[.int .i64 n2, .int .i64 d2] 24 (0, 0)) from (by (with_reducible repeat first | refine kn_ ?_ _ | refine kd_ ?_ | refine ka_ ?_ _); refine blk_put (cs := #[.int .i64 n2, .int .i64 d]) ?_ 1 _ rfl; (with_reducible repeat first | refine kn_ ?_ _ | refine kd_ ?_ | refine ka_ ?_ _); refine blk_put (cs := #[.int .i64 n, .int .i64 d]) ?_ 0 _ rfl; (with_reducible repeat first | refine kn_ ?_ _ | refine kd_ ?_ | refine ka_ ?_ _); exact BKg1.out))
                          have HBn := am_ (show Below w.heap.size w (((w4_).setCell ⟨g1, 0, none⟩ (.int .i64 n2)).setCell ⟨g1, 1, none⟩ (.int .i64 d2)) from (by repeat first | (with_reducible first | exact HB.out | apply ba_ | apply bn_ | apply bd_ | refine below_set ?_ GEg1.out) | exact HB.out))
                          clear HB BKg1 
                          clear yg1_0 fg1_0 yg1_1 fg1_1
                          generalize ((w4_).setCell ⟨g1, 0, none⟩ (.int .i64 n2)).setCell ⟨g1, 1, none⟩ (.int .i64 d2) = W5 at BKn HBn  ⊢
                          have BKg1 := BKn
                          have HB := HBn
                          clear BKn HBn
                          cases o2 with
                          | false =>
                            have HFZ := am_ (show FIN = (0, false) from by have h_ := HST.out; rw [if_neg (by simp)] at h_; exact h_)
                            go_wp2
                            go_ret2
                            exact ⟨by rw [HFZ.out]; rfl, (by repeat first | (with_reducible first | exact HB.out | apply ba_ | apply bn_ | apply bd_) | exact HB.out)⟩
                          | true =>
                            have HFS := am_ (show stepF p0 a b c m n2 d2 (xs.drop (i + 1)) = FIN from by have h_ := HST.out; rw [if_pos (by simp)] at h_; exact h_.symm)
                            go_wp2
                            go_roundw
                            case rel => exact ⟨i + 1, n2, d2, by go_num, ⟨hil⟩, HFS, ⟨(by (with_reducible repeat first | refine kn_ ?_ _ | refine kd_ ?_ | refine ka_ ?_ _); exact BKg1.out)⟩, ⟨(by repeat first | (with_reducible first | exact HB.out | apply ba_ | apply bn_ | apply bd_) | exact HB.out)⟩⟩
                            case measure => simp [intOf]; omega
                  · obtain rfl : i = xs.length := by have := HI.out; omega
                    have ci : decide (xs.length < xs.length) = false := decide_eq_false (by omega)
                    obtain ⟨SC, hSC⟩ : ∃ F, F = scaleA p0 n d m := ⟨_, rfl⟩
                    obtain ⟨k, hk⟩ := roundsOf (implScale_ev p0 n d m)
                    have hfe := HF.out
                    rw [stepF_end] at hfe
                    rw [← hSC] at hk hfe
                    obtain ⟨sv, so⟩ := SC
                    have HK := am_ hk
                    have HFE := am_ hfe
                    clear hfe hk hSC
                    have yg1_0 : wr.cell? ⟨g1, 0, none⟩ = some (.int .i64 n) := (blk_cell BKg1.out 0).trans rfl; have fg1_0 := blk_frozen BKg1.out 0; have yg1_1 : wr.cell? ⟨g1, 1, none⟩ = some (.int .i64 d) := (blk_cell BKg1.out 1).trans rfl; have fg1_1 := blk_frozen BKg1.out 1
                    go_wp2_with fail
                    clear yg1_0 fg1_0 yg1_1 fg1_1
                    refine (impl_ScaleAmount.calls k p0 n d m sv so _ HK.out).mono ?_
                    rintro e w1_ ⟨rfl, hb⟩
                    replace HB := am_ (below_step (by repeat first | (with_reducible first | exact HB.out | apply ba_ | apply bn_ | apply bd_) | exact HB.out) hb); clear hb
                    go_wp2
                    go_ret2
                    exact ⟨by rw [← HFE.out]; rfl, HB.out⟩
              · rw [decide_eq_false c6_] at g6_
                have G7 := am_ g6_
                clear g6_
                have hfin : stepA p0 xs a b c m = (0, false) := by unfold stepA; rw [if_neg (fun v => c6_ (arOk_iff.mpr ⟨v.2.1, v.2.2.1, v.2.2.2.2.2.2.1⟩))]
                rw [hfin]
                clear hfin
                have cab_ : decide (b < a) = false := decide_eq_false (by omega)
                go_enter Try.func31, Try.ntmps31
                go_wp2_with fail
                refine (impl_within.calls p0 0 1000000000 true _ G1.out).mono ?_
                rintro e w1_ ⟨rfl, hb0⟩
                have hb := db_ hb0
                clear hb0
                replace HB := am_ (below_step (by repeat first | (with_reducible first | exact HB.out | apply ba_ | apply bn_ | apply bd_) | exact HB.out) hb); clear hb
                go_wp2_with fail
                refine (impl_isCount.calls c true _ G2.out).mono ?_
                rintro e w2_ ⟨rfl, hb0⟩
                have hb := db_ hb0
                clear hb0
                replace HB := am_ (below_step (by repeat first | (with_reducible first | exact HB.out | apply ba_ | apply bn_ | apply bd_) | exact HB.out) hb); clear hb
                go_wp2_with fail
                refine (impl_isMode.calls m true _ G3.out).mono ?_
                rintro e w3_ ⟨rfl, hb0⟩
                have hb := db_ hb0
                clear hb0
                replace HB := am_ (below_step (by repeat first | (with_reducible first | exact HB.out | apply ba_ | apply bn_ | apply bd_) | exact HB.out) hb); clear hb
                go_wp2_with fail
                refine (impl_isDay.calls a true _ G4.out).mono ?_
                rintro e w4_ ⟨rfl, hb0⟩
                have hb := db_ hb0
                clear hb0
                replace HB := am_ (below_step (by repeat first | (with_reducible first | exact HB.out | apply ba_ | apply bn_ | apply bd_) | exact HB.out) hb); clear hb
                go_wp2_with fail
                refine (impl_isDay.calls b true _ G5.out).mono ?_
                rintro e w5_ ⟨rfl, hb0⟩
                have hb := db_ hb0
                clear hb0
                replace HB := am_ (below_step (by repeat first | (with_reducible first | exact HB.out | apply ba_ | apply bn_ | apply bd_) | exact HB.out) hb); clear hb
                go_wp2_with fail
                refine (okStepsI_c _ _ xs a false G7.out _ (by repeat first | exact (Kd.C_below HR0.out HB.out) | with_reducible refine ca_ ?_ _ | with_reducible refine cn_ ?_ _ | with_reducible refine cd_ ?_) HA0.out hn).mono ?_
                rintro e w6_ ⟨rfl, hb⟩
                replace HB := am_ (below_step (by repeat first | (with_reducible first | exact HB.out | apply ba_ | apply bn_ | apply bd_) | exact HB.out) hb); clear hb
                go_wp2
                go_ret2
                exact ⟨rfl, (by repeat first | (with_reducible first | exact HB.out | apply ba_ | apply bn_ | apply bd_) | exact HB.out)⟩
            · have cb5_ : decide (¬ b < a) = false := decide_eq_false c5_
              have hfin : stepA p0 xs a b c m = (0, false) := by unfold stepA; rw [if_neg (fun v => c5_ (by have := v.2.2.2.2.2.1; omega))]
              rw [hfin]
              clear hfin
              have cab_ : decide (b < a) = true := decide_eq_true (by omega)
              go_enter Try.func31, Try.ntmps31
              go_wp2_with fail
              refine (impl_within.calls p0 0 1000000000 true _ G1.out).mono ?_
              rintro e w1_ ⟨rfl, hb0⟩
              have hb := db_ hb0
              clear hb0
              replace HB := am_ (below_step (by repeat first | (with_reducible first | exact HB.out | apply ba_ | apply bn_ | apply bd_) | exact HB.out) hb); clear hb
              go_wp2_with fail
              refine (impl_isCount.calls c true _ G2.out).mono ?_
              rintro e w2_ ⟨rfl, hb0⟩
              have hb := db_ hb0
              clear hb0
              replace HB := am_ (below_step (by repeat first | (with_reducible first | exact HB.out | apply ba_ | apply bn_ | apply bd_) | exact HB.out) hb); clear hb
              go_wp2_with fail
              refine (impl_isMode.calls m true _ G3.out).mono ?_
              rintro e w3_ ⟨rfl, hb0⟩
              have hb := db_ hb0
              clear hb0
              replace HB := am_ (below_step (by repeat first | (with_reducible first | exact HB.out | apply ba_ | apply bn_ | apply bd_) | exact HB.out) hb); clear hb
              go_wp2_with fail
              refine (impl_isDay.calls a true _ G4.out).mono ?_
              rintro e w4_ ⟨rfl, hb0⟩
              have hb := db_ hb0
              clear hb0
              replace HB := am_ (below_step (by repeat first | (with_reducible first | exact HB.out | apply ba_ | apply bn_ | apply bd_) | exact HB.out) hb); clear hb
              go_wp2_with fail
              refine (impl_isDay.calls b true _ G5.out).mono ?_
              rintro e w5_ ⟨rfl, hb0⟩
              have hb := db_ hb0
              clear hb0
              replace HB := am_ (below_step (by repeat first | (with_reducible first | exact HB.out | apply ba_ | apply bn_ | apply bd_) | exact HB.out) hb); clear hb
              go_wp2
              go_ret2
              exact ⟨rfl, (by repeat first | (with_reducible first | exact HB.out | apply ba_ | apply bn_ | apply bd_) | exact HB.out)⟩
          · rw [decide_eq_false c4_] at g4_
            have G5 := am_ g4_
            clear g4_
            have hfin : stepA p0 xs a b c m = (0, false) := by unfold stepA; rw [if_neg (fun v => c4_ v.2.2.2.2.1)]
            rw [hfin]
            clear hfin
            go_enter Try.func31, Try.ntmps31
            go_wp2_with fail
            refine (impl_within.calls p0 0 1000000000 true _ G1.out).mono ?_
            rintro e w1_ ⟨rfl, hb0⟩
            have hb := db_ hb0
            clear hb0
            replace HB := am_ (below_step (by repeat first | (with_reducible first | exact HB.out | apply ba_ | apply bn_ | apply bd_) | exact HB.out) hb); clear hb
            go_wp2_with fail
            refine (impl_isCount.calls c true _ G2.out).mono ?_
            rintro e w2_ ⟨rfl, hb0⟩
            have hb := db_ hb0
            clear hb0
            replace HB := am_ (below_step (by repeat first | (with_reducible first | exact HB.out | apply ba_ | apply bn_ | apply bd_) | exact HB.out) hb); clear hb
            go_wp2_with fail
            refine (impl_isMode.calls m true _ G3.out).mono ?_
            rintro e w3_ ⟨rfl, hb0⟩
            have hb := db_ hb0
            clear hb0
            replace HB := am_ (below_step (by repeat first | (with_reducible first | exact HB.out | apply ba_ | apply bn_ | apply bd_) | exact HB.out) hb); clear hb
            go_wp2_with fail
            refine (impl_isDay.calls a true _ G4.out).mono ?_
            rintro e w4_ ⟨rfl, hb0⟩
            have hb := db_ hb0
            clear hb0
            replace HB := am_ (below_step (by repeat first | (with_reducible first | exact HB.out | apply ba_ | apply bn_ | apply bd_) | exact HB.out) hb); clear hb
            go_wp2_with fail
            refine (impl_isDay.calls b false _ G5.out).mono ?_
            rintro e w5_ ⟨rfl, hb0⟩
            have hb := db_ hb0
            clear hb0
            replace HB := am_ (below_step (by repeat first | (with_reducible first | exact HB.out | apply ba_ | apply bn_ | apply bd_) | exact HB.out) hb); clear hb
            go_wp2
            go_ret2
            exact ⟨rfl, (by repeat first | (with_reducible first | exact HB.out | apply ba_ | apply bn_ | apply bd_) | exact HB.out)⟩
        · rw [decide_eq_false c3_] at g3_
          have G4 := am_ g3_
          clear g3_
          have hfin : stepA p0 xs a b c m = (0, false) := by unfold stepA; rw [if_neg (fun v => c3_ v.2.2.2.1)]
          rw [hfin]
          clear hfin
          go_enter Try.func31, Try.ntmps31
          go_wp2_with fail
          refine (impl_within.calls p0 0 1000000000 true _ G1.out).mono ?_
          rintro e w1_ ⟨rfl, hb0⟩
          have hb := db_ hb0
          clear hb0
          replace HB := am_ (below_step (by repeat first | (with_reducible first | exact HB.out | apply ba_ | apply bn_ | apply bd_) | exact HB.out) hb); clear hb
          go_wp2_with fail
          refine (impl_isCount.calls c true _ G2.out).mono ?_
          rintro e w2_ ⟨rfl, hb0⟩
          have hb := db_ hb0
          clear hb0
          replace HB := am_ (below_step (by repeat first | (with_reducible first | exact HB.out | apply ba_ | apply bn_ | apply bd_) | exact HB.out) hb); clear hb
          go_wp2_with fail
          refine (impl_isMode.calls m true _ G3.out).mono ?_
          rintro e w3_ ⟨rfl, hb0⟩
          have hb := db_ hb0
          clear hb0
          replace HB := am_ (below_step (by repeat first | (with_reducible first | exact HB.out | apply ba_ | apply bn_ | apply bd_) | exact HB.out) hb); clear hb
          go_wp2_with fail
          refine (impl_isDay.calls a false _ G4.out).mono ?_
          rintro e w4_ ⟨rfl, hb0⟩
          have hb := db_ hb0
          clear hb0
          replace HB := am_ (below_step (by repeat first | (with_reducible first | exact HB.out | apply ba_ | apply bn_ | apply bd_) | exact HB.out) hb); clear hb
          go_wp2
          go_ret2
          exact ⟨rfl, (by repeat first | (with_reducible first | exact HB.out | apply ba_ | apply bn_ | apply bd_) | exact HB.out)⟩
      · rw [decide_eq_false c2_] at g2_
        have G3 := am_ g2_
        clear g2_
        have hfin : stepA p0 xs a b c m = (0, false) := by unfold stepA; rw [stepF_mode p0 a b c m c2_]; simp
        rw [hfin]
        clear hfin
        go_enter Try.func31, Try.ntmps31
        go_wp2_with fail
        refine (impl_within.calls p0 0 1000000000 true _ G1.out).mono ?_
        rintro e w1_ ⟨rfl, hb0⟩
        have hb := db_ hb0
        clear hb0
        replace HB := am_ (below_step (by repeat first | (with_reducible first | exact HB.out | apply ba_ | apply bn_ | apply bd_) | exact HB.out) hb); clear hb
        go_wp2_with fail
        refine (impl_isCount.calls c true _ G2.out).mono ?_
        rintro e w2_ ⟨rfl, hb0⟩
        have hb := db_ hb0
        clear hb0
        replace HB := am_ (below_step (by repeat first | (with_reducible first | exact HB.out | apply ba_ | apply bn_ | apply bd_) | exact HB.out) hb); clear hb
        go_wp2_with fail
        refine (impl_isMode.calls m false _ G3.out).mono ?_
        rintro e w3_ ⟨rfl, hb0⟩
        have hb := db_ hb0
        clear hb0
        replace HB := am_ (below_step (by repeat first | (with_reducible first | exact HB.out | apply ba_ | apply bn_ | apply bd_) | exact HB.out) hb); clear hb
        go_wp2
        go_ret2
        exact ⟨rfl, (by repeat first | (with_reducible first | exact HB.out | apply ba_ | apply bn_ | apply bd_) | exact HB.out)⟩
    · rw [decide_eq_false c1_] at g1_
      have G2 := am_ g1_
      clear g1_
      have hfin : stepA p0 xs a b c m = (0, false) := by unfold stepA; rw [if_neg (fun v => c1_ v.2.2.2.2.2.2.2)]
      rw [hfin]
      clear hfin
      go_enter Try.func31, Try.ntmps31
      go_wp2_with fail
      refine (impl_within.calls p0 0 1000000000 true _ G1.out).mono ?_
      rintro e w1_ ⟨rfl, hb0⟩
      have hb := db_ hb0
      clear hb0
      replace HB := am_ (below_step (by repeat first | (with_reducible first | exact HB.out | apply ba_ | apply bn_ | apply bd_) | exact HB.out) hb); clear hb
      go_wp2_with fail
      refine (impl_isCount.calls c false _ G2.out).mono ?_
      rintro e w2_ ⟨rfl, hb0⟩
      have hb := db_ hb0
      clear hb0
      replace HB := am_ (below_step (by repeat first | (with_reducible first | exact HB.out | apply ba_ | apply bn_ | apply bd_) | exact HB.out) hb); clear hb
      go_wp2
      go_ret2
      exact ⟨rfl, (by repeat first | (with_reducible first | exact HB.out | apply ba_ | apply bn_ | apply bd_) | exact HB.out)⟩
  · rw [decide_eq_false c0_] at g0_
    have G1 := am_ g0_
    clear g0_
    have hfin : stepA p0 xs a b c m = (0, false) := by unfold stepA; rw [if_neg (fun v => c0_ v.1)]
    rw [hfin]
    clear hfin
    go_enter Try.func31, Try.ntmps31
    go_wp2_with fail
    refine (impl_within.calls p0 0 1000000000 false _ G1.out).mono ?_
    rintro e w1_ ⟨rfl, hb0⟩
    have hb := db_ hb0
    clear hb0
    replace HB := am_ (below_step (by repeat first | (with_reducible first | exact HB.out | apply ba_ | apply bn_ | apply bd_) | exact HB.out) hb); clear hb
    go_wp2
    go_ret2
    exact ⟨rfl, (by repeat first | (with_reducible first | exact HB.out | apply ba_ | apply bn_ | apply bd_) | exact HB.out)⟩
end Go.Proofs.Ytacfepaemphdgaa.O
