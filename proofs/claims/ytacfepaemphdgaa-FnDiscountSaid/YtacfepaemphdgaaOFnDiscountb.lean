/- Walks of our own, a part of those for the law FnDiscount: each function's contract in plain Lean. No condition beyond the bounds that each contract names. -/
import Derived.Test.YtacfepaemphdgaaPureFnDiscount
import Derived.Shelf.SlicesE.IndexFunc
import Derived.Shelf.SlLaysH
import Derived.Test.YtacfepaemphdgaaOFnDiscounta
namespace Go.Proofs.Ytacfepaemphdgaa.O
open Go.RowKit Go.Proofs.YtacfepaemphdgaaW.PrintWords Go.Proofs.YtacfepaemphdgaaW.PrintLast Go.Proofs.YtacfepaemphdgaaW.PrintMore Go.Proofs.Ytacfepaemphdgaa.PL15I Go.Proofs.Ytacfepaemphdgaa.EvKit Go.Proofs.Ytacfepaemphdgaa.Pure
set_option linter.unusedVariables false
set_option linter.unusedSimpArgs false
attribute [local go_sem] max2_int min2_int max_two min_two max_three min_three max_four min_four
set_option maxHeartbeats 8000000 in
set_option maxRecDepth 100000 in
theorem dayCountI_c (a b c : Int) (w : World) :
    Calls Try.prog 106 #[.int .i64 a, .int .i64 b, .int .i64 c] w fun e w' => e = .returned (.tuple #[.agg #[.int .i64 (dayCountA a b c).1, .int .i64 (dayCountA a b c).2.1], .bool (dayCountA a b c).2.2]) ∧ Below w.heap.size w w' := by
  have HB := am_ (Below.refl w.heap.size w)
  have g0_ := isDay_eq a
  by_cases c0_ : 0 ≤ a ∧ a ≤ 36524
  · rw [decide_eq_true c0_] at g0_
    have G1 := am_ g0_
    clear g0_
    have g1_ := isDay_eq b
    by_cases c1_ : 0 ≤ b ∧ b ≤ 36524
    · rw [decide_eq_true c1_] at g1_
      have G2 := am_ g1_
      clear g1_
      by_cases c2_ : ¬ b < a
      · have cb2_ : decide (¬ b < a) = true := decide_eq_true c2_
        have g3_ := within_eq c 1 4
        by_cases c3_ : 1 ≤ c ∧ c ≤ 4
        · rw [decide_eq_true c3_] at g3_
          have G3 := am_ g3_
          clear g3_
          have hv : validC a b c := ⟨c0_, c1_, by omega, c3_⟩
          have hfin : dayCountA a b c = countA a b c := by unfold dayCountA; rw [if_pos hv]
          rw [hfin]
          obtain ⟨FR, hFR⟩ : ∃ F, F = countA a b c := ⟨_, rfl⟩
          have HFR := am_ hFR.symm
          rw [← hFR]
          obtain ⟨n, d, o⟩ := FR
          clear hFR
          have HV := am_ hv
          have cab_ : decide (b < a) = false := decide_eq_false c2_
          clear hfin hv c0_ c1_ c3_
          go_enter Try.func106, Try.ntmps106
          go_wp2_with (((with_reducible refine gate_dst (N := 6) rfl ?_); refine box_event ?hg (N := 6) ?hd (cs := #[.int .i64 0,.int .i64 0]) (t := 24) ?hr ?_; (case hd => rfl); (case hg => rfl); (case hr => first | (go_simp; done) | (go_simp; rfl))); intro g1 hg w_g1 hbox hb; have n_ := am_ (below_step (by repeat first | (with_reducible first | exact HB.out | apply ba_ | apply bn_ | apply bd_) | exact HB.out) hb); have BKg1 := am_ hbox; have GEg1 := am_ (show w.heap.size ≤ g1 from by rw [hg]; exact below_size (by repeat first | (with_reducible first | exact HB.out | apply ba_ | apply bn_ | apply bd_) | exact HB.out)); clear HB ; have HB := n_; clear n_ hb hbox hg)
          refine (impl_isDay.calls a true _ G1.out).mono ?_
          rintro e w1_ ⟨rfl, hb0⟩
          have hb := db_ hb0
          clear hb0
          replace BKg1 := am_ (blk_below (blk_below BKg1.out (by repeat first | exact Below.refl _ _ | apply ba_ | apply bn_ | apply bd_)) hb); replace HB := am_ (below_step (by repeat first | (with_reducible first | exact HB.out | apply ba_ | apply bn_ | apply bd_) | exact HB.out) hb); clear hb
          go_wp2_with fail
          refine (impl_isDay.calls b true _ G2.out).mono ?_
          rintro e w2_ ⟨rfl, hb0⟩
          have hb := db_ hb0
          clear hb0
          replace BKg1 := am_ (blk_below (blk_below BKg1.out (by repeat first | exact Below.refl _ _ | apply ba_ | apply bn_ | apply bd_)) hb); replace HB := am_ (below_step (by repeat first | (with_reducible first | exact HB.out | apply ba_ | apply bn_ | apply bd_) | exact HB.out) hb); clear hb
          go_wp2_with fail
          refine (impl_within.calls c 1 4 true _ G3.out).mono ?_
          rintro e w3_ ⟨rfl, hb0⟩
          have hb := db_ hb0
          clear hb0
          replace BKg1 := am_ (blk_below (blk_below BKg1.out (by repeat first | exact Below.refl _ _ | apply ba_ | apply bn_ | apply bd_)) hb); replace HB := am_ (below_step (by repeat first | (with_reducible first | exact HB.out | apply ba_ | apply bn_ | apply bd_) | exact HB.out) hb); clear hb
          go_wp2_with fail
          refine (countI_c a b c HV.out _).mono ?_
          rw [HFR.out]
          rintro e w9_ ⟨rfl, hb⟩
          replace BKg1 := am_ (blk_below (blk_below BKg1.out (by repeat first | exact Below.refl _ _ | apply ba_ | apply bn_ | apply bd_)) hb); replace HB := am_ (below_step (by repeat first | (with_reducible first | exact HB.out | apply ba_ | apply bn_ | apply bd_) | exact HB.out) hb); clear hb
          have yg1_0 : w9_.cell? ⟨g1, 0, none⟩ = some (.int .i64 0) := (blk_cell BKg1.out 0).trans rfl; have fg1_0 := blk_frozen BKg1.out 0; have yg1_1 : w9_.cell? ⟨g1, 1, none⟩ = some (.int .i64 0) := (blk_cell BKg1.out 1).trans rfl; have fg1_1 := blk_frozen BKg1.out 1
          go_wp2
          refine bodyPost_ret (results_ct rfl _ _ g1 24 #[.int .i64 n, .int .i64 d] (0, 0) _ rfl (by (with_reducible repeat first | refine kn_ ?_ _ | refine kd_ ?_ | refine ka_ ?_ _); refine blk_put (cs := #[.int .i64 n, .int .i64 0]) ?_ 1 _ rfl; (with_reducible repeat first | refine kn_ ?_ _ | refine kd_ ?_ | refine ka_ ?_ _); refine blk_put (cs := #[.int .i64 0, .int .i64 0]) ?_ 0 _ rfl; (with_reducible repeat first | refine kn_ ?_ _ | refine kd_ ?_ | refine ka_ ?_ _); exact BKg1.out) Try.underlying24 rfl (by kernel_rfl)) rfl ?_
          exact ⟨rfl, (by repeat first | (with_reducible first | exact HB.out | apply ba_ | apply bn_ | apply bd_ | refine below_set ?_ GEg1.out) | exact HB.out)⟩
        · rw [decide_eq_false c3_] at g3_
          have G3 := am_ g3_
          clear g3_
          have hfin : dayCountA a b c = (0, 0, false) := by unfold dayCountA; rw [if_neg (fun v => c3_ v.2.2.2)]
          rw [hfin]
          clear hfin
          have cab_ : decide (b < a) = false := decide_eq_false c2_
          go_enter Try.func106, Try.ntmps106
          go_wp2_with (((with_reducible refine gate_dst (N := 6) rfl ?_); refine box_event ?hg (N := 6) ?hd (cs := #[.int .i64 0,.int .i64 0]) (t := 24) ?hr ?_; (case hd => rfl); (case hg => rfl); (case hr => first | (go_simp; done) | (go_simp; rfl))); intro g1 hg w_g1 hbox hb; have n_ := am_ (below_step (by repeat first | (with_reducible first | exact HB.out | apply ba_ | apply bn_ | apply bd_) | exact HB.out) hb); have BKg1 := am_ hbox; have GEg1 := am_ (show w.heap.size ≤ g1 from by rw [hg]; exact below_size (by repeat first | (with_reducible first | exact HB.out | apply ba_ | apply bn_ | apply bd_) | exact HB.out)); clear HB ; have HB := n_; clear n_ hb hbox hg)
          refine (impl_isDay.calls a true _ G1.out).mono ?_
          rintro e w1_ ⟨rfl, hb0⟩
          have hb := db_ hb0
          clear hb0
          replace BKg1 := am_ (blk_below (blk_below BKg1.out (by repeat first | exact Below.refl _ _ | apply ba_ | apply bn_ | apply bd_)) hb); replace HB := am_ (below_step (by repeat first | (with_reducible first | exact HB.out | apply ba_ | apply bn_ | apply bd_) | exact HB.out) hb); clear hb
          go_wp2_with fail
          refine (impl_isDay.calls b true _ G2.out).mono ?_
          rintro e w2_ ⟨rfl, hb0⟩
          have hb := db_ hb0
          clear hb0
          replace BKg1 := am_ (blk_below (blk_below BKg1.out (by repeat first | exact Below.refl _ _ | apply ba_ | apply bn_ | apply bd_)) hb); replace HB := am_ (below_step (by repeat first | (with_reducible first | exact HB.out | apply ba_ | apply bn_ | apply bd_) | exact HB.out) hb); clear hb
          go_wp2_with fail
          refine (impl_within.calls c 1 4 false _ G3.out).mono ?_
          rintro e w3_ ⟨rfl, hb0⟩
          have hb := db_ hb0
          clear hb0
          replace BKg1 := am_ (blk_below (blk_below BKg1.out (by repeat first | exact Below.refl _ _ | apply ba_ | apply bn_ | apply bd_)) hb); replace HB := am_ (below_step (by repeat first | (with_reducible first | exact HB.out | apply ba_ | apply bn_ | apply bd_) | exact HB.out) hb); clear hb
          have yg1_0 : w3_.cell? ⟨g1, 0, none⟩ = some (.int .i64 0) := (blk_cell BKg1.out 0).trans rfl; have fg1_0 := blk_frozen BKg1.out 0; have yg1_1 : w3_.cell? ⟨g1, 1, none⟩ = some (.int .i64 0) := (blk_cell BKg1.out 1).trans rfl; have fg1_1 := blk_frozen BKg1.out 1
          go_wp2
          refine bodyPost_ret (results_ct rfl _ _ g1 24 #[.int .i64 0, .int .i64 0] (0, 0) _ rfl (by (with_reducible repeat first | refine kn_ ?_ _ | refine kd_ ?_ | refine ka_ ?_ _); refine blk_put (cs := #[.int .i64 0, .int .i64 0]) ?_ 1 _ rfl; (with_reducible repeat first | refine kn_ ?_ _ | refine kd_ ?_ | refine ka_ ?_ _); refine blk_put (cs := #[.int .i64 0, .int .i64 0]) ?_ 0 _ rfl; (with_reducible repeat first | refine kn_ ?_ _ | refine kd_ ?_ | refine ka_ ?_ _); exact BKg1.out) Try.underlying24 rfl (by kernel_rfl)) rfl ?_
          exact ⟨rfl, (by repeat first | (with_reducible first | exact HB.out | apply ba_ | apply bn_ | apply bd_ | refine below_set ?_ GEg1.out) | exact HB.out)⟩
      · have cb2_ : decide (¬ b < a) = false := decide_eq_false c2_
        have hfin : dayCountA a b c = (0, 0, false) := by unfold dayCountA; rw [if_neg (fun v => c2_ (by have := v.2.2.1; omega))]
        rw [hfin]
        clear hfin
        have cab_ : decide (b < a) = true := decide_eq_true (by omega)
        go_enter Try.func106, Try.ntmps106
        go_wp2_with (((with_reducible refine gate_dst (N := 6) rfl ?_); refine box_event ?hg (N := 6) ?hd (cs := #[.int .i64 0,.int .i64 0]) (t := 24) ?hr ?_; (case hd => rfl); (case hg => rfl); (case hr => first | (go_simp; done) | (go_simp; rfl))); intro g1 hg w_g1 hbox hb; have n_ := am_ (below_step (by repeat first | (with_reducible first | exact HB.out | apply ba_ | apply bn_ | apply bd_) | exact HB.out) hb); have BKg1 := am_ hbox; have GEg1 := am_ (show w.heap.size ≤ g1 from by rw [hg]; exact below_size (by repeat first | (with_reducible first | exact HB.out | apply ba_ | apply bn_ | apply bd_) | exact HB.out)); clear HB ; have HB := n_; clear n_ hb hbox hg)
        refine (impl_isDay.calls a true _ G1.out).mono ?_
        rintro e w1_ ⟨rfl, hb0⟩
        have hb := db_ hb0
        clear hb0
        replace BKg1 := am_ (blk_below (blk_below BKg1.out (by repeat first | exact Below.refl _ _ | apply ba_ | apply bn_ | apply bd_)) hb); replace HB := am_ (below_step (by repeat first | (with_reducible first | exact HB.out | apply ba_ | apply bn_ | apply bd_) | exact HB.out) hb); clear hb
        go_wp2_with fail
        refine (impl_isDay.calls b true _ G2.out).mono ?_
        rintro e w2_ ⟨rfl, hb0⟩
        have hb := db_ hb0
        clear hb0
        replace BKg1 := am_ (blk_below (blk_below BKg1.out (by repeat first | exact Below.refl _ _ | apply ba_ | apply bn_ | apply bd_)) hb); replace HB := am_ (below_step (by repeat first | (with_reducible first | exact HB.out | apply ba_ | apply bn_ | apply bd_) | exact HB.out) hb); clear hb
        have yg1_0 : w2_.cell? ⟨g1, 0, none⟩ = some (.int .i64 0) := (blk_cell BKg1.out 0).trans rfl; have fg1_0 := blk_frozen BKg1.out 0; have yg1_1 : w2_.cell? ⟨g1, 1, none⟩ = some (.int .i64 0) := (blk_cell BKg1.out 1).trans rfl; have fg1_1 := blk_frozen BKg1.out 1
        go_wp2
        refine bodyPost_ret (results_ct rfl _ _ g1 24 #[.int .i64 0, .int .i64 0] (0, 0) _ rfl (by (with_reducible repeat first | refine kn_ ?_ _ | refine kd_ ?_ | refine ka_ ?_ _); refine blk_put (cs := #[.int .i64 0, .int .i64 0]) ?_ 1 _ rfl; (with_reducible repeat first | refine kn_ ?_ _ | refine kd_ ?_ | refine ka_ ?_ _); refine blk_put (cs := #[.int .i64 0, .int .i64 0]) ?_ 0 _ rfl; (with_reducible repeat first | refine kn_ ?_ _ | refine kd_ ?_ | refine ka_ ?_ _); exact BKg1.out) Try.underlying24 rfl (by kernel_rfl)) rfl ?_
        exact ⟨rfl, (by repeat first | (with_reducible first | exact HB.out | apply ba_ | apply bn_ | apply bd_ | refine below_set ?_ GEg1.out) | exact HB.out)⟩
    · rw [decide_eq_false c1_] at g1_
      have G2 := am_ g1_
      clear g1_
      have hfin : dayCountA a b c = (0, 0, false) := by unfold dayCountA; rw [if_neg (fun v => c1_ v.2.1)]
      rw [hfin]
      clear hfin
      go_enter Try.func106, Try.ntmps106
      go_wp2_with (((with_reducible refine gate_dst (N := 6) rfl ?_); refine box_event ?hg (N := 6) ?hd (cs := #[.int .i64 0,.int .i64 0]) (t := 24) ?hr ?_; (case hd => rfl); (case hg => rfl); (case hr => first | (go_simp; done) | (go_simp; rfl))); intro g1 hg w_g1 hbox hb; have n_ := am_ (below_step (by repeat first | (with_reducible first | exact HB.out | apply ba_ | apply bn_ | apply bd_) | exact HB.out) hb); have BKg1 := am_ hbox; have GEg1 := am_ (show w.heap.size ≤ g1 from by rw [hg]; exact below_size (by repeat first | (with_reducible first | exact HB.out | apply ba_ | apply bn_ | apply bd_) | exact HB.out)); clear HB ; have HB := n_; clear n_ hb hbox hg)
      refine (impl_isDay.calls a true _ G1.out).mono ?_
      rintro e w1_ ⟨rfl, hb0⟩
      have hb := db_ hb0
      clear hb0
      replace BKg1 := am_ (blk_below (blk_below BKg1.out (by repeat first | exact Below.refl _ _ | apply ba_ | apply bn_ | apply bd_)) hb); replace HB := am_ (below_step (by repeat first | (with_reducible first | exact HB.out | apply ba_ | apply bn_ | apply bd_) | exact HB.out) hb); clear hb
      go_wp2_with fail
      refine (impl_isDay.calls b false _ G2.out).mono ?_
      rintro e w2_ ⟨rfl, hb0⟩
      have hb := db_ hb0
      clear hb0
      replace BKg1 := am_ (blk_below (blk_below BKg1.out (by repeat first | exact Below.refl _ _ | apply ba_ | apply bn_ | apply bd_)) hb); replace HB := am_ (below_step (by repeat first | (with_reducible first | exact HB.out | apply ba_ | apply bn_ | apply bd_) | exact HB.out) hb); clear hb
      have yg1_0 : w2_.cell? ⟨g1, 0, none⟩ = some (.int .i64 0) := (blk_cell BKg1.out 0).trans rfl; have fg1_0 := blk_frozen BKg1.out 0; have yg1_1 : w2_.cell? ⟨g1, 1, none⟩ = some (.int .i64 0) := (blk_cell BKg1.out 1).trans rfl; have fg1_1 := blk_frozen BKg1.out 1
      go_wp2
      refine bodyPost_ret (results_ct rfl _ _ g1 24 #[.int .i64 0, .int .i64 0] (0, 0) _ rfl (by (with_reducible repeat first | refine kn_ ?_ _ | refine kd_ ?_ | refine ka_ ?_ _); refine blk_put (cs := #[.int .i64 0, .int .i64 0]) ?_ 1 _ rfl; (with_reducible repeat first | refine kn_ ?_ _ | refine kd_ ?_ | refine ka_ ?_ _); refine blk_put (cs := #[.int .i64 0, .int .i64 0]) ?_ 0 _ rfl; (with_reducible repeat first | refine kn_ ?_ _ | refine kd_ ?_ | refine ka_ ?_ _); exact BKg1.out) Try.underlying24 rfl (by kernel_rfl)) rfl ?_
      exact ⟨rfl, (by repeat first | (with_reducible first | exact HB.out | apply ba_ | apply bn_ | apply bd_ | refine below_set ?_ GEg1.out) | exact HB.out)⟩
  · rw [decide_eq_false c0_] at g0_
    have G1 := am_ g0_
    clear g0_
    have hfin : dayCountA a b c = (0, 0, false) := by unfold dayCountA; rw [if_neg (fun v => c0_ v.1)]
    rw [hfin]
    clear hfin
    go_enter Try.func106, Try.ntmps106
    go_wp2_with (((with_reducible refine gate_dst (N := 6) rfl ?_); refine box_event ?hg (N := 6) ?hd (cs := #[.int .i64 0,.int .i64 0]) (t := 24) ?hr ?_; (case hd => rfl); (case hg => rfl); (case hr => first | (go_simp; done) | (go_simp; rfl))); intro g1 hg w_g1 hbox hb; have n_ := am_ (below_step (by repeat first | (with_reducible first | exact HB.out | apply ba_ | apply bn_ | apply bd_) | exact HB.out) hb); have BKg1 := am_ hbox; have GEg1 := am_ (show w.heap.size ≤ g1 from by rw [hg]; exact below_size (by repeat first | (with_reducible first | exact HB.out | apply ba_ | apply bn_ | apply bd_) | exact HB.out)); clear HB ; have HB := n_; clear n_ hb hbox hg)
    refine (impl_isDay.calls a false _ G1.out).mono ?_
    rintro e w1_ ⟨rfl, hb0⟩
    have hb := db_ hb0
    clear hb0
    replace BKg1 := am_ (blk_below (blk_below BKg1.out (by repeat first | exact Below.refl _ _ | apply ba_ | apply bn_ | apply bd_)) hb); replace HB := am_ (below_step (by repeat first | (with_reducible first | exact HB.out | apply ba_ | apply bn_ | apply bd_) | exact HB.out) hb); clear hb
    have yg1_0 : w1_.cell? ⟨g1, 0, none⟩ = some (.int .i64 0) := (blk_cell BKg1.out 0).trans rfl; have fg1_0 := blk_frozen BKg1.out 0; have yg1_1 : w1_.cell? ⟨g1, 1, none⟩ = some (.int .i64 0) := (blk_cell BKg1.out 1).trans rfl; have fg1_1 := blk_frozen BKg1.out 1
    go_wp2
    refine bodyPost_ret (results_ct rfl _ _ g1 24 #[.int .i64 0, .int .i64 0] (0, 0) _ rfl (by (with_reducible repeat first | refine kn_ ?_ _ | refine kd_ ?_ | refine ka_ ?_ _); refine blk_put (cs := #[.int .i64 0, .int .i64 0]) ?_ 1 _ rfl; (with_reducible repeat first | refine kn_ ?_ _ | refine kd_ ?_ | refine ka_ ?_ _); refine blk_put (cs := #[.int .i64 0, .int .i64 0]) ?_ 0 _ rfl; (with_reducible repeat first | refine kn_ ?_ _ | refine kd_ ?_ | refine ka_ ?_ _); exact BKg1.out) Try.underlying24 rfl (by kernel_rfl)) rfl ?_
    exact ⟨rfl, (by repeat first | (with_reducible first | exact HB.out | apply ba_ | apply bn_ | apply bd_ | refine below_set ?_ GEg1.out) | exact HB.out)⟩
set_option maxHeartbeats 8000000 in
set_option maxRecDepth 100000 in
theorem growthI_c (n d x y c : Int) (w : World) :
    Calls Try.prog 55 #[.agg #[.int .i64 n, .int .i64 d], .int .i64 x, .int .i64 y, .int .i64 c] w fun e w' => e = .returned (.tuple #[.agg #[.int .i64 (growthA n d x y c).1, .int .i64 (growthA n d x y c).2.1], .bool (growthA n d x y c).2.2]) ∧ Below w.heap.size w w' := by
  have HB := am_ (Below.refl w.heap.size w)
  obtain ⟨DC, hDC⟩ : ∃ F, F = dayCountA x y c := ⟨_, rfl⟩
  have HDC := am_ hDC.symm
  obtain ⟨n1, d1, ok⟩ := DC
  cases ok with
  | false =>
    have hfin : growthA n d x y c = (0, 0, false) := by unfold growthA; rw [← hDC]; rfl
    rw [hfin]
    clear hfin hDC
    go_enter Try.func55, Try.ntmps55
    go_wp2_with (first
      | (((with_reducible refine gate_dst (N := 4) rfl ?_); refine box_event ?hg (N := 4) ?hd (cs := #[.int .i64 n,.int .i64 d]) (t := 24) ?hr ?_; (case hd => rfl); (case hg => rfl); (case hr => first | (go_simp; done) | (go_simp; rfl))); intro g1 hg w_g1 hbox hb; have n_ := am_ (below_step (by repeat first | (with_reducible first | exact HB.out | apply ba_ | apply bn_ | apply bd_) | exact HB.out) hb); have BKg1 := am_ hbox; have GEg1 := am_ (show w.heap.size ≤ g1 from by rw [hg]; exact below_size (by repeat first | (with_reducible first | exact HB.out | apply ba_ | apply bn_ | apply bd_) | exact HB.out)); clear HB ; have HB := n_; clear n_ hb hbox hg)
      | (((with_reducible refine gate_dst (N := 8) rfl ?_); refine box_event ?hg (N := 8) ?hd (cs := #[.int .i64 0,.int .i64 0]) (t := 24) ?hr ?_; (case hd => rfl); (case hg => rfl); (case hr => first | (go_simp; done) | (go_simp; rfl))); intro g2 hg w_g2 hbox hb; have n_ := am_ (below_step (by repeat first | (with_reducible first | exact HB.out | apply ba_ | apply bn_ | apply bd_ | refine below_set ?_ GEg1.out) | exact HB.out) hb); have m_g1 := am_ (blk_below (blk_below BKg1.out (by repeat first | exact Below.refl _ _ | apply ba_ | apply bn_ | apply bd_)) hb); have NEg1_g2 := am_ (show g1 ≠ g2 from by rw [hg]; exact Nat.ne_of_lt (blk_lt (blk_below BKg1.out (by repeat first | exact Below.refl _ _ | apply ba_ | apply bn_ | apply bd_)))); have NEg2_g1 := am_ (Ne.symm NEg1_g2.out); have BKg2 := am_ hbox; have GEg2 := am_ (show w.heap.size ≤ g2 from by rw [hg]; exact below_size (by repeat first | (with_reducible first | exact HB.out | apply ba_ | apply bn_ | apply bd_ | refine below_set ?_ GEg1.out) | exact HB.out)); clear HB BKg1; have HB := n_; clear n_ hb hbox hg; have BKg1 := m_g1; clear m_g1)
      )
    refine (dayCountI_c x y c _).mono ?_
    rw [HDC.out]
    rintro e w1_ ⟨rfl, hb⟩
    replace BKg1 := am_ (blk_below (blk_below BKg1.out (by repeat first | exact Below.refl _ _ | apply ba_ | apply bn_ | apply bd_)) hb); replace BKg2 := am_ (blk_below (blk_below BKg2.out (by repeat first | exact Below.refl _ _ | apply ba_ | apply bn_ | apply bd_)) hb); replace HB := am_ (below_step (by repeat first | (with_reducible first | exact HB.out | apply ba_ | apply bn_ | apply bd_) | exact HB.out) hb); clear hb
    go_wp2_with ((((with_reducible refine gate_dst (N := 10) rfl ?_); refine box_event ?hg (N := 10) ?hd (cs := #[.int .i64 0, .int .i64 0]) (t := 24) ?hr ?_; (case hd => rfl); (case hg => rfl); (case hr => first | (go_simp; done) | (go_simp; rfl))); intro g3 hg w_g3 hbox hb; have n_ := am_ (below_step (by repeat first | (with_reducible first | exact HB.out | apply ba_ | apply bn_ | apply bd_ | refine below_set ?_ GEg1.out | refine below_set ?_ GEg2.out) | exact HB.out) hb); have m_g1 := am_ (blk_below (blk_below BKg1.out (by repeat first | exact Below.refl _ _ | apply ba_ | apply bn_ | apply bd_)) hb); have NEg1_g3 := am_ (show g1 ≠ g3 from by rw [hg]; exact Nat.ne_of_lt (blk_lt (blk_below BKg1.out (by repeat first | exact Below.refl _ _ | apply ba_ | apply bn_ | apply bd_)))); have NEg3_g1 := am_ (Ne.symm NEg1_g3.out); have m_g2 := am_ (blk_below (blk_below BKg2.out (by repeat first | exact Below.refl _ _ | apply ba_ | apply bn_ | apply bd_)) hb); have NEg2_g3 := am_ (show g2 ≠ g3 from by rw [hg]; exact Nat.ne_of_lt (blk_lt (blk_below BKg2.out (by repeat first | exact Below.refl _ _ | apply ba_ | apply bn_ | apply bd_)))); have NEg3_g2 := am_ (Ne.symm NEg2_g3.out); have BKg3 := am_ hbox; have GEg3 := am_ (show w.heap.size ≤ g3 from by rw [hg]; exact below_size (by repeat first | (with_reducible first | exact HB.out | apply ba_ | apply bn_ | apply bd_ | refine below_set ?_ GEg1.out | refine below_set ?_ GEg2.out) | exact HB.out)); clear HB BKg1 BKg2; have HB := n_; clear n_ hb hbox hg; have BKg1 := m_g1; clear m_g1; have BKg2 := m_g2; clear m_g2); have yg2_0 : w_g3.cell? ⟨g2, 0, none⟩ = some (.int .i64 0) := (blk_cell BKg2.out 0).trans rfl; have fg2_0 := blk_frozen BKg2.out 0; have yg2_1 : w_g3.cell? ⟨g2, 1, none⟩ = some (.int .i64 0) := (blk_cell BKg2.out 1).trans rfl; have fg2_1 := blk_frozen BKg2.out 1; have yg3_0 : w_g3.cell? ⟨g3, 0, none⟩ = some (.int .i64 0) := (blk_cell BKg3.out 0).trans rfl; have fg3_0 := blk_frozen BKg3.out 0; have yg3_1 : w_g3.cell? ⟨g3, 1, none⟩ = some (.int .i64 0) := (blk_cell BKg3.out 1).trans rfl; have fg3_1 := blk_frozen BKg3.out 1; have hn1_ := NEg2_g3.out; have hn2_ := NEg3_g2.out)
    refine bodyPost_ret (results_ct rfl _ _ g2 24 #[.int .i64 0, .int .i64 0] (0, 0) _ rfl (by (with_reducible repeat first | refine kn_ ?_ _ | refine kd_ ?_ | refine ka_ ?_ _); refine blk_put (cs := #[.int .i64 0, .int .i64 0]) ?_ 1 _ rfl; (with_reducible repeat first | refine kn_ ?_ _ | refine kd_ ?_ | refine ka_ ?_ _); refine blk_put (cs := #[.int .i64 0, .int .i64 0]) ?_ 0 _ rfl; (with_reducible repeat first | refine kn_ ?_ _ | refine kd_ ?_ | refine ka_ ?_ _ | refine kf_ ?_ NEg2_g3.out _); exact BKg2.out) Try.underlying24 rfl (by kernel_rfl)) rfl ?_
    exact ⟨rfl, (by repeat first | (with_reducible first | exact HB.out | apply ba_ | apply bn_ | apply bd_ | refine below_set ?_ GEg1.out | refine below_set ?_ GEg2.out | refine below_set ?_ GEg3.out) | exact HB.out)⟩
  | true =>
    have hfin : growthA n d x y c = multA n d n1 d1 := by unfold growthA; rw [← hDC]; rfl
    rw [hfin]
    obtain ⟨FR, hFR⟩ : ∃ F, F = multA n d n1 d1 := ⟨_, rfl⟩
    have HFR := am_ hFR.symm
    rw [← hFR]
    obtain ⟨n2, d2, o2⟩ := FR
    clear hFR
    clear hfin hDC
    go_enter Try.func55, Try.ntmps55
    go_wp2_with (first
      | (((with_reducible refine gate_dst (N := 4) rfl ?_); refine box_event ?hg (N := 4) ?hd (cs := #[.int .i64 n,.int .i64 d]) (t := 24) ?hr ?_; (case hd => rfl); (case hg => rfl); (case hr => first | (go_simp; done) | (go_simp; rfl))); intro g1 hg w_g1 hbox hb; have n_ := am_ (below_step (by repeat first | (with_reducible first | exact HB.out | apply ba_ | apply bn_ | apply bd_) | exact HB.out) hb); have BKg1 := am_ hbox; have GEg1 := am_ (show w.heap.size ≤ g1 from by rw [hg]; exact below_size (by repeat first | (with_reducible first | exact HB.out | apply ba_ | apply bn_ | apply bd_) | exact HB.out)); clear HB ; have HB := n_; clear n_ hb hbox hg)
      | (((with_reducible refine gate_dst (N := 8) rfl ?_); refine box_event ?hg (N := 8) ?hd (cs := #[.int .i64 0,.int .i64 0]) (t := 24) ?hr ?_; (case hd => rfl); (case hg => rfl); (case hr => first | (go_simp; done) | (go_simp; rfl))); intro g2 hg w_g2 hbox hb; have n_ := am_ (below_step (by repeat first | (with_reducible first | exact HB.out | apply ba_ | apply bn_ | apply bd_ | refine below_set ?_ GEg1.out) | exact HB.out) hb); have m_g1 := am_ (blk_below (blk_below BKg1.out (by repeat first | exact Below.refl _ _ | apply ba_ | apply bn_ | apply bd_)) hb); have NEg1_g2 := am_ (show g1 ≠ g2 from by rw [hg]; exact Nat.ne_of_lt (blk_lt (blk_below BKg1.out (by repeat first | exact Below.refl _ _ | apply ba_ | apply bn_ | apply bd_)))); have NEg2_g1 := am_ (Ne.symm NEg1_g2.out); have BKg2 := am_ hbox; have GEg2 := am_ (show w.heap.size ≤ g2 from by rw [hg]; exact below_size (by repeat first | (with_reducible first | exact HB.out | apply ba_ | apply bn_ | apply bd_ | refine below_set ?_ GEg1.out) | exact HB.out)); clear HB BKg1; have HB := n_; clear n_ hb hbox hg; have BKg1 := m_g1; clear m_g1)
      )
    refine (dayCountI_c x y c _).mono ?_
    rw [HDC.out]
    rintro e w1_ ⟨rfl, hb⟩
    replace BKg1 := am_ (blk_below (blk_below BKg1.out (by repeat first | exact Below.refl _ _ | apply ba_ | apply bn_ | apply bd_)) hb); replace BKg2 := am_ (blk_below (blk_below BKg2.out (by repeat first | exact Below.refl _ _ | apply ba_ | apply bn_ | apply bd_)) hb); replace HB := am_ (below_step (by repeat first | (with_reducible first | exact HB.out | apply ba_ | apply bn_ | apply bd_) | exact HB.out) hb); clear hb
    go_wp2_with ((((with_reducible refine gate_dst (N := 10) rfl ?_); refine box_event ?hg (N := 10) ?hd (cs := #[.int .i64 0, .int .i64 0]) (t := 24) ?hr ?_; (case hd => rfl); (case hg => rfl); (case hr => first | (go_simp; done) | (go_simp; rfl))); intro g3 hg w_g3 hbox hb; have n_ := am_ (below_step (by repeat first | (with_reducible first | exact HB.out | apply ba_ | apply bn_ | apply bd_ | refine below_set ?_ GEg1.out | refine below_set ?_ GEg2.out) | exact HB.out) hb); have m_g1 := am_ (blk_below (blk_below BKg1.out (by repeat first | exact Below.refl _ _ | apply ba_ | apply bn_ | apply bd_)) hb); have NEg1_g3 := am_ (show g1 ≠ g3 from by rw [hg]; exact Nat.ne_of_lt (blk_lt (blk_below BKg1.out (by repeat first | exact Below.refl _ _ | apply ba_ | apply bn_ | apply bd_)))); have NEg3_g1 := am_ (Ne.symm NEg1_g3.out); have m_g2 := am_ (blk_below (blk_below BKg2.out (by repeat first | exact Below.refl _ _ | apply ba_ | apply bn_ | apply bd_)) hb); have NEg2_g3 := am_ (show g2 ≠ g3 from by rw [hg]; exact Nat.ne_of_lt (blk_lt (blk_below BKg2.out (by repeat first | exact Below.refl _ _ | apply ba_ | apply bn_ | apply bd_)))); have NEg3_g2 := am_ (Ne.symm NEg2_g3.out); have BKg3 := am_ hbox; have GEg3 := am_ (show w.heap.size ≤ g3 from by rw [hg]; exact below_size (by repeat first | (with_reducible first | exact HB.out | apply ba_ | apply bn_ | apply bd_ | refine below_set ?_ GEg1.out | refine below_set ?_ GEg2.out) | exact HB.out)); clear HB BKg1 BKg2; have HB := n_; clear n_ hb hbox hg; have BKg1 := m_g1; clear m_g1; have BKg2 := m_g2; clear m_g2); have yg1_0 : w_g3.cell? ⟨g1, 0, none⟩ = some (.int .i64 n) := (blk_cell BKg1.out 0).trans rfl; have fg1_0 := blk_frozen BKg1.out 0; have yg1_1 : w_g3.cell? ⟨g1, 1, none⟩ = some (.int .i64 d) := (blk_cell BKg1.out 1).trans rfl; have fg1_1 := blk_frozen BKg1.out 1; have yg3_0 : w_g3.cell? ⟨g3, 0, none⟩ = some (.int .i64 0) := (blk_cell BKg3.out 0).trans rfl; have fg3_0 := blk_frozen BKg3.out 0; have yg3_1 : w_g3.cell? ⟨g3, 1, none⟩ = some (.int .i64 0) := (blk_cell BKg3.out 1).trans rfl; have fg3_1 := blk_frozen BKg3.out 1; have hn1_ := NEg1_g3.out; have hn2_ := NEg3_g1.out)
    refine (multI_c n d n1 d1 _).mono ?_
    rw [HFR.out]
    rintro e v1_ ⟨rfl, hb⟩
    have m_g2 := am_ (blk_below (g := g2) (o := .cells #[.int .i64 0, .int .i64 0] 24 (0, 0)) (by repeat (with_reducible first | exact BKg2.out | refine kn_ ?_ _ | refine kd_ ?_ | refine ka_ ?_ _ | refine kf_ ?_ NEg2_g3.out _)) hb)
    have n_ := am_ (below_step (by repeat first | (with_reducible first | exact HB.out | apply ba_ | apply bn_ | apply bd_ | refine below_set ?_ GEg3.out) | exact HB.out) hb)
    clear HB hb BKg2 BKg1 BKg3
    have HB := n_
    clear n_
    have BKg2 := m_g2
    clear m_g2
    have yg2_0 : v1_.cell? ⟨g2, 0, none⟩ = some (.int .i64 0) := (blk_cell BKg2.out 0).trans rfl; have fg2_0 := blk_frozen BKg2.out 0; have yg2_1 : v1_.cell? ⟨g2, 1, none⟩ = some (.int .i64 0) := (blk_cell BKg2.out 1).trans rfl; have fg2_1 := blk_frozen BKg2.out 1
    go_wp2
    refine bodyPost_ret (results_ct rfl _ _ g2 24 #[.int .i64 n2, .int .i64 d2] (0, 0) _ rfl (by (with_reducible repeat first | refine kn_ ?_ _ | refine kd_ ?_ | refine ka_ ?_ _); refine blk_put (cs := #[.int .i64 n2, .int .i64 0]) ?_ 1 _ rfl; (with_reducible repeat first | refine kn_ ?_ _ | refine kd_ ?_ | refine ka_ ?_ _); refine blk_put (cs := #[.int .i64 0, .int .i64 0]) ?_ 0 _ rfl; (with_reducible repeat first | refine kn_ ?_ _ | refine kd_ ?_ | refine ka_ ?_ _); exact BKg2.out) Try.underlying24 rfl (by kernel_rfl)) rfl ?_
    exact ⟨rfl, (by repeat first | (with_reducible first | exact HB.out | apply ba_ | apply bn_ | apply bd_ | refine below_set ?_ GEg1.out | refine below_set ?_ GEg2.out | refine below_set ?_ GEg3.out) | exact HB.out)⟩
set_option maxHeartbeats 8000000 in
set_option maxRecDepth 100000 in
theorem discI_c (n d x y c : Int) (w : World) :
    Calls Try.prog 16 #[.agg #[.int .i64 n, .int .i64 d], .int .i64 x, .int .i64 y, .int .i64 c] w fun e w' => e = .returned (.tuple #[.agg #[.int .i64 (discA n d x y c).1, .int .i64 (discA n d x y c).2.1], .bool (discA n d x y c).2.2]) ∧ Below w.heap.size w w' := by
  have HB := am_ (Below.refl w.heap.size w)
  obtain ⟨kr, hr⟩ := roundsOf (implRate_ev n d)
  have g0_ := hr
  by_cases c0_ : okF n d ∧ 0 ≤ n
  · rw [decide_eq_true c0_] at g0_
    have G1 := am_ g0_
    clear g0_
    obtain ⟨GR, hGR⟩ : ∃ F, F = growthA n d x y c := ⟨_, rfl⟩
    have HGR := am_ hGR.symm
    obtain ⟨n1, d1, ok⟩ := GR
    cases ok with
    | false =>
      have hfin : discA n d x y c = (0, 0, false) := by unfold discA; rw [if_pos c0_, ← hGR]; rfl
      rw [hfin]
      clear hfin hGR
      go_enter Try.func16, Try.ntmps16
      go_wp2_with (first
        | (((with_reducible refine gate_dst (N := 4) rfl ?_); refine box_event ?hg (N := 4) ?hd (cs := #[.int .i64 n,.int .i64 d]) (t := 24) ?hr ?_; (case hd => rfl); (case hg => rfl); (case hr => first | (go_simp; done) | (go_simp; rfl))); intro g1 hg w_g1 hbox hb; have n_ := am_ (below_step (by repeat first | (with_reducible first | exact HB.out | apply ba_ | apply bn_ | apply bd_) | exact HB.out) hb); have BKg1 := am_ hbox; have GEg1 := am_ (show w.heap.size ≤ g1 from by rw [hg]; exact below_size (by repeat first | (with_reducible first | exact HB.out | apply ba_ | apply bn_ | apply bd_) | exact HB.out)); clear HB ; have HB := n_; clear n_ hb hbox hg)
        | ((((with_reducible refine gate_dst (N := 8) rfl ?_); refine box_event ?hg (N := 8) ?hd (cs := #[.int .i64 0,.int .i64 0]) (t := 24) ?hr ?_; (case hd => rfl); (case hg => rfl); (case hr => first | (go_simp; done) | (go_simp; rfl))); intro g2 hg w_g2 hbox hb; have n_ := am_ (below_step (by repeat first | (with_reducible first | exact HB.out | apply ba_ | apply bn_ | apply bd_ | refine below_set ?_ GEg1.out) | exact HB.out) hb); have m_g1 := am_ (blk_below (blk_below BKg1.out (by repeat first | exact Below.refl _ _ | apply ba_ | apply bn_ | apply bd_)) hb); have NEg1_g2 := am_ (show g1 ≠ g2 from by rw [hg]; exact Nat.ne_of_lt (blk_lt (blk_below BKg1.out (by repeat first | exact Below.refl _ _ | apply ba_ | apply bn_ | apply bd_)))); have NEg2_g1 := am_ (Ne.symm NEg1_g2.out); have BKg2 := am_ hbox; have GEg2 := am_ (show w.heap.size ≤ g2 from by rw [hg]; exact below_size (by repeat first | (with_reducible first | exact HB.out | apply ba_ | apply bn_ | apply bd_ | refine below_set ?_ GEg1.out) | exact HB.out)); clear HB BKg1; have HB := n_; clear n_ hb hbox hg; have BKg1 := m_g1; clear m_g1); have yg1_0 : w_g2.cell? ⟨g1, 0, none⟩ = some (.int .i64 n) := (blk_cell BKg1.out 0).trans rfl; have fg1_0 := blk_frozen BKg1.out 0; have yg1_1 : w_g2.cell? ⟨g1, 1, none⟩ = some (.int .i64 d) := (blk_cell BKg1.out 1).trans rfl; have fg1_1 := blk_frozen BKg1.out 1)
        )
      clear yg1_0 fg1_0 yg1_1 fg1_1
      refine (impl_isRate.calls kr n d true _ G1.out).mono ?_
      rintro e w1_ ⟨rfl, hb⟩
      replace BKg1 := am_ (blk_below (blk_below BKg1.out (by repeat first | exact Below.refl _ _ | apply ba_ | apply bn_ | apply bd_)) hb); replace BKg2 := am_ (blk_below (blk_below BKg2.out (by repeat first | exact Below.refl _ _ | apply ba_ | apply bn_ | apply bd_)) hb); replace HB := am_ (below_step (by repeat first | (with_reducible first | exact HB.out | apply ba_ | apply bn_ | apply bd_) | exact HB.out) hb); clear hb
      have yg1_0 : w1_.cell? ⟨g1, 0, none⟩ = some (.int .i64 n) := (blk_cell BKg1.out 0).trans rfl; have fg1_0 := blk_frozen BKg1.out 0; have yg1_1 : w1_.cell? ⟨g1, 1, none⟩ = some (.int .i64 d) := (blk_cell BKg1.out 1).trans rfl; have fg1_1 := blk_frozen BKg1.out 1
      go_wp2_with fail
      clear yg1_0 fg1_0 yg1_1 fg1_1
      refine (growthI_c n d x y c _).mono ?_
      rw [HGR.out]
      rintro e w1_ ⟨rfl, hb⟩
      replace BKg1 := am_ (blk_below (blk_below BKg1.out (by repeat first | exact Below.refl _ _ | apply ba_ | apply bn_ | apply bd_)) hb); replace BKg2 := am_ (blk_below (blk_below BKg2.out (by repeat first | exact Below.refl _ _ | apply ba_ | apply bn_ | apply bd_)) hb); replace HB := am_ (below_step (by repeat first | (with_reducible first | exact HB.out | apply ba_ | apply bn_ | apply bd_) | exact HB.out) hb); clear hb
      go_wp2_with ((((with_reducible refine gate_dst (N := 10) rfl ?_); refine box_event ?hg (N := 10) ?hd (cs := #[.int .i64 0, .int .i64 0]) (t := 24) ?hr ?_; (case hd => rfl); (case hg => rfl); (case hr => first | (go_simp; done) | (go_simp; rfl))); intro g3 hg w_g3 hbox hb; have n_ := am_ (below_step (by repeat first | (with_reducible first | exact HB.out | apply ba_ | apply bn_ | apply bd_ | refine below_set ?_ GEg1.out | refine below_set ?_ GEg2.out) | exact HB.out) hb); have m_g1 := am_ (blk_below (blk_below BKg1.out (by repeat first | exact Below.refl _ _ | apply ba_ | apply bn_ | apply bd_)) hb); have NEg1_g3 := am_ (show g1 ≠ g3 from by rw [hg]; exact Nat.ne_of_lt (blk_lt (blk_below BKg1.out (by repeat first | exact Below.refl _ _ | apply ba_ | apply bn_ | apply bd_)))); have NEg3_g1 := am_ (Ne.symm NEg1_g3.out); have m_g2 := am_ (blk_below (blk_below BKg2.out (by repeat first | exact Below.refl _ _ | apply ba_ | apply bn_ | apply bd_)) hb); have NEg2_g3 := am_ (show g2 ≠ g3 from by rw [hg]; exact Nat.ne_of_lt (blk_lt (blk_below BKg2.out (by repeat first | exact Below.refl _ _ | apply ba_ | apply bn_ | apply bd_)))); have NEg3_g2 := am_ (Ne.symm NEg2_g3.out); have BKg3 := am_ hbox; have GEg3 := am_ (show w.heap.size ≤ g3 from by rw [hg]; exact below_size (by repeat first | (with_reducible first | exact HB.out | apply ba_ | apply bn_ | apply bd_ | refine below_set ?_ GEg1.out | refine below_set ?_ GEg2.out) | exact HB.out)); clear HB BKg1 BKg2; have HB := n_; clear n_ hb hbox hg; have BKg1 := m_g1; clear m_g1; have BKg2 := m_g2; clear m_g2); have yg2_0 : w_g3.cell? ⟨g2, 0, none⟩ = some (.int .i64 0) := (blk_cell BKg2.out 0).trans rfl; have fg2_0 := blk_frozen BKg2.out 0; have yg2_1 : w_g3.cell? ⟨g2, 1, none⟩ = some (.int .i64 0) := (blk_cell BKg2.out 1).trans rfl; have fg2_1 := blk_frozen BKg2.out 1; have yg3_0 : w_g3.cell? ⟨g3, 0, none⟩ = some (.int .i64 0) := (blk_cell BKg3.out 0).trans rfl; have fg3_0 := blk_frozen BKg3.out 0; have yg3_1 : w_g3.cell? ⟨g3, 1, none⟩ = some (.int .i64 0) := (blk_cell BKg3.out 1).trans rfl; have fg3_1 := blk_frozen BKg3.out 1; have hn1_ := NEg2_g3.out; have hn2_ := NEg3_g2.out)
      refine bodyPost_ret (results_ct rfl _ _ g2 24 #[.int .i64 0, .int .i64 0] (0, 0) _ rfl (by (with_reducible repeat first | refine kn_ ?_ _ | refine kd_ ?_ | refine ka_ ?_ _); refine blk_put (cs := #[.int .i64 0, .int .i64 0]) ?_ 1 _ rfl; (with_reducible repeat first | refine kn_ ?_ _ | refine kd_ ?_ | refine ka_ ?_ _); refine blk_put (cs := #[.int .i64 0, .int .i64 0]) ?_ 0 _ rfl; (with_reducible repeat first | refine kn_ ?_ _ | refine kd_ ?_ | refine ka_ ?_ _ | refine kf_ ?_ NEg2_g3.out _); exact BKg2.out) Try.underlying24 rfl (by kernel_rfl)) rfl ?_
      exact ⟨rfl, (by repeat first | (with_reducible first | exact HB.out | apply ba_ | apply bn_ | apply bd_ | refine below_set ?_ GEg1.out | refine below_set ?_ GEg2.out | refine below_set ?_ GEg3.out) | exact HB.out)⟩
    | true =>
      have hfin : discA n d x y c = fracA d1 (d1 + n1) := by unfold discA; rw [if_pos c0_, ← hGR]; rfl
      rw [hfin]
      have hgo := growth_ok n d x y c c0_.2 (by rw [← hGR])
      rw [← hGR] at hgo
      obtain ⟨⟨hd1, hn1, _⟩, hn0⟩ := hgo
      simp only at hd1 hn1 hn0
      obtain ⟨FR, hFR⟩ : ∃ F, F = fracA d1 (d1 + n1) := ⟨_, rfl⟩
      have HFR := am_ hFR.symm
      rw [← hFR]
      obtain ⟨n2, d2, o2⟩ := FR
      clear hFR
      have HPA := am_ (show d1.natAbs ≤ 4000000000000000000 ∧ (d1 + n1).natAbs ≤ 4000000000000000000 ∧ d1 + n1 ≠ 0 from by omega)
      clear hfin hGR
      go_enter Try.func16, Try.ntmps16
      go_wp2_with (first
        | (((with_reducible refine gate_dst (N := 4) rfl ?_); refine box_event ?hg (N := 4) ?hd (cs := #[.int .i64 n,.int .i64 d]) (t := 24) ?hr ?_; (case hd => rfl); (case hg => rfl); (case hr => first | (go_simp; done) | (go_simp; rfl))); intro g1 hg w_g1 hbox hb; have n_ := am_ (below_step (by repeat first | (with_reducible first | exact HB.out | apply ba_ | apply bn_ | apply bd_) | exact HB.out) hb); have BKg1 := am_ hbox; have GEg1 := am_ (show w.heap.size ≤ g1 from by rw [hg]; exact below_size (by repeat first | (with_reducible first | exact HB.out | apply ba_ | apply bn_ | apply bd_) | exact HB.out)); clear HB ; have HB := n_; clear n_ hb hbox hg)
        | ((((with_reducible refine gate_dst (N := 8) rfl ?_); refine box_event ?hg (N := 8) ?hd (cs := #[.int .i64 0,.int .i64 0]) (t := 24) ?hr ?_; (case hd => rfl); (case hg => rfl); (case hr => first | (go_simp; done) | (go_simp; rfl))); intro g2 hg w_g2 hbox hb; have n_ := am_ (below_step (by repeat first | (with_reducible first | exact HB.out | apply ba_ | apply bn_ | apply bd_ | refine below_set ?_ GEg1.out) | exact HB.out) hb); have m_g1 := am_ (blk_below (blk_below BKg1.out (by repeat first | exact Below.refl _ _ | apply ba_ | apply bn_ | apply bd_)) hb); have NEg1_g2 := am_ (show g1 ≠ g2 from by rw [hg]; exact Nat.ne_of_lt (blk_lt (blk_below BKg1.out (by repeat first | exact Below.refl _ _ | apply ba_ | apply bn_ | apply bd_)))); have NEg2_g1 := am_ (Ne.symm NEg1_g2.out); have BKg2 := am_ hbox; have GEg2 := am_ (show w.heap.size ≤ g2 from by rw [hg]; exact below_size (by repeat first | (with_reducible first | exact HB.out | apply ba_ | apply bn_ | apply bd_ | refine below_set ?_ GEg1.out) | exact HB.out)); clear HB BKg1; have HB := n_; clear n_ hb hbox hg; have BKg1 := m_g1; clear m_g1); have yg1_0 : w_g2.cell? ⟨g1, 0, none⟩ = some (.int .i64 n) := (blk_cell BKg1.out 0).trans rfl; have fg1_0 := blk_frozen BKg1.out 0; have yg1_1 : w_g2.cell? ⟨g1, 1, none⟩ = some (.int .i64 d) := (blk_cell BKg1.out 1).trans rfl; have fg1_1 := blk_frozen BKg1.out 1)
        )
      clear yg1_0 fg1_0 yg1_1 fg1_1
      refine (impl_isRate.calls kr n d true _ G1.out).mono ?_
      rintro e w1_ ⟨rfl, hb⟩
      replace BKg1 := am_ (blk_below (blk_below BKg1.out (by repeat first | exact Below.refl _ _ | apply ba_ | apply bn_ | apply bd_)) hb); replace BKg2 := am_ (blk_below (blk_below BKg2.out (by repeat first | exact Below.refl _ _ | apply ba_ | apply bn_ | apply bd_)) hb); replace HB := am_ (below_step (by repeat first | (with_reducible first | exact HB.out | apply ba_ | apply bn_ | apply bd_) | exact HB.out) hb); clear hb
      have yg1_0 : w1_.cell? ⟨g1, 0, none⟩ = some (.int .i64 n) := (blk_cell BKg1.out 0).trans rfl; have fg1_0 := blk_frozen BKg1.out 0; have yg1_1 : w1_.cell? ⟨g1, 1, none⟩ = some (.int .i64 d) := (blk_cell BKg1.out 1).trans rfl; have fg1_1 := blk_frozen BKg1.out 1
      go_wp2_with fail
      clear yg1_0 fg1_0 yg1_1 fg1_1
      refine (growthI_c n d x y c _).mono ?_
      rw [HGR.out]
      rintro e w1_ ⟨rfl, hb⟩
      replace BKg1 := am_ (blk_below (blk_below BKg1.out (by repeat first | exact Below.refl _ _ | apply ba_ | apply bn_ | apply bd_)) hb); replace BKg2 := am_ (blk_below (blk_below BKg2.out (by repeat first | exact Below.refl _ _ | apply ba_ | apply bn_ | apply bd_)) hb); replace HB := am_ (below_step (by repeat first | (with_reducible first | exact HB.out | apply ba_ | apply bn_ | apply bd_) | exact HB.out) hb); clear hb
      go_wp2_with ((((with_reducible refine gate_dst (N := 10) rfl ?_); refine box_event ?hg (N := 10) ?hd (cs := #[.int .i64 0, .int .i64 0]) (t := 24) ?hr ?_; (case hd => rfl); (case hg => rfl); (case hr => first | (go_simp; done) | (go_simp; rfl))); intro g3 hg w_g3 hbox hb; have n_ := am_ (below_step (by repeat first | (with_reducible first | exact HB.out | apply ba_ | apply bn_ | apply bd_ | refine below_set ?_ GEg1.out | refine below_set ?_ GEg2.out) | exact HB.out) hb); have m_g1 := am_ (blk_below (blk_below BKg1.out (by repeat first | exact Below.refl _ _ | apply ba_ | apply bn_ | apply bd_)) hb); have NEg1_g3 := am_ (show g1 ≠ g3 from by rw [hg]; exact Nat.ne_of_lt (blk_lt (blk_below BKg1.out (by repeat first | exact Below.refl _ _ | apply ba_ | apply bn_ | apply bd_)))); have NEg3_g1 := am_ (Ne.symm NEg1_g3.out); have m_g2 := am_ (blk_below (blk_below BKg2.out (by repeat first | exact Below.refl _ _ | apply ba_ | apply bn_ | apply bd_)) hb); have NEg2_g3 := am_ (show g2 ≠ g3 from by rw [hg]; exact Nat.ne_of_lt (blk_lt (blk_below BKg2.out (by repeat first | exact Below.refl _ _ | apply ba_ | apply bn_ | apply bd_)))); have NEg3_g2 := am_ (Ne.symm NEg2_g3.out); have BKg3 := am_ hbox; have GEg3 := am_ (show w.heap.size ≤ g3 from by rw [hg]; exact below_size (by repeat first | (with_reducible first | exact HB.out | apply ba_ | apply bn_ | apply bd_ | refine below_set ?_ GEg1.out | refine below_set ?_ GEg2.out) | exact HB.out)); clear HB BKg1 BKg2; have HB := n_; clear n_ hb hbox hg; have BKg1 := m_g1; clear m_g1; have BKg2 := m_g2; clear m_g2); have yg3_0 : w_g3.cell? ⟨g3, 0, none⟩ = some (.int .i64 0) := (blk_cell BKg3.out 0).trans rfl; have fg3_0 := blk_frozen BKg3.out 0; have yg3_1 : w_g3.cell? ⟨g3, 1, none⟩ = some (.int .i64 0) := (blk_cell BKg3.out 1).trans rfl; have fg3_1 := blk_frozen BKg3.out 1)
      refine (fracI_c d1 (d1 + n1) HPA.out.1 HPA.out.2.1 HPA.out.2.2 _).mono ?_
      rw [HFR.out]
      rintro e v2_ ⟨rfl, hb⟩
      have m_g2 := am_ (blk_below (g := g2) (o := .cells #[.int .i64 0, .int .i64 0] 24 (0, 0)) (by repeat (with_reducible first | exact BKg2.out | refine kn_ ?_ _ | refine kd_ ?_ | refine ka_ ?_ _ | refine kf_ ?_ NEg2_g3.out _)) hb)
      have n_ := am_ (below_step (by repeat first | (with_reducible first | exact HB.out | apply ba_ | apply bn_ | apply bd_ | refine below_set ?_ GEg3.out) | exact HB.out) hb)
      clear HB hb BKg2 BKg1 BKg3
      have HB := n_
      clear n_
      have BKg2 := m_g2
      clear m_g2
      have yg2_0 : v2_.cell? ⟨g2, 0, none⟩ = some (.int .i64 0) := (blk_cell BKg2.out 0).trans rfl; have fg2_0 := blk_frozen BKg2.out 0; have yg2_1 : v2_.cell? ⟨g2, 1, none⟩ = some (.int .i64 0) := (blk_cell BKg2.out 1).trans rfl; have fg2_1 := blk_frozen BKg2.out 1
      go_wp2
      refine bodyPost_ret (results_ct rfl _ _ g2 24 #[.int .i64 n2, .int .i64 d2] (0, 0) _ rfl (by (with_reducible repeat first | refine kn_ ?_ _ | refine kd_ ?_ | refine ka_ ?_ _); refine blk_put (cs := #[.int .i64 n2, .int .i64 0]) ?_ 1 _ rfl; (with_reducible repeat first | refine kn_ ?_ _ | refine kd_ ?_ | refine ka_ ?_ _); refine blk_put (cs := #[.int .i64 0, .int .i64 0]) ?_ 0 _ rfl; (with_reducible repeat first | refine kn_ ?_ _ | refine kd_ ?_ | refine ka_ ?_ _); exact BKg2.out) Try.underlying24 rfl (by kernel_rfl)) rfl ?_
      exact ⟨rfl, (by repeat first | (with_reducible first | exact HB.out | apply ba_ | apply bn_ | apply bd_ | refine below_set ?_ GEg1.out | refine below_set ?_ GEg2.out | refine below_set ?_ GEg3.out) | exact HB.out)⟩
  · rw [decide_eq_false c0_] at g0_
    have G1 := am_ g0_
    clear g0_
    have hfin : discA n d x y c = (0, 0, false) := by unfold discA; rw [if_neg (fun v => c0_ v)]
    rw [hfin]
    clear hfin
    go_enter Try.func16, Try.ntmps16
    go_wp2_with (first
      | (((with_reducible refine gate_dst (N := 4) rfl ?_); refine box_event ?hg (N := 4) ?hd (cs := #[.int .i64 n,.int .i64 d]) (t := 24) ?hr ?_; (case hd => rfl); (case hg => rfl); (case hr => first | (go_simp; done) | (go_simp; rfl))); intro g1 hg w_g1 hbox hb; have n_ := am_ (below_step (by repeat first | (with_reducible first | exact HB.out | apply ba_ | apply bn_ | apply bd_) | exact HB.out) hb); have BKg1 := am_ hbox; have GEg1 := am_ (show w.heap.size ≤ g1 from by rw [hg]; exact below_size (by repeat first | (with_reducible first | exact HB.out | apply ba_ | apply bn_ | apply bd_) | exact HB.out)); clear HB ; have HB := n_; clear n_ hb hbox hg)
      | ((((with_reducible refine gate_dst (N := 8) rfl ?_); refine box_event ?hg (N := 8) ?hd (cs := #[.int .i64 0,.int .i64 0]) (t := 24) ?hr ?_; (case hd => rfl); (case hg => rfl); (case hr => first | (go_simp; done) | (go_simp; rfl))); intro g2 hg w_g2 hbox hb; have n_ := am_ (below_step (by repeat first | (with_reducible first | exact HB.out | apply ba_ | apply bn_ | apply bd_ | refine below_set ?_ GEg1.out) | exact HB.out) hb); have m_g1 := am_ (blk_below (blk_below BKg1.out (by repeat first | exact Below.refl _ _ | apply ba_ | apply bn_ | apply bd_)) hb); have NEg1_g2 := am_ (show g1 ≠ g2 from by rw [hg]; exact Nat.ne_of_lt (blk_lt (blk_below BKg1.out (by repeat first | exact Below.refl _ _ | apply ba_ | apply bn_ | apply bd_)))); have NEg2_g1 := am_ (Ne.symm NEg1_g2.out); have BKg2 := am_ hbox; have GEg2 := am_ (show w.heap.size ≤ g2 from by rw [hg]; exact below_size (by repeat first | (with_reducible first | exact HB.out | apply ba_ | apply bn_ | apply bd_ | refine below_set ?_ GEg1.out) | exact HB.out)); clear HB BKg1; have HB := n_; clear n_ hb hbox hg; have BKg1 := m_g1; clear m_g1); have yg1_0 : w_g2.cell? ⟨g1, 0, none⟩ = some (.int .i64 n) := (blk_cell BKg1.out 0).trans rfl; have fg1_0 := blk_frozen BKg1.out 0; have yg1_1 : w_g2.cell? ⟨g1, 1, none⟩ = some (.int .i64 d) := (blk_cell BKg1.out 1).trans rfl; have fg1_1 := blk_frozen BKg1.out 1)
      )
    clear yg1_0 fg1_0 yg1_1 fg1_1
    refine (impl_isRate.calls kr n d false _ G1.out).mono ?_
    rintro e w1_ ⟨rfl, hb⟩
    replace BKg1 := am_ (blk_below (blk_below BKg1.out (by repeat first | exact Below.refl _ _ | apply ba_ | apply bn_ | apply bd_)) hb); replace BKg2 := am_ (blk_below (blk_below BKg2.out (by repeat first | exact Below.refl _ _ | apply ba_ | apply bn_ | apply bd_)) hb); replace HB := am_ (below_step (by repeat first | (with_reducible first | exact HB.out | apply ba_ | apply bn_ | apply bd_) | exact HB.out) hb); clear hb
    have yg2_0 : w1_.cell? ⟨g2, 0, none⟩ = some (.int .i64 0) := (blk_cell BKg2.out 0).trans rfl; have fg2_0 := blk_frozen BKg2.out 0; have yg2_1 : w1_.cell? ⟨g2, 1, none⟩ = some (.int .i64 0) := (blk_cell BKg2.out 1).trans rfl; have fg2_1 := blk_frozen BKg2.out 1
    go_wp2
    refine bodyPost_ret (results_ct rfl _ _ g2 24 #[.int .i64 0, .int .i64 0] (0, 0) _ rfl (by (with_reducible repeat first | refine kn_ ?_ _ | refine kd_ ?_ | refine ka_ ?_ _); refine blk_put (cs := #[.int .i64 0, .int .i64 0]) ?_ 1 _ rfl; (with_reducible repeat first | refine kn_ ?_ _ | refine kd_ ?_ | refine ka_ ?_ _); refine blk_put (cs := #[.int .i64 0, .int .i64 0]) ?_ 0 _ rfl; (with_reducible repeat first | refine kn_ ?_ _ | refine kd_ ?_ | refine ka_ ?_ _); exact BKg2.out) Try.underlying24 rfl (by kernel_rfl)) rfl ?_
    exact ⟨rfl, (by repeat first | (with_reducible first | exact HB.out | apply ba_ | apply bn_ | apply bd_ | refine below_set ?_ GEg1.out | refine below_set ?_ GEg2.out) | exact HB.out)⟩
set_option maxHeartbeats 8000000 in
set_option maxRecDepth 100000 in
theorem presS_c (A0 : Option Addr) (c0 : Nat) (xs : List Int) (A1 : Option Addr) (c1 : Nat) (ys : List Int) (t0 n d c mode : Int) (hn : xs.length ≤ 1048576) (w : World) (hr0 : (Kd.int .i64).C w A0 xs.length xs) (hc0 : xs.length ≤ c0) (ha0 : 0 < xs.length → ∃ b, A0 = some ⟨b, 0, none⟩) (hr1 : (Kd.int .i64).C w A1 ys.length ys) (ha1 : 0 < ys.length → ∃ b, A1 = some ⟨b, 0, none⟩) :
    Calls Try.prog 26 #[.slice A0 xs.length c0, .slice A1 ys.length c1, .int .i64 t0, .agg #[.int .i64 n, .int .i64 d], .int .i64 c, .int .i64 mode] w fun e w' => e = .returned (.tuple #[.int .i64 (presA xs ys t0 n d c mode).1, .bool (presA xs ys t0 n d c mode).2]) ∧ Below w.heap.size w w' := by
  have HB := am_ (Below.refl w.heap.size w)
  have HR0 := am_ hr0
  have HC0 := am_ hc0
  have HA0 := am_ ha0
  have HR1 := am_ hr1
  have HA1 := am_ ha1
  clear hr0 hc0 ha0 hr1 ha1
  obtain ⟨ka, ham⟩ := roundsOf (specAms_ev xs hn)
  obtain ⟨kr, hr⟩ := roundsOf (specRate_ev n d)
  have g0_ := ham
  by_cases c0_ : okAm xs
  · rw [decide_eq_true c0_] at g0_
    have G1 := am_ g0_
    clear g0_
    by_cases c1_ : ys.length = xs.length
    · have cb1_ : decide (ys.length = xs.length) = true := decide_eq_true c1_
      have g2_ := l3Good_eq t0
      by_cases c2_ : 0 ≤ t0 ∧ t0 ≤ 36524
      · rw [decide_eq_true c2_] at g2_
        have G3 := am_ g2_
        clear g2_
        have g3_ := hr
        by_cases c3_ : okF n d ∧ 0 ≤ n
        · rw [decide_eq_true c3_] at g3_
          have G4 := am_ g3_
          clear g3_
          have g4_ := l1In_eq c 1 4
          by_cases c4_ : 1 ≤ c ∧ c ≤ 4
          · rw [decide_eq_true c4_] at g4_
            have G5 := am_ g4_
            clear g4_
            have g5_ := l1In_eq mode 1 4
            by_cases c5_ : 1 ≤ mode ∧ mode ≤ 4
            · rw [decide_eq_true c5_] at g5_
              have G6 := am_ g5_
              clear g5_
              have hfin : presA xs ys t0 n d c mode = pvL n d t0 c mode xs ys 0 := by unfold presA; rw [if_pos ⟨c0_, c1_, c2_, c3_, c4_, c5_⟩]
              rw [hfin]
              have hlq : ((ys.length : Int) = (xs.length : Int)) := by omega
              obtain ⟨FIN, hFIN⟩ : ∃ F, F = pvL n d t0 c mode xs ys 0 := ⟨_, rfl⟩
              rw [← hFIN]
              have HFIN := am_ (show pvL n d t0 c mode (xs.drop 0) (ys.drop 0) 0 = FIN from hFIN.symm)
              have HLQ := am_ c1_
              have h20 : xs.length ≤ 20 := c0_.1
              have hy20 : ys.length ≤ 20 := by omega
              clear hfin hFIN c1_ hn hr
              go_enter Try.func26, Try.ntmps26
              go_wp2_with (((with_reducible refine gate_dst (N := 9) rfl ?_); refine box_event ?hg (N := 9) ?hd (cs := #[.int .i64 n,.int .i64 d]) (t := 24) ?hr ?_; (case hd => rfl); (case hg => rfl); (case hr => first | (go_simp; done) | (go_simp; rfl))); intro g1 hg w_g1 hbox hb; have n_ := am_ (below_step (by repeat first | (with_reducible first | exact HB.out | apply ba_ | apply bn_ | apply bd_) | exact HB.out) hb); have BKg1 := am_ hbox; have GEg1 := am_ (show w.heap.size ≤ g1 from by rw [hg]; exact below_size (by repeat first | (with_reducible first | exact HB.out | apply ba_ | apply bn_ | apply bd_) | exact HB.out)); clear HB ; have HB := n_; clear n_ hb hbox hg)
              refine (spec_l2Amounts.calls ka _ _ xs true _ (by repeat first | exact (Kd.C_below HR0.out HB.out) | with_reducible refine ca_ ?_ _ | with_reducible refine cn_ ?_ _ | with_reducible refine cd_ ?_) HC0.out G1.out).mono ?_
              rintro e w1_ ⟨rfl, hb0⟩
              have hb := db_ hb0
              clear hb0
              replace BKg1 := am_ (blk_below (blk_below BKg1.out (by repeat first | exact Below.refl _ _ | apply ba_ | apply bn_ | apply bd_)) hb); replace HB := am_ (below_step (by repeat first | (with_reducible first | exact HB.out | apply ba_ | apply bn_ | apply bd_) | exact HB.out) hb); clear hb
              go_wp2_with fail
              refine (spec_l3Good.calls t0 true _ G3.out).mono ?_
              rintro e w2_ ⟨rfl, hb0⟩
              have hb := db_ hb0
              clear hb0
              replace BKg1 := am_ (blk_below (blk_below BKg1.out (by repeat first | exact Below.refl _ _ | apply ba_ | apply bn_ | apply bd_)) hb); replace HB := am_ (below_step (by repeat first | (with_reducible first | exact HB.out | apply ba_ | apply bn_ | apply bd_) | exact HB.out) hb); clear hb
              have yg1_0 : w2_.cell? ⟨g1, 0, none⟩ = some (.int .i64 n) := (blk_cell BKg1.out 0).trans rfl; have fg1_0 := blk_frozen BKg1.out 0; have yg1_1 : w2_.cell? ⟨g1, 1, none⟩ = some (.int .i64 d) := (blk_cell BKg1.out 1).trans rfl; have fg1_1 := blk_frozen BKg1.out 1
              go_wp2_with fail
              clear yg1_0 fg1_0 yg1_1 fg1_1
              refine (spec_l15Rate.calls kr n d true _ G4.out).mono ?_
              rintro e w3_ ⟨rfl, hb⟩
              replace BKg1 := am_ (blk_below (blk_below BKg1.out (by repeat first | exact Below.refl _ _ | apply ba_ | apply bn_ | apply bd_)) hb); replace HB := am_ (below_step (by repeat first | (with_reducible first | exact HB.out | apply ba_ | apply bn_ | apply bd_) | exact HB.out) hb); clear hb
              go_wp2_with fail
              refine (spec_l1In.calls c 1 4 true _ G5.out).mono ?_
              rintro e w4_ ⟨rfl, hb0⟩
              have hb := db_ hb0
              clear hb0
              replace BKg1 := am_ (blk_below (blk_below BKg1.out (by repeat first | exact Below.refl _ _ | apply ba_ | apply bn_ | apply bd_)) hb); replace HB := am_ (below_step (by repeat first | (with_reducible first | exact HB.out | apply ba_ | apply bn_ | apply bd_) | exact HB.out) hb); clear hb
              go_wp2_with fail
              refine (spec_l1In.calls mode 1 4 true _ G6.out).mono ?_
              rintro e w5_ ⟨rfl, hb0⟩
              have hb := db_ hb0
              clear hb0
              replace BKg1 := am_ (blk_below (blk_below BKg1.out (by repeat first | exact Below.refl _ _ | apply ba_ | apply bn_ | apply bd_)) hb); replace HB := am_ (below_step (by repeat first | (with_reducible first | exact HB.out | apply ba_ | apply bn_ | apply bd_) | exact HB.out) hb); clear hb
              go_wp2
              go_loopg [14, 15] xs.length (fun kq v14 v15 wr => ∃ (i : Nat) (s : Int), v14 = .int .i64 s ∧ v15 = .int .i64 i ∧ Aside0 (i + kq = xs.length) ∧ Aside0 (-1000000000 * (i : Int) ≤ s ∧ s ≤ 1000000000 * (i : Int)) ∧ Aside0 (pvL n d t0 c mode (xs.drop i) (ys.drop i) s = FIN) ∧ Aside0 (wr.heap[g1]? = some (.cells #[.int .i64 n, .int .i64 d] 24 (0, 0))) ∧ Aside0 (Below w.heap.size w wr))
              case atStart => exact ⟨0, 0, rfl, rfl, ⟨Nat.zero_add _⟩, ⟨by omega, by omega⟩, HFIN, ⟨(by (with_reducible repeat first | refine kn_ ?_ _ | refine kd_ ?_ | refine ka_ ?_ _); exact BKg1.out)⟩, ⟨(by repeat first | (with_reducible first | exact HB.out | apply ba_ | apply bn_ | apply bd_) | exact HB.out)⟩⟩
              case round =>
                clear HFIN HB BKg1
                obtain ⟨i, s, rfl, rfl, HI, HS, HFIN, BKg1, HB⟩ := hrel
                by_cases hil : i < xs.length
                · have ci : decide (i < xs.length) = true := decide_eq_true hil
                  have hiy : i < ys.length := by have := HLQ.out; omega
                  obtain ⟨b0, e0⟩ := HA0.out (by omega)
                  subst e0
                  obtain ⟨b1, e1⟩ := HA1.out (by omega)
                  subst e1
                  have hcx := cellsOfD HR0.out i hil
                  have hcy := cellsOfD HR1.out i hiy
                  rw [Nat.zero_add] at hcx hcy
                  obtain ⟨x, hx⟩ : ∃ x, x = xs.getD i 0 := ⟨_, rfl⟩
                  obtain ⟨y, hy⟩ : ∃ y, y = ys.getD i 0 := ⟨_, rfl⟩
                  rw [← hx] at hcx
                  rw [← hy] at hcy
                  have HCX := am_ hcx
                  have HCY := am_ hcy
                  have HBX := am_ (World.block_lt_of_cell? w _ hcx)
                  have HBY := am_ (World.block_lt_of_cell? w _ hcy)
                  obtain ⟨DF, hDF⟩ : ∃ F, F = discA n d t0 y c := ⟨_, rfl⟩
                  obtain ⟨n1, d1, ok⟩ := DF
                  have HDF := am_ hDF.symm
                  obtain ⟨SC, hSC⟩ : ∃ F, F = scaleA x n1 d1 mode := ⟨_, rfl⟩
                  obtain ⟨k, hk⟩ := roundsOf (specScale_ev x n1 d1 mode)
                  have hsb := scale_bd x n1 d1 mode
                  rw [← hSC] at hk hsb
                  obtain ⟨sv, so⟩ := SC
                  simp only at hsb
                  have HK := am_ hk
                  have hst := pvL_at (n := n) (d := d) (t0 := t0) (c := c) (mode := mode) hil HLQ.out s (show discA n d t0 (ys.getD i 0) c = (n1, d1, ok) from by rw [← hy]; exact hDF.symm) (show scaleA (xs.getD i 0) n1 d1 mode = (sv, so) from by rw [← hx]; exact hSC.symm)
                  rw [HFIN.out] at hst
                  have HST := am_ hst
                  have hs1 := HS.out.1
                  have hs2 := HS.out.2
                  clear hst hk hSC hDF hx hy
                  replace hcx := (HB.out.cell HBX.out).trans hcx
                  replace hcy := (HB.out.cell HBY.out).trans hcy
                  have hi20 : i < 20 := by omega
                  clear hcx hcy
                  have ha0_ : ∀ W : World, (W.alloc (.cells #[.int .i64 0, .int .i64 0] 24 (0, 0))).cell? ⟨W.heap.size, 0, none⟩ = some (.int .i64 0) := fun W => (blk_cell (blk_new W _) 0).trans rfl
                  have ha1_ : ∀ W : World, (W.alloc (.cells #[.int .i64 0, .int .i64 0] 24 (0, 0))).cell? ⟨W.heap.size, 1, none⟩ = some (.int .i64 0) := fun W => (blk_cell (blk_new W _) 1).trans rfl
                  have ha2_ : ∀ (W : World) (j : Nat), (W.alloc (.cells #[.int .i64 0, .int .i64 0] 24 (0, 0))).frozen? ⟨W.heap.size, j, none⟩ = false := fun W j => blk_frozen (blk_new W _) j
                  have ng_g1 : g1 ≠ wr.heap.size := Nat.ne_of_lt (blk_lt BKg1.out)
                  have nh_g1 := Ne.symm ng_g1
                  have ng_b1 : b1 ≠ wr.heap.size := Nat.ne_of_lt (Nat.lt_of_lt_of_le HBY.out (below_size HB.out))
                  have nh_b1 := Ne.symm ng_b1
                  have hs_g1_0 : ∀ O, (wr.alloc O).cell? ⟨g1, 0, none⟩ = some (.int .i64 n) := fun O => (blk_cell (blk_alloc BKg1.out O) 0).trans rfl
                  have hr_g1_0 : wr.cell? ⟨g1, 0, none⟩ = some (.int .i64 n) := (blk_cell BKg1.out 0).trans rfl
                  have hs_g1_1 : ∀ O, (wr.alloc O).cell? ⟨g1, 1, none⟩ = some (.int .i64 d) := fun O => (blk_cell (blk_alloc BKg1.out O) 1).trans rfl
                  have hr_g1_1 : wr.cell? ⟨g1, 1, none⟩ = some (.int .i64 d) := (blk_cell BKg1.out 1).trans rfl
                  have hr_b1 : wr.cell? ⟨b1, i, none⟩ = some (.int .i64 y) := (HB.out.cell HBY.out).trans HCY.out
                  have hs_b1 : ∀ O, (wr.alloc O).cell? ⟨b1, i, none⟩ = some (.int .i64 y) := fun O => ((below_alloc (Below.refl _ _) O).cell (World.block_lt_of_cell? wr _ hr_b1)).trans hr_b1
                  go_upto_region 7 with (fail)
                  go_cut [16, 17] (fun v_a v_b wx => ∃ g3, v_a = .pointer (some ⟨g3, 0, none⟩) ∧ v_b = .bool ok ∧ Aside0 (w.heap.size ≤ g3) ∧ Aside0 (g1 ≠ g3) ∧ Aside0 (wx.heap[g1]? = some (.cells #[.int .i64 n, .int .i64 d] 24 (0, 0))) ∧ Aside0 (wx.heap[g3]? = some (.cells #[.int .i64 n1, .int .i64 d1] 24 (0, 0))) ∧ Aside0 (Below w.heap.size w wx))
                  case first =>
                    go_region_held3 (fun w' => w'.cell? ⟨g1, 0, none⟩ = some (.int .i64 n) ∧ w'.cell? ⟨g1, 1, none⟩ = some (.int .i64 d) ∧ w'.cell? ⟨b1, i, none⟩ = some (.int .i64 y)) (go_keep)
                      ((first
                        | (go_at_call 14; refine (discS_c n d t0 y c _).mono ?_; rw [HDF.out]; rintro e w1_ ⟨rfl, hb⟩; have kg_g1 := blk_below (g := g1) (o := .cells #[.int .i64 n, .int .i64 d] 24 (0, 0)) (by first | exact BKg1.out | exact blk_drew BKg1.out | exact blk_alloc BKg1.out _ | exact blk_alloc (blk_drew BKg1.out) _ | exact blk_drew (blk_alloc BKg1.out _)) hb; have kc_g1_0 : w1_.cell? ⟨g1, 0, none⟩ = some (.int .i64 n) := (blk_cell kg_g1 0).trans rfl; have kc_g1_1 : w1_.cell? ⟨g1, 1, none⟩ = some (.int .i64 d) := (blk_cell kg_g1 1).trans rfl; have mg_g1 : g1 ≠ w1_.heap.size := Nat.ne_of_lt (blk_lt kg_g1); have mh_g1 := Ne.symm mg_g1; have kb := am_ (below_step (by repeat first | (with_reducible first | exact HB.out | apply ba_ | apply bn_ | apply bd_) | exact HB.out) hb); have kc_b1 : w1_.cell? ⟨b1, i, none⟩ = some (.int .i64 y) := (kb.out.cell HBY.out).trans HCY.out; have mg_b1 : b1 ≠ w1_.heap.size := Nat.ne_of_lt (Nat.lt_of_lt_of_le HBY.out (below_size kb.out)); have mh_b1 := Ne.symm mg_b1; first | (have bk := blk_below (g := wr.heap.size) (o := .cells #[.int .i64 0, .int .i64 0] 24 (0, 0)) (by first | exact blk_new wr _ | exact blk_new wr.drew _ | exact blk_drew (blk_new wr _)) hb; have hz0_ : w1_.cell? ⟨wr.heap.size, 0, none⟩ = some (.int .i64 0) := (blk_cell bk 0).trans rfl; have hz1_ : w1_.cell? ⟨wr.heap.size, 1, none⟩ = some (.int .i64 0) := (blk_cell bk 1).trans rfl; have hz2_ := blk_frozen bk 0; have hz3_ := blk_frozen bk 1) | skip)))
                    all_goals (go_wp2_with fail; go_meet; first | exact ⟨_, rfl, rfl, ⟨below_size kb.out⟩, ⟨mg_g1⟩, ⟨blk_alloc kg_g1 _⟩, ⟨blk_new w1_ _⟩, ⟨below_alloc kb.out _⟩⟩ | exact ⟨_, rfl, rfl, ⟨below_size HB.out⟩, ⟨ng_g1⟩, ⟨blk_far (blk_far kg_g1 ng_g1 _) ng_g1 _⟩, ⟨blk_put (cs := #[.int .i64 n1, .int .i64 0]) (blk_put (cs := #[.int .i64 0, .int .i64 0]) (bk) 0 _ rfl) 1 _ rfl⟩, ⟨below_set (below_set kb.out (below_size HB.out)) (below_size HB.out)⟩⟩)
                  case rest =>
                    clear HB BKg1
                    clear ha0_ ha1_ ha2_ ng_g1 nh_g1 hs_g1_0 hr_g1_0 hs_g1_1 hr_g1_1  ng_b1 nh_b1 hr_b1 hs_b1
                    obtain ⟨g3, rfl, rfl, GEg3, NEg1_g3, BKg1, BKg3, HB⟩ := hcut
                    have hn1_ : b0 ≠ g3 := Nat.ne_of_lt (Nat.lt_of_lt_of_le HBX.out GEg3.out)
                    have hn2_ := Ne.symm hn1_
                    have hcx : wc.cell? ⟨b0, i, none⟩ = some (.int .i64 x) := (HB.out.cell HBX.out).trans HCX.out
                    have yg3_0 : wc.cell? ⟨g3, 0, none⟩ = some (.int .i64 n1) := (blk_cell BKg3.out 0).trans rfl; have fg3_0 := blk_frozen BKg3.out 0; have yg3_1 : wc.cell? ⟨g3, 1, none⟩ = some (.int .i64 d1) := (blk_cell BKg3.out 1).trans rfl; have fg3_1 := blk_frozen BKg3.out 1
                    cases ok with
                    | false =>
                      have hfz : FIN = (0, false) := by have h_ := HST.out; rw [if_neg (by simp)] at h_; exact h_
                      have HFZ := am_ hfz
                      clear hfz
                      go_upto_region 8 with (fail)
                      go_region_held3 (fun w' => w'.cell? ⟨b0, i, none⟩ = some (.int .i64 x) ∧ w'.cell? ⟨g3, 0, none⟩ = some (.int .i64 n1) ∧ w'.cell? ⟨g3, 1, none⟩ = some (.int .i64 d1)) (go_keep)
                        ((first
                          | (go_at_call 58; refine (spec_ScaleAmount.calls k x n1 d1 mode sv so _ HK.out).mono ?_; rintro e w2_ ⟨rfl, hb⟩; have m_ := am_ (blk_below (blk_below BKg3.out (by repeat first | exact Below.refl _ _ | apply ba_ | apply bn_ | apply bd_)) hb); have m2_ := am_ (blk_below (blk_below BKg1.out (by repeat first | exact Below.refl _ _ | apply ba_ | apply bn_ | apply bd_)) hb); have n_ := am_ (below_step (by repeat first | (with_reducible first | exact HB.out | apply ba_ | apply bn_ | apply bd_) | exact HB.out) hb); clear hcx yg3_0 yg3_1 fg3_0 fg3_1 HB BKg1 BKg3; have HB := n_; have BKg3 := m_; have BKg1 := m2_; have hcx : w2_.cell? ⟨b0, i, none⟩ = some (.int .i64 x) := (HB.out.cell HBX.out).trans HCX.out; have yg3_0 : w2_.cell? ⟨g3, 0, none⟩ = some (.int .i64 n1) := (blk_cell BKg3.out 0).trans rfl; have yg3_1 : w2_.cell? ⟨g3, 1, none⟩ = some (.int .i64 d1) := (blk_cell BKg3.out 1).trans rfl)))
                      go_wp2
                      go_ret2
                      exact ⟨by rw [HFZ.out]; rfl, (by repeat first | (with_reducible first | exact HB.out | apply ba_ | apply bn_ | apply bd_) | exact HB.out)⟩
                    | true =>
                      cases so with
                      | false =>
                        have hfz : FIN = (0, false) := by have h_ := HST.out; rw [if_neg (by simp)] at h_; exact h_
                        have HFZ := am_ hfz
                        clear hfz
                        go_upto_region 8 with (fail)
                        go_region_held3 (fun w' => w'.cell? ⟨b0, i, none⟩ = some (.int .i64 x) ∧ w'.cell? ⟨g3, 0, none⟩ = some (.int .i64 n1) ∧ w'.cell? ⟨g3, 1, none⟩ = some (.int .i64 d1)) (go_keep)
                          ((first
                            | (go_at_call 58; refine (spec_ScaleAmount.calls k x n1 d1 mode sv false _ HK.out).mono ?_; rintro e w2_ ⟨rfl, hb⟩; have m_ := am_ (blk_below (blk_below BKg3.out (by repeat first | exact Below.refl _ _ | apply ba_ | apply bn_ | apply bd_)) hb); have m2_ := am_ (blk_below (blk_below BKg1.out (by repeat first | exact Below.refl _ _ | apply ba_ | apply bn_ | apply bd_)) hb); have n_ := am_ (below_step (by repeat first | (with_reducible first | exact HB.out | apply ba_ | apply bn_ | apply bd_) | exact HB.out) hb); clear hcx yg3_0 yg3_1 fg3_0 fg3_1 HB BKg1 BKg3; have HB := n_; have BKg3 := m_; have BKg1 := m2_; have hcx : w2_.cell? ⟨b0, i, none⟩ = some (.int .i64 x) := (HB.out.cell HBX.out).trans HCX.out; have yg3_0 : w2_.cell? ⟨g3, 0, none⟩ = some (.int .i64 n1) := (blk_cell BKg3.out 0).trans rfl; have yg3_1 : w2_.cell? ⟨g3, 1, none⟩ = some (.int .i64 d1) := (blk_cell BKg3.out 1).trans rfl)))
                        go_wp2
                        go_ret2
                        exact ⟨by rw [HFZ.out]; rfl, (by repeat first | (with_reducible first | exact HB.out | apply ba_ | apply bn_ | apply bd_) | exact HB.out)⟩
                      | true =>
                        have HFS := am_ (show pvL n d t0 c mode (xs.drop (i + 1)) (ys.drop (i + 1)) (s + sv) = FIN from by have h_ := HST.out; rw [if_pos ⟨rfl, rfl⟩] at h_; exact h_.symm)
                        go_upto_region 8 with (fail)
                        go_region_held3 (fun w' => w'.cell? ⟨b0, i, none⟩ = some (.int .i64 x) ∧ w'.cell? ⟨g3, 0, none⟩ = some (.int .i64 n1) ∧ w'.cell? ⟨g3, 1, none⟩ = some (.int .i64 d1)) (go_keep)
                          ((first
                            | (go_at_call 58; refine (spec_ScaleAmount.calls k x n1 d1 mode sv true _ HK.out).mono ?_; rintro e w2_ ⟨rfl, hb⟩; have m_ := am_ (blk_below (blk_below BKg3.out (by repeat first | exact Below.refl _ _ | apply ba_ | apply bn_ | apply bd_)) hb); have m2_ := am_ (blk_below (blk_below BKg1.out (by repeat first | exact Below.refl _ _ | apply ba_ | apply bn_ | apply bd_)) hb); have n_ := am_ (below_step (by repeat first | (with_reducible first | exact HB.out | apply ba_ | apply bn_ | apply bd_) | exact HB.out) hb); clear hcx yg3_0 yg3_1 fg3_0 fg3_1 HB BKg1 BKg3; have HB := n_; have BKg3 := m_; have BKg1 := m2_; have hcx : w2_.cell? ⟨b0, i, none⟩ = some (.int .i64 x) := (HB.out.cell HBX.out).trans HCX.out; have yg3_0 : w2_.cell? ⟨g3, 0, none⟩ = some (.int .i64 n1) := (blk_cell BKg3.out 0).trans rfl; have yg3_1 : w2_.cell? ⟨g3, 1, none⟩ = some (.int .i64 d1) := (blk_cell BKg3.out 1).trans rfl)))
                        go_wp2
                        go_roundg (gk - 1)
                        case measure => have := HI.out; omega
                        case rel => exact ⟨i + 1, s + sv, by go_num, by go_num, ⟨by have := HI.out; omega⟩, ⟨by omega, by omega⟩, HFS, ⟨(by (with_reducible repeat first | refine kn_ ?_ _ | refine kd_ ?_ | refine ka_ ?_ _); exact BKg1.out)⟩, ⟨(by repeat first | (with_reducible first | exact HB.out | apply ba_ | apply bn_ | apply bd_) | exact HB.out)⟩⟩
                · obtain rfl : i = xs.length := by have := HI.out; omega
                  have ci : decide (xs.length < xs.length) = false := decide_eq_false (by omega)
                  have hfe := HFIN.out
                  rw [pvL_end] at hfe
                  have hs1 := HS.out.1
                  have hs2 := HS.out.2
                  have ha := l2Amount_eq s
                  by_cases cs : -1000000000 ≤ s ∧ s ≤ 1000000000
                  · rw [decide_eq_true cs] at ha
                    rw [if_pos cs] at hfe
                    have HA := am_ ha
                    have HFE := am_ hfe
                    clear ha hfe
                    go_wp2_with fail
                    refine (spec_l2Amount.calls s true _ HA.out).mono ?_
                    rintro e w1_ ⟨rfl, hb0⟩
                    have hb := db_ hb0
                    clear hb0
                    replace HB := am_ (below_step (by repeat first | (with_reducible first | exact HB.out | apply ba_ | apply bn_ | apply bd_) | exact HB.out) hb); clear hb
                    go_wp2
                    go_ret2
                    exact ⟨by rw [← HFE.out]; rfl, HB.out⟩
                  · rw [decide_eq_false cs] at ha
                    rw [if_neg cs] at hfe
                    have HA := am_ ha
                    have HFE := am_ hfe
                    clear ha hfe
                    go_wp2_with fail
                    refine (spec_l2Amount.calls s false _ HA.out).mono ?_
                    rintro e w1_ ⟨rfl, hb0⟩
                    have hb := db_ hb0
                    clear hb0
                    replace HB := am_ (below_step (by repeat first | (with_reducible first | exact HB.out | apply ba_ | apply bn_ | apply bd_) | exact HB.out) hb); clear hb
                    go_wp2
                    go_ret2
                    exact ⟨by rw [← HFE.out]; rfl, HB.out⟩
            · rw [decide_eq_false c5_] at g5_
              have G6 := am_ g5_
              clear g5_
              have hfin : presA xs ys t0 n d c mode = (0, false) := by unfold presA; rw [if_neg (fun v => c5_ v.2.2.2.2.2)]
              rw [hfin]
              clear hfin
              have hlq : ((ys.length : Int) = (xs.length : Int)) := by omega
              go_enter Try.func26, Try.ntmps26
              go_wp2_with (((with_reducible refine gate_dst (N := 9) rfl ?_); refine box_event ?hg (N := 9) ?hd (cs := #[.int .i64 n,.int .i64 d]) (t := 24) ?hr ?_; (case hd => rfl); (case hg => rfl); (case hr => first | (go_simp; done) | (go_simp; rfl))); intro g1 hg w_g1 hbox hb; have n_ := am_ (below_step (by repeat first | (with_reducible first | exact HB.out | apply ba_ | apply bn_ | apply bd_) | exact HB.out) hb); have BKg1 := am_ hbox; have GEg1 := am_ (show w.heap.size ≤ g1 from by rw [hg]; exact below_size (by repeat first | (with_reducible first | exact HB.out | apply ba_ | apply bn_ | apply bd_) | exact HB.out)); clear HB ; have HB := n_; clear n_ hb hbox hg)
              refine (spec_l2Amounts.calls ka _ _ xs true _ (by repeat first | exact (Kd.C_below HR0.out HB.out) | with_reducible refine ca_ ?_ _ | with_reducible refine cn_ ?_ _ | with_reducible refine cd_ ?_) HC0.out G1.out).mono ?_
              rintro e w1_ ⟨rfl, hb0⟩
              have hb := db_ hb0
              clear hb0
              replace BKg1 := am_ (blk_below (blk_below BKg1.out (by repeat first | exact Below.refl _ _ | apply ba_ | apply bn_ | apply bd_)) hb); replace HB := am_ (below_step (by repeat first | (with_reducible first | exact HB.out | apply ba_ | apply bn_ | apply bd_) | exact HB.out) hb); clear hb
              go_wp2_with fail
              refine (spec_l3Good.calls t0 true _ G3.out).mono ?_
              rintro e w2_ ⟨rfl, hb0⟩
              have hb := db_ hb0
              clear hb0
              replace BKg1 := am_ (blk_below (blk_below BKg1.out (by repeat first | exact Below.refl _ _ | apply ba_ | apply bn_ | apply bd_)) hb); replace HB := am_ (below_step (by repeat first | (with_reducible first | exact HB.out | apply ba_ | apply bn_ | apply bd_) | exact HB.out) hb); clear hb
              have yg1_0 : w2_.cell? ⟨g1, 0, none⟩ = some (.int .i64 n) := (blk_cell BKg1.out 0).trans rfl; have fg1_0 := blk_frozen BKg1.out 0; have yg1_1 : w2_.cell? ⟨g1, 1, none⟩ = some (.int .i64 d) := (blk_cell BKg1.out 1).trans rfl; have fg1_1 := blk_frozen BKg1.out 1
              go_wp2_with fail
              clear yg1_0 fg1_0 yg1_1 fg1_1
              refine (spec_l15Rate.calls kr n d true _ G4.out).mono ?_
              rintro e w3_ ⟨rfl, hb⟩
              replace BKg1 := am_ (blk_below (blk_below BKg1.out (by repeat first | exact Below.refl _ _ | apply ba_ | apply bn_ | apply bd_)) hb); replace HB := am_ (below_step (by repeat first | (with_reducible first | exact HB.out | apply ba_ | apply bn_ | apply bd_) | exact HB.out) hb); clear hb
              go_wp2_with fail
              refine (spec_l1In.calls c 1 4 true _ G5.out).mono ?_
              rintro e w4_ ⟨rfl, hb0⟩
              have hb := db_ hb0
              clear hb0
              replace BKg1 := am_ (blk_below (blk_below BKg1.out (by repeat first | exact Below.refl _ _ | apply ba_ | apply bn_ | apply bd_)) hb); replace HB := am_ (below_step (by repeat first | (with_reducible first | exact HB.out | apply ba_ | apply bn_ | apply bd_) | exact HB.out) hb); clear hb
              go_wp2_with fail
              refine (spec_l1In.calls mode 1 4 false _ G6.out).mono ?_
              rintro e w5_ ⟨rfl, hb0⟩
              have hb := db_ hb0
              clear hb0
              replace BKg1 := am_ (blk_below (blk_below BKg1.out (by repeat first | exact Below.refl _ _ | apply ba_ | apply bn_ | apply bd_)) hb); replace HB := am_ (below_step (by repeat first | (with_reducible first | exact HB.out | apply ba_ | apply bn_ | apply bd_) | exact HB.out) hb); clear hb
              go_wp2
              go_ret2
              exact ⟨rfl, (by repeat first | (with_reducible first | exact HB.out | apply ba_ | apply bn_ | apply bd_ | refine below_set ?_ GEg1.out) | exact HB.out)⟩
          · rw [decide_eq_false c4_] at g4_
            have G5 := am_ g4_
            clear g4_
            have hfin : presA xs ys t0 n d c mode = (0, false) := by unfold presA; rw [if_neg (fun v => c4_ v.2.2.2.2.1)]
            rw [hfin]
            clear hfin
            have hlq : ((ys.length : Int) = (xs.length : Int)) := by omega
            go_enter Try.func26, Try.ntmps26
            go_wp2_with (((with_reducible refine gate_dst (N := 9) rfl ?_); refine box_event ?hg (N := 9) ?hd (cs := #[.int .i64 n,.int .i64 d]) (t := 24) ?hr ?_; (case hd => rfl); (case hg => rfl); (case hr => first | (go_simp; done) | (go_simp; rfl))); intro g1 hg w_g1 hbox hb; have n_ := am_ (below_step (by repeat first | (with_reducible first | exact HB.out | apply ba_ | apply bn_ | apply bd_) | exact HB.out) hb); have BKg1 := am_ hbox; have GEg1 := am_ (show w.heap.size ≤ g1 from by rw [hg]; exact below_size (by repeat first | (with_reducible first | exact HB.out | apply ba_ | apply bn_ | apply bd_) | exact HB.out)); clear HB ; have HB := n_; clear n_ hb hbox hg)
            refine (spec_l2Amounts.calls ka _ _ xs true _ (by repeat first | exact (Kd.C_below HR0.out HB.out) | with_reducible refine ca_ ?_ _ | with_reducible refine cn_ ?_ _ | with_reducible refine cd_ ?_) HC0.out G1.out).mono ?_
            rintro e w1_ ⟨rfl, hb0⟩
            have hb := db_ hb0
            clear hb0
            replace BKg1 := am_ (blk_below (blk_below BKg1.out (by repeat first | exact Below.refl _ _ | apply ba_ | apply bn_ | apply bd_)) hb); replace HB := am_ (below_step (by repeat first | (with_reducible first | exact HB.out | apply ba_ | apply bn_ | apply bd_) | exact HB.out) hb); clear hb
            go_wp2_with fail
            refine (spec_l3Good.calls t0 true _ G3.out).mono ?_
            rintro e w2_ ⟨rfl, hb0⟩
            have hb := db_ hb0
            clear hb0
            replace BKg1 := am_ (blk_below (blk_below BKg1.out (by repeat first | exact Below.refl _ _ | apply ba_ | apply bn_ | apply bd_)) hb); replace HB := am_ (below_step (by repeat first | (with_reducible first | exact HB.out | apply ba_ | apply bn_ | apply bd_) | exact HB.out) hb); clear hb
            have yg1_0 : w2_.cell? ⟨g1, 0, none⟩ = some (.int .i64 n) := (blk_cell BKg1.out 0).trans rfl; have fg1_0 := blk_frozen BKg1.out 0; have yg1_1 : w2_.cell? ⟨g1, 1, none⟩ = some (.int .i64 d) := (blk_cell BKg1.out 1).trans rfl; have fg1_1 := blk_frozen BKg1.out 1
            go_wp2_with fail
            clear yg1_0 fg1_0 yg1_1 fg1_1
            refine (spec_l15Rate.calls kr n d true _ G4.out).mono ?_
            rintro e w3_ ⟨rfl, hb⟩
            replace BKg1 := am_ (blk_below (blk_below BKg1.out (by repeat first | exact Below.refl _ _ | apply ba_ | apply bn_ | apply bd_)) hb); replace HB := am_ (below_step (by repeat first | (with_reducible first | exact HB.out | apply ba_ | apply bn_ | apply bd_) | exact HB.out) hb); clear hb
            go_wp2_with fail
            refine (spec_l1In.calls c 1 4 false _ G5.out).mono ?_
            rintro e w4_ ⟨rfl, hb0⟩
            have hb := db_ hb0
            clear hb0
            replace BKg1 := am_ (blk_below (blk_below BKg1.out (by repeat first | exact Below.refl _ _ | apply ba_ | apply bn_ | apply bd_)) hb); replace HB := am_ (below_step (by repeat first | (with_reducible first | exact HB.out | apply ba_ | apply bn_ | apply bd_) | exact HB.out) hb); clear hb
            go_wp2
            go_ret2
            exact ⟨rfl, (by repeat first | (with_reducible first | exact HB.out | apply ba_ | apply bn_ | apply bd_ | refine below_set ?_ GEg1.out) | exact HB.out)⟩
        · rw [decide_eq_false c3_] at g3_
          have G4 := am_ g3_
          clear g3_
          have hfin : presA xs ys t0 n d c mode = (0, false) := by unfold presA; rw [if_neg (fun v => c3_ v.2.2.2.1)]
          rw [hfin]
          clear hfin
          have hlq : ((ys.length : Int) = (xs.length : Int)) := by omega
          go_enter Try.func26, Try.ntmps26
          go_wp2_with (((with_reducible refine gate_dst (N := 9) rfl ?_); refine box_event ?hg (N := 9) ?hd (cs := #[.int .i64 n,.int .i64 d]) (t := 24) ?hr ?_; (case hd => rfl); (case hg => rfl); (case hr => first | (go_simp; done) | (go_simp; rfl))); intro g1 hg w_g1 hbox hb; have n_ := am_ (below_step (by repeat first | (with_reducible first | exact HB.out | apply ba_ | apply bn_ | apply bd_) | exact HB.out) hb); have BKg1 := am_ hbox; have GEg1 := am_ (show w.heap.size ≤ g1 from by rw [hg]; exact below_size (by repeat first | (with_reducible first | exact HB.out | apply ba_ | apply bn_ | apply bd_) | exact HB.out)); clear HB ; have HB := n_; clear n_ hb hbox hg)
          refine (spec_l2Amounts.calls ka _ _ xs true _ (by repeat first | exact (Kd.C_below HR0.out HB.out) | with_reducible refine ca_ ?_ _ | with_reducible refine cn_ ?_ _ | with_reducible refine cd_ ?_) HC0.out G1.out).mono ?_
          rintro e w1_ ⟨rfl, hb0⟩
          have hb := db_ hb0
          clear hb0
          replace BKg1 := am_ (blk_below (blk_below BKg1.out (by repeat first | exact Below.refl _ _ | apply ba_ | apply bn_ | apply bd_)) hb); replace HB := am_ (below_step (by repeat first | (with_reducible first | exact HB.out | apply ba_ | apply bn_ | apply bd_) | exact HB.out) hb); clear hb
          go_wp2_with fail
          refine (spec_l3Good.calls t0 true _ G3.out).mono ?_
          rintro e w2_ ⟨rfl, hb0⟩
          have hb := db_ hb0
          clear hb0
          replace BKg1 := am_ (blk_below (blk_below BKg1.out (by repeat first | exact Below.refl _ _ | apply ba_ | apply bn_ | apply bd_)) hb); replace HB := am_ (below_step (by repeat first | (with_reducible first | exact HB.out | apply ba_ | apply bn_ | apply bd_) | exact HB.out) hb); clear hb
          have yg1_0 : w2_.cell? ⟨g1, 0, none⟩ = some (.int .i64 n) := (blk_cell BKg1.out 0).trans rfl; have fg1_0 := blk_frozen BKg1.out 0; have yg1_1 : w2_.cell? ⟨g1, 1, none⟩ = some (.int .i64 d) := (blk_cell BKg1.out 1).trans rfl; have fg1_1 := blk_frozen BKg1.out 1
          go_wp2_with fail
          clear yg1_0 fg1_0 yg1_1 fg1_1
          refine (spec_l15Rate.calls kr n d false _ G4.out).mono ?_
          rintro e w3_ ⟨rfl, hb⟩
          replace BKg1 := am_ (blk_below (blk_below BKg1.out (by repeat first | exact Below.refl _ _ | apply ba_ | apply bn_ | apply bd_)) hb); replace HB := am_ (below_step (by repeat first | (with_reducible first | exact HB.out | apply ba_ | apply bn_ | apply bd_) | exact HB.out) hb); clear hb
          go_wp2
          go_ret2
          exact ⟨rfl, (by repeat first | (with_reducible first | exact HB.out | apply ba_ | apply bn_ | apply bd_ | refine below_set ?_ GEg1.out) | exact HB.out)⟩
      · rw [decide_eq_false c2_] at g2_
        have G3 := am_ g2_
        clear g2_
        have hfin : presA xs ys t0 n d c mode = (0, false) := by unfold presA; rw [if_neg (fun v => c2_ v.2.2.1)]
        rw [hfin]
        clear hfin
        have hlq : ((ys.length : Int) = (xs.length : Int)) := by omega
        go_enter Try.func26, Try.ntmps26
        go_wp2_with (((with_reducible refine gate_dst (N := 9) rfl ?_); refine box_event ?hg (N := 9) ?hd (cs := #[.int .i64 n,.int .i64 d]) (t := 24) ?hr ?_; (case hd => rfl); (case hg => rfl); (case hr => first | (go_simp; done) | (go_simp; rfl))); intro g1 hg w_g1 hbox hb; have n_ := am_ (below_step (by repeat first | (with_reducible first | exact HB.out | apply ba_ | apply bn_ | apply bd_) | exact HB.out) hb); have BKg1 := am_ hbox; have GEg1 := am_ (show w.heap.size ≤ g1 from by rw [hg]; exact below_size (by repeat first | (with_reducible first | exact HB.out | apply ba_ | apply bn_ | apply bd_) | exact HB.out)); clear HB ; have HB := n_; clear n_ hb hbox hg)
        refine (spec_l2Amounts.calls ka _ _ xs true _ (by repeat first | exact (Kd.C_below HR0.out HB.out) | with_reducible refine ca_ ?_ _ | with_reducible refine cn_ ?_ _ | with_reducible refine cd_ ?_) HC0.out G1.out).mono ?_
        rintro e w1_ ⟨rfl, hb0⟩
        have hb := db_ hb0
        clear hb0
        replace BKg1 := am_ (blk_below (blk_below BKg1.out (by repeat first | exact Below.refl _ _ | apply ba_ | apply bn_ | apply bd_)) hb); replace HB := am_ (below_step (by repeat first | (with_reducible first | exact HB.out | apply ba_ | apply bn_ | apply bd_) | exact HB.out) hb); clear hb
        go_wp2_with fail
        refine (spec_l3Good.calls t0 false _ G3.out).mono ?_
        rintro e w2_ ⟨rfl, hb0⟩
        have hb := db_ hb0
        clear hb0
        replace BKg1 := am_ (blk_below (blk_below BKg1.out (by repeat first | exact Below.refl _ _ | apply ba_ | apply bn_ | apply bd_)) hb); replace HB := am_ (below_step (by repeat first | (with_reducible first | exact HB.out | apply ba_ | apply bn_ | apply bd_) | exact HB.out) hb); clear hb
        go_wp2
        go_ret2
        exact ⟨rfl, (by repeat first | (with_reducible first | exact HB.out | apply ba_ | apply bn_ | apply bd_ | refine below_set ?_ GEg1.out) | exact HB.out)⟩
    · have cb1_ : decide (ys.length = xs.length) = false := decide_eq_false c1_
      have hfin : presA xs ys t0 n d c mode = (0, false) := by unfold presA; rw [if_neg (fun v => c1_ v.2.1)]
      rw [hfin]
      clear hfin
      have hlq : ¬ ((ys.length : Int) = (xs.length : Int)) := by omega
      go_enter Try.func26, Try.ntmps26
      go_wp2_with (((with_reducible refine gate_dst (N := 9) rfl ?_); refine box_event ?hg (N := 9) ?hd (cs := #[.int .i64 n,.int .i64 d]) (t := 24) ?hr ?_; (case hd => rfl); (case hg => rfl); (case hr => first | (go_simp; done) | (go_simp; rfl))); intro g1 hg w_g1 hbox hb; have n_ := am_ (below_step (by repeat first | (with_reducible first | exact HB.out | apply ba_ | apply bn_ | apply bd_) | exact HB.out) hb); have BKg1 := am_ hbox; have GEg1 := am_ (show w.heap.size ≤ g1 from by rw [hg]; exact below_size (by repeat first | (with_reducible first | exact HB.out | apply ba_ | apply bn_ | apply bd_) | exact HB.out)); clear HB ; have HB := n_; clear n_ hb hbox hg)
      refine (spec_l2Amounts.calls ka _ _ xs true _ (by repeat first | exact (Kd.C_below HR0.out HB.out) | with_reducible refine ca_ ?_ _ | with_reducible refine cn_ ?_ _ | with_reducible refine cd_ ?_) HC0.out G1.out).mono ?_
      rintro e w1_ ⟨rfl, hb0⟩
      have hb := db_ hb0
      clear hb0
      replace BKg1 := am_ (blk_below (blk_below BKg1.out (by repeat first | exact Below.refl _ _ | apply ba_ | apply bn_ | apply bd_)) hb); replace HB := am_ (below_step (by repeat first | (with_reducible first | exact HB.out | apply ba_ | apply bn_ | apply bd_) | exact HB.out) hb); clear hb
      go_wp2
      go_ret2
      exact ⟨rfl, (by repeat first | (with_reducible first | exact HB.out | apply ba_ | apply bn_ | apply bd_ | refine below_set ?_ GEg1.out) | exact HB.out)⟩
  · rw [decide_eq_false c0_] at g0_
    have G1 := am_ g0_
    clear g0_
    have hfin : presA xs ys t0 n d c mode = (0, false) := by unfold presA; rw [if_neg (fun v => c0_ v.1)]
    rw [hfin]
    clear hfin
    go_enter Try.func26, Try.ntmps26
    go_wp2_with (((with_reducible refine gate_dst (N := 9) rfl ?_); refine box_event ?hg (N := 9) ?hd (cs := #[.int .i64 n,.int .i64 d]) (t := 24) ?hr ?_; (case hd => rfl); (case hg => rfl); (case hr => first | (go_simp; done) | (go_simp; rfl))); intro g1 hg w_g1 hbox hb; have n_ := am_ (below_step (by repeat first | (with_reducible first | exact HB.out | apply ba_ | apply bn_ | apply bd_) | exact HB.out) hb); have BKg1 := am_ hbox; have GEg1 := am_ (show w.heap.size ≤ g1 from by rw [hg]; exact below_size (by repeat first | (with_reducible first | exact HB.out | apply ba_ | apply bn_ | apply bd_) | exact HB.out)); clear HB ; have HB := n_; clear n_ hb hbox hg)
    refine (spec_l2Amounts.calls ka _ _ xs false _ (by repeat first | exact (Kd.C_below HR0.out HB.out) | with_reducible refine ca_ ?_ _ | with_reducible refine cn_ ?_ _ | with_reducible refine cd_ ?_) HC0.out G1.out).mono ?_
    rintro e w1_ ⟨rfl, hb0⟩
    have hb := db_ hb0
    clear hb0
    replace BKg1 := am_ (blk_below (blk_below BKg1.out (by repeat first | exact Below.refl _ _ | apply ba_ | apply bn_ | apply bd_)) hb); replace HB := am_ (below_step (by repeat first | (with_reducible first | exact HB.out | apply ba_ | apply bn_ | apply bd_) | exact HB.out) hb); clear hb
    go_wp2
    go_ret2
    exact ⟨rfl, (by repeat first | (with_reducible first | exact HB.out | apply ba_ | apply bn_ | apply bd_ | refine below_set ?_ GEg1.out) | exact HB.out)⟩
def Lcf_ren : Go.Shelf.Ren := ⟨fun | 6 => 112 | 8 => 71 | n => n, fun | 22 => 35 | 23 => 3 | 25 => 81 | n => n, fun | n => n⟩
theorem Lcf : Go.Proofs.SlLaysH.n8 Try.prog Lcf_ren := {
  mixed := by kernel_rfl,
  f6 := ⟨Try.f112.name, by decide, Try.func112.trans (congrArg some (by kernel_rfl))⟩,
  f8 := ⟨Try.f71.name, by decide, Try.func71.trans (congrArg some (by kernel_rfl))⟩,
  t0 := Try.underlying0,
  a0 := Try.isAgg0,
  z0 := Try.sizeOf0,
  v0 := Try.zeroValue0,
  t3 := Try.underlying3,
  a3 := Try.isAgg3,
  z3 := Try.sizeOf3,
  v3 := Try.zeroValue3,
  t4 := Try.underlying4,
  a4 := Try.isAgg4,
  z4 := Try.sizeOf4,
  v4 := Try.zeroValue4,
  t22 := Try.underlying35,
  a22 := Try.isAgg35,
  z22 := Try.sizeOf35,
  v22 := Try.zeroValue35,
  a23 := Try.isAgg3,
  z23 := Try.sizeOf3,
  t25 := Try.underlying81,
  a25 := Try.isAgg81,
  z25 := Try.sizeOf81,
  v25 := Try.zeroValue81 }

/-- slices.ContainsFunc over a row of whole numbers, a predicate given. -/
theorem containsFunc_c (g : Nat) (eg : ∀ args w, (callFunc g args).run Try.prog w = .ok (.enter g args) w) (lb : Array Value) (p : Int → Bool) (A : Option Addr) (c : Nat) (xs : List Int) (w : World) (hp : PredAt Try.prog g lb (Value.int .i64) p w) (hr : (Kd.int .i64).C w A xs.length xs) (ha : 0 < xs.length → ∃ b, A = some ⟨b, 0, none⟩) :
    Calls Try.prog 71 #[.slice A xs.length c, .func (.func g) #[] lb] w fun e w' => e = .returned (.bool (xs.any p)) ∧ ∃ q, w' = w.drewN q := by
  by_cases hp0 : 0 < xs.length
  · obtain ⟨b, rfl⟩ := ha hp0
    have h := AnyE.slices_ContainsFunc Lcf (Value.int .i64) p g lb eg b 0 xs.length c xs w hp (Nat.le_refl _) (Kd.C_max hr) (cellsOf hr)
    rw [List.take_length] at h
    exact h
  · obtain rfl : xs = [] := List.length_eq_zero_iff.mp (by omega)
    exact (AnyE.slices_ContainsFunc_empty Lcf A c _ w).mono fun e w' ⟨he, hw⟩ => ⟨he, 0, hw⟩
def amsF (xs : List Int) : Option Bool := some (decide (okAm xs))
theorem amsF_eq (xs : List Int) : amsF xs = some (decide (okAm xs)) := rfl
def amB (x : Int) : Bool := decide (-1000000000 ≤ x ∧ x ≤ 1000000000)
theorem amPred (w : World) : PredAt Try.prog 111 #[] (Value.int .i64) (fun x => !amB x) w := fun W x _ => by
  unfold FnGives
  have h : impl_isAmount.f x = some (amB x) := isAmount_eq x
  go_enter Try.func111, Try.ntmps111
  go_wp2_with (go_at_call 68; refine (impl_isAmount.calls x _ _ h).mono ?_; rintro e w' ⟨rfl, ⟨n, rfl⟩⟩)
  go_ret
  exact ⟨rfl, n, rfl⟩
set_option maxHeartbeats 8000000 in
set_option maxRecDepth 100000 in
theorem areAms_c (A0 : Option Addr) (c0 : Nat) (xs : List Int) (v : Bool) (hv : amsF xs = some v) (w : World) (hr0 : (Kd.int .i64).C w A0 xs.length xs) (ha0 : 0 < xs.length → ∃ b, A0 = some ⟨b, 0, none⟩) :
    Calls Try.prog 70 #[.slice A0 xs.length c0] w fun e w' => e = .returned (.bool v) ∧ Below w.heap.size w w' := by
  have EG := am_ (show ∀ args w, (callFunc 111 args).run Try.prog w = .ok (.enter 111 args) w from enters_of Try.func111 (by kernel_rfl) rfl)
  rw [amsF_eq, Option.some.injEq] at hv
  have HR0 := am_ hr0
  have HA0 := am_ ha0
  by_cases hl : xs.length ≤ 20
  · have hq : decide (okAm xs) = !(xs.any (fun x => !amB x)) := okAm_any hl
    rw [hv] at hq
    obtain ⟨q, hqe⟩ : ∃ q, q = xs.any (fun x => !amB x) := ⟨_, rfl⟩
    rw [← hqe] at hq
    have HQ := am_ hqe
    have HV := am_ hq
    have cl : decide ((xs.length : Int) ≤ 20) = true := decide_eq_true (by omega)
    clear hq hqe hv hr0 ha0
    go_enter Try.func70, Try.ntmps70
    go_wp2_with (go_at_call 71; refine (containsFunc_c 111 EG.out #[] (fun x => !amB x) _ _ xs _ (amPred _) HR0.out HA0.out).mono ?_; rw [← HQ.out]; rintro e w2 ⟨rfl, ⟨n, rfl⟩⟩)
    go_ret
    exact ⟨by rw [HV.out]; rfl, (by repeat first | (with_reducible first | exact (Below.refl _ _) | apply ba_ | apply bn_ | apply bd_) | exact (Below.refl _ _))⟩
  · obtain rfl : v = false := by rw [← hv]; exact decide_eq_false (fun g => hl g.1)
    have cl : decide ((xs.length : Int) ≤ 20) = false := decide_eq_false (by omega)
    clear hv hr0 ha0
    go_enter Try.func70, Try.ntmps70
    go_wp2
    go_ret
    exact ⟨rfl, (by repeat first | (with_reducible first | exact (Below.refl _ _) | apply ba_ | apply bn_ | apply bd_) | exact (Below.refl _ _))⟩
set_option maxHeartbeats 8000000 in
set_option maxRecDepth 100000 in
theorem dayPred (g8 : Nat) (t0 : Int) (w : World) (hk : w.heap[g8]? = some (.cells #[.int .i64 t0] 3 (0, 0))) : PredAt Try.prog 72 #[.pointer (some ⟨g8, 0, none⟩)] (Value.int .i64) (fun y => !okDay t0 y) w := fun W y hb => by
  unfold FnGives
  have h := isDay_eq y
  have y0 : W.cell? ⟨g8, 0, none⟩ = some (.int .i64 t0) := (blk_cell (blk_below hk hb) 0).trans rfl
  have HK := am_ (blk_below hk hb)
  by_cases c : 0 ≤ y ∧ y ≤ 36524
  · rw [decide_eq_true c] at h
    have H := am_ h
    by_cases c2 : t0 ≤ y
    · have cb : decide (y < t0) = false := decide_eq_false (by omega)
      have HF := am_ (show okDay t0 y = true from decide_eq_true ⟨c, c2⟩)
      clear h
      go_enter Try.func72, Try.ntmps72
      go_wp2_with (go_at_call 64; refine (impl_isDay.calls y true _ H.out).mono ?_; rintro e w' ⟨rfl, ⟨n, rfl⟩⟩; have y1 : (W.drewN n).cell? ⟨g8, 0, none⟩ = some (.int .i64 t0) := y0)
      go_ret
      exact ⟨by rw [HF.out]; rfl, n, rfl⟩
    · have cb : decide (y < t0) = true := decide_eq_true (by omega)
      have HF := am_ (show okDay t0 y = false from decide_eq_false (fun g => c2 g.2))
      clear h
      go_enter Try.func72, Try.ntmps72
      go_wp2_with (go_at_call 64; refine (impl_isDay.calls y true _ H.out).mono ?_; rintro e w' ⟨rfl, ⟨n, rfl⟩⟩; have y1 : (W.drewN n).cell? ⟨g8, 0, none⟩ = some (.int .i64 t0) := y0)
      go_ret
      exact ⟨by rw [HF.out]; rfl, n, rfl⟩
  · rw [decide_eq_false c] at h
    have H := am_ h
    have HF := am_ (show okDay t0 y = false from decide_eq_false (fun g => c g.1))
    clear h
    go_enter Try.func72, Try.ntmps72
    go_wp2_with (go_at_call 64; refine (impl_isDay.calls y false _ H.out).mono ?_; rintro e w' ⟨rfl, ⟨n, rfl⟩⟩)
    go_ret
    exact ⟨by rw [HF.out]; rfl, n, rfl⟩
set_option maxHeartbeats 8000000 in
set_option maxRecDepth 100000 in
theorem presI_c (A0 : Option Addr) (c0 : Nat) (xs : List Int) (A1 : Option Addr) (c1 : Nat) (ys : List Int) (t0 n d c mode : Int) (hn : xs.length ≤ 1048576) (w : World) (hr0 : (Kd.int .i64).C w A0 xs.length xs) (hc0 : xs.length ≤ c0) (ha0 : 0 < xs.length → ∃ b, A0 = some ⟨b, 0, none⟩) (hr1 : (Kd.int .i64).C w A1 ys.length ys) (ha1 : 0 < ys.length → ∃ b, A1 = some ⟨b, 0, none⟩) :
    Calls Try.prog 27 #[.slice A0 xs.length c0, .slice A1 ys.length c1, .int .i64 t0, .agg #[.int .i64 n, .int .i64 d], .int .i64 c, .int .i64 mode] w fun e w' => e = .returned (.tuple #[.int .i64 (presA xs ys t0 n d c mode).1, .bool (presA xs ys t0 n d c mode).2]) ∧ Below w.heap.size w w' := by
  have HB := am_ (Below.refl w.heap.size w)
  have HR0 := am_ hr0
  have HC0 := am_ hc0
  have HA0 := am_ ha0
  have HR1 := am_ hr1
  have HA1 := am_ ha1
  clear hr0 hc0 ha0 hr1 ha1
  obtain ⟨kr, hr⟩ := roundsOf (implInterest_ev n d c mode)
  have g0_ := amsF_eq xs
  by_cases c0_ : okAm xs
  · rw [decide_eq_true c0_] at g0_
    have G1 := am_ g0_
    clear g0_
    by_cases c1_ : ys.length = xs.length
    · have cb1_ : decide (ys.length = xs.length) = true := decide_eq_true c1_
      have g2_ := isDay_eq t0
      by_cases c2_ : 0 ≤ t0 ∧ t0 ≤ 36524
      · rw [decide_eq_true c2_] at g2_
        have G3 := am_ g2_
        clear g2_
        have g3_ := hr
        by_cases c3_ : intOk n d c mode
        · rw [decide_eq_true c3_] at g3_
          have G4 := am_ g3_
          clear g3_
          have hfin : presA xs ys t0 n d c mode = pvL n d t0 c mode xs ys 0 := by unfold presA; rw [if_pos ⟨c0_, c1_, c2_, c3_⟩]
          rw [hfin]
          have hlq : ((ys.length : Int) = (xs.length : Int)) := by omega
          obtain ⟨FIN, hFIN⟩ : ∃ F, F = pvL n d t0 c mode xs ys 0 := ⟨_, rfl⟩
          rw [← hFIN]
          have HFIN := am_ (show pvL n d t0 c mode (xs.drop 0) (ys.drop 0) 0 = FIN from hFIN.symm)
          have HLQ := am_ c1_
          have h20 : xs.length ≤ 20 := c0_.1
          have hy20 : ys.length ≤ 20 := by omega
          clear hfin hFIN c1_ hn hr
          have EG := am_ (show ∀ args w, (callFunc 72 args).run Try.prog w = .ok (.enter 72 args) w from enters_of Try.func72 (by kernel_rfl) rfl)
          obtain ⟨q, hqe⟩ : ∃ q, q = ys.any (fun y => !okDay t0 y) := ⟨_, rfl⟩
          have HQ := am_ hqe
          clear hqe
          cases q with
          | true =>
            have HFZ := am_ (show FIN = (0, false) from by rw [← HFIN.out]; exact pvL_bad xs ys 0 HLQ.out HQ.out.symm)
            go_enter Try.func27, Try.ntmps27
            go_wp2_with (first
              | (((with_reducible refine gate_dst (N := 8) rfl ?_); refine box_event ?hg (N := 8) ?hd (cs := #[.int .i64 t0]) (t := 3) ?hr ?_; (case hd => rfl); (case hg => rfl); (case hr => first | (go_simp; done) | (go_simp; rfl))); intro g8 hg w_g8 hbox hb; have n_ := am_ (below_step (by repeat first | (with_reducible first | exact HB.out | apply ba_ | apply bn_ | apply bd_) | exact HB.out) hb); have BKg8 := am_ hbox; have GEg8 := am_ (show w.heap.size ≤ g8 from by rw [hg]; exact below_size (by repeat first | (with_reducible first | exact HB.out | apply ba_ | apply bn_ | apply bd_) | exact HB.out)); clear HB ; have HB := n_; clear n_ hb hbox hg)
              | (((with_reducible refine gate_dst (N := 9) rfl ?_); refine box_event ?hg (N := 9) ?hd (cs := #[.int .i64 n,.int .i64 d]) (t := 24) ?hr ?_; (case hd => rfl); (case hg => rfl); (case hr => first | (go_simp; done) | (go_simp; rfl))); intro g1 hg w_g1 hbox hb; have n_ := am_ (below_step (by repeat first | (with_reducible first | exact HB.out | apply ba_ | apply bn_ | apply bd_ | refine below_set ?_ GEg8.out) | exact HB.out) hb); have m_g8 := am_ (blk_below (blk_below BKg8.out (by repeat first | exact Below.refl _ _ | apply ba_ | apply bn_ | apply bd_)) hb); have NEg8_g1 := am_ (show g8 ≠ g1 from by rw [hg]; exact Nat.ne_of_lt (blk_lt (blk_below BKg8.out (by repeat first | exact Below.refl _ _ | apply ba_ | apply bn_ | apply bd_)))); have NEg1_g8 := am_ (Ne.symm NEg8_g1.out); have BKg1 := am_ hbox; have GEg1 := am_ (show w.heap.size ≤ g1 from by rw [hg]; exact below_size (by repeat first | (with_reducible first | exact HB.out | apply ba_ | apply bn_ | apply bd_ | refine below_set ?_ GEg8.out) | exact HB.out)); clear HB BKg8; have HB := n_; clear n_ hb hbox hg; have BKg8 := m_g8; clear m_g8)
              )
            refine (areAms_c _ _ xs true G1.out _ (by repeat first | exact (Kd.C_below HR0.out HB.out) | with_reducible refine ca_ ?_ _ | with_reducible refine cn_ ?_ _ | with_reducible refine cd_ ?_) HA0.out).mono ?_
            rintro e w1_ ⟨rfl, hb⟩
            replace BKg8 := am_ (blk_below (blk_below BKg8.out (by repeat first | exact Below.refl _ _ | apply ba_ | apply bn_ | apply bd_)) hb); replace BKg1 := am_ (blk_below (blk_below BKg1.out (by repeat first | exact Below.refl _ _ | apply ba_ | apply bn_ | apply bd_)) hb); replace HB := am_ (below_step (by repeat first | (with_reducible first | exact HB.out | apply ba_ | apply bn_ | apply bd_) | exact HB.out) hb); clear hb
            have yg8_0 : w1_.cell? ⟨g8, 0, none⟩ = some (.int .i64 t0) := (blk_cell BKg8.out 0).trans rfl; have fg8_0 := blk_frozen BKg8.out 0
            go_wp2_with fail
            clear yg8_0 fg8_0
            refine (impl_isDay.calls t0 true _ G3.out).mono ?_
            rintro e w2_ ⟨rfl, hb0⟩
            have hb := db_ hb0
            clear hb0
            replace BKg8 := am_ (blk_below (blk_below BKg8.out (by repeat first | exact Below.refl _ _ | apply ba_ | apply bn_ | apply bd_)) hb); replace BKg1 := am_ (blk_below (blk_below BKg1.out (by repeat first | exact Below.refl _ _ | apply ba_ | apply bn_ | apply bd_)) hb); replace HB := am_ (below_step (by repeat first | (with_reducible first | exact HB.out | apply ba_ | apply bn_ | apply bd_) | exact HB.out) hb); clear hb
            have yg1_0 : w2_.cell? ⟨g1, 0, none⟩ = some (.int .i64 n) := (blk_cell BKg1.out 0).trans rfl; have fg1_0 := blk_frozen BKg1.out 0; have yg1_1 : w2_.cell? ⟨g1, 1, none⟩ = some (.int .i64 d) := (blk_cell BKg1.out 1).trans rfl; have fg1_1 := blk_frozen BKg1.out 1
            go_wp2_with fail
            clear yg1_0 fg1_0 yg1_1 fg1_1
            refine (impl_isInterest.calls kr n d c mode true _ G4.out).mono ?_
            rintro e w3_ ⟨rfl, hb⟩
            replace BKg8 := am_ (blk_below (blk_below BKg8.out (by repeat first | exact Below.refl _ _ | apply ba_ | apply bn_ | apply bd_)) hb); replace BKg1 := am_ (blk_below (blk_below BKg1.out (by repeat first | exact Below.refl _ _ | apply ba_ | apply bn_ | apply bd_)) hb); replace HB := am_ (below_step (by repeat first | (with_reducible first | exact HB.out | apply ba_ | apply bn_ | apply bd_) | exact HB.out) hb); clear hb
            go_wp2_with fail
            refine (containsFunc_c 72 EG.out #[.pointer (some ⟨g8, 0, none⟩)] (fun y => !okDay t0 y) _ _ ys _ (dayPred g8 t0 _ (by (with_reducible repeat first | refine kn_ ?_ _ | refine kd_ ?_ | refine ka_ ?_ _); exact BKg8.out)) (by repeat first | exact (Kd.C_below HR1.out HB.out) | with_reducible refine ca_ ?_ _ | with_reducible refine cn_ ?_ _ | with_reducible refine cd_ ?_) HA1.out).mono ?_
            rw [← HQ.out]
            rintro e w8_ ⟨rfl, ⟨q_, rfl⟩⟩
            go_wp2
            go_ret2
            exact ⟨by rw [HFZ.out]; rfl, (by repeat first | (with_reducible first | exact HB.out | apply ba_ | apply bn_ | apply bd_) | exact HB.out)⟩
          | false =>
            go_enter Try.func27, Try.ntmps27
            go_wp2_with (first
              | (((with_reducible refine gate_dst (N := 8) rfl ?_); refine box_event ?hg (N := 8) ?hd (cs := #[.int .i64 t0]) (t := 3) ?hr ?_; (case hd => rfl); (case hg => rfl); (case hr => first | (go_simp; done) | (go_simp; rfl))); intro g8 hg w_g8 hbox hb; have n_ := am_ (below_step (by repeat first | (with_reducible first | exact HB.out | apply ba_ | apply bn_ | apply bd_) | exact HB.out) hb); have BKg8 := am_ hbox; have GEg8 := am_ (show w.heap.size ≤ g8 from by rw [hg]; exact below_size (by repeat first | (with_reducible first | exact HB.out | apply ba_ | apply bn_ | apply bd_) | exact HB.out)); clear HB ; have HB := n_; clear n_ hb hbox hg)
              | (((with_reducible refine gate_dst (N := 9) rfl ?_); refine box_event ?hg (N := 9) ?hd (cs := #[.int .i64 n,.int .i64 d]) (t := 24) ?hr ?_; (case hd => rfl); (case hg => rfl); (case hr => first | (go_simp; done) | (go_simp; rfl))); intro g1 hg w_g1 hbox hb; have n_ := am_ (below_step (by repeat first | (with_reducible first | exact HB.out | apply ba_ | apply bn_ | apply bd_ | refine below_set ?_ GEg8.out) | exact HB.out) hb); have m_g8 := am_ (blk_below (blk_below BKg8.out (by repeat first | exact Below.refl _ _ | apply ba_ | apply bn_ | apply bd_)) hb); have NEg8_g1 := am_ (show g8 ≠ g1 from by rw [hg]; exact Nat.ne_of_lt (blk_lt (blk_below BKg8.out (by repeat first | exact Below.refl _ _ | apply ba_ | apply bn_ | apply bd_)))); have NEg1_g8 := am_ (Ne.symm NEg8_g1.out); have BKg1 := am_ hbox; have GEg1 := am_ (show w.heap.size ≤ g1 from by rw [hg]; exact below_size (by repeat first | (with_reducible first | exact HB.out | apply ba_ | apply bn_ | apply bd_ | refine below_set ?_ GEg8.out) | exact HB.out)); clear HB BKg8; have HB := n_; clear n_ hb hbox hg; have BKg8 := m_g8; clear m_g8)
              )
            refine (areAms_c _ _ xs true G1.out _ (by repeat first | exact (Kd.C_below HR0.out HB.out) | with_reducible refine ca_ ?_ _ | with_reducible refine cn_ ?_ _ | with_reducible refine cd_ ?_) HA0.out).mono ?_
            rintro e w1_ ⟨rfl, hb⟩
            replace BKg8 := am_ (blk_below (blk_below BKg8.out (by repeat first | exact Below.refl _ _ | apply ba_ | apply bn_ | apply bd_)) hb); replace BKg1 := am_ (blk_below (blk_below BKg1.out (by repeat first | exact Below.refl _ _ | apply ba_ | apply bn_ | apply bd_)) hb); replace HB := am_ (below_step (by repeat first | (with_reducible first | exact HB.out | apply ba_ | apply bn_ | apply bd_) | exact HB.out) hb); clear hb
            have yg8_0 : w1_.cell? ⟨g8, 0, none⟩ = some (.int .i64 t0) := (blk_cell BKg8.out 0).trans rfl; have fg8_0 := blk_frozen BKg8.out 0
            go_wp2_with fail
            clear yg8_0 fg8_0
            refine (impl_isDay.calls t0 true _ G3.out).mono ?_
            rintro e w2_ ⟨rfl, hb0⟩
            have hb := db_ hb0
            clear hb0
            replace BKg8 := am_ (blk_below (blk_below BKg8.out (by repeat first | exact Below.refl _ _ | apply ba_ | apply bn_ | apply bd_)) hb); replace BKg1 := am_ (blk_below (blk_below BKg1.out (by repeat first | exact Below.refl _ _ | apply ba_ | apply bn_ | apply bd_)) hb); replace HB := am_ (below_step (by repeat first | (with_reducible first | exact HB.out | apply ba_ | apply bn_ | apply bd_) | exact HB.out) hb); clear hb
            have yg1_0 : w2_.cell? ⟨g1, 0, none⟩ = some (.int .i64 n) := (blk_cell BKg1.out 0).trans rfl; have fg1_0 := blk_frozen BKg1.out 0; have yg1_1 : w2_.cell? ⟨g1, 1, none⟩ = some (.int .i64 d) := (blk_cell BKg1.out 1).trans rfl; have fg1_1 := blk_frozen BKg1.out 1
            go_wp2_with fail
            clear yg1_0 fg1_0 yg1_1 fg1_1
            refine (impl_isInterest.calls kr n d c mode true _ G4.out).mono ?_
            rintro e w3_ ⟨rfl, hb⟩
            replace BKg8 := am_ (blk_below (blk_below BKg8.out (by repeat first | exact Below.refl _ _ | apply ba_ | apply bn_ | apply bd_)) hb); replace BKg1 := am_ (blk_below (blk_below BKg1.out (by repeat first | exact Below.refl _ _ | apply ba_ | apply bn_ | apply bd_)) hb); replace HB := am_ (below_step (by repeat first | (with_reducible first | exact HB.out | apply ba_ | apply bn_ | apply bd_) | exact HB.out) hb); clear hb
            go_wp2_with fail
            refine (containsFunc_c 72 EG.out #[.pointer (some ⟨g8, 0, none⟩)] (fun y => !okDay t0 y) _ _ ys _ (dayPred g8 t0 _ (by (with_reducible repeat first | refine kn_ ?_ _ | refine kd_ ?_ | refine ka_ ?_ _); exact BKg8.out)) (by repeat first | exact (Kd.C_below HR1.out HB.out) | with_reducible refine ca_ ?_ _ | with_reducible refine cn_ ?_ _ | with_reducible refine cd_ ?_) HA1.out).mono ?_
            rw [← HQ.out]
            rintro e w8_ ⟨rfl, ⟨q_, rfl⟩⟩
            go_wp2
            go_loopg [14, 46] xs.length (fun kq v14 v15 wr => ∃ (i : Nat) (s : Int), v14 = .int .i64 s ∧ v15 = .int .i64 i ∧ Aside0 (i + kq = xs.length) ∧ Aside0 (-1000000000 * (i : Int) ≤ s ∧ s ≤ 1000000000 * (i : Int)) ∧ Aside0 (pvL n d t0 c mode (xs.drop i) (ys.drop i) s = FIN) ∧ Aside0 (wr.heap[g1]? = some (.cells #[.int .i64 n, .int .i64 d] 24 (0, 0))) ∧ Aside0 (wr.heap[g8]? = some (.cells #[.int .i64 t0] 3 (0, 0))) ∧ Aside0 (Below w.heap.size w wr))
            case atStart => exact ⟨0, 0, rfl, rfl, ⟨Nat.zero_add _⟩, ⟨by omega, by omega⟩, HFIN, ⟨(by (with_reducible repeat first | refine kn_ ?_ _ | refine kd_ ?_ | refine ka_ ?_ _); exact BKg1.out)⟩, ⟨(by (with_reducible repeat first | refine kn_ ?_ _ | refine kd_ ?_ | refine ka_ ?_ _); exact BKg8.out)⟩, ⟨(by repeat first | (with_reducible first | exact HB.out | apply ba_ | apply bn_ | apply bd_) | exact HB.out)⟩⟩
            case round =>
              clear HFIN HB BKg1 BKg8
              obtain ⟨i, s, rfl, rfl, HI, HS, HFIN, BKg1, BKg8, HB⟩ := hrel
              by_cases hil : i < xs.length
              · have ci : decide (i < xs.length) = true := decide_eq_true hil
                have hiy : i < ys.length := by have := HLQ.out; omega
                obtain ⟨b0, e0⟩ := HA0.out (by omega)
                subst e0
                obtain ⟨b1, e1⟩ := HA1.out (by omega)
                subst e1
                have hcx := cellsOfD HR0.out i hil
                have hcy := cellsOfD HR1.out i hiy
                rw [Nat.zero_add] at hcx hcy
                obtain ⟨x, hx⟩ : ∃ x, x = xs.getD i 0 := ⟨_, rfl⟩
                obtain ⟨y, hy⟩ : ∃ y, y = ys.getD i 0 := ⟨_, rfl⟩
                rw [← hx] at hcx
                rw [← hy] at hcy
                have HCX := am_ hcx
                have HCY := am_ hcy
                have HBX := am_ (World.block_lt_of_cell? w _ hcx)
                have HBY := am_ (World.block_lt_of_cell? w _ hcy)
                obtain ⟨DF, hDF⟩ : ∃ F, F = discA n d t0 y c := ⟨_, rfl⟩
                obtain ⟨n1, d1, ok⟩ := DF
                have HDF := am_ hDF.symm
                obtain ⟨SC, hSC⟩ : ∃ F, F = scaleA x n1 d1 mode := ⟨_, rfl⟩
                obtain ⟨k, hk⟩ := roundsOf (implScale_ev x n1 d1 mode)
                have hsb := scale_bd x n1 d1 mode
                rw [← hSC] at hk hsb
                obtain ⟨sv, so⟩ := SC
                simp only at hsb
                have HK := am_ hk
                have hst := pvL_at (n := n) (d := d) (t0 := t0) (c := c) (mode := mode) hil HLQ.out s (show discA n d t0 (ys.getD i 0) c = (n1, d1, ok) from by rw [← hy]; exact hDF.symm) (show scaleA (xs.getD i 0) n1 d1 mode = (sv, so) from by rw [← hx]; exact hSC.symm)
                rw [HFIN.out] at hst
                have HST := am_ hst
                have hs1 := HS.out.1
                have hs2 := HS.out.2
                clear hst hk hSC hDF hx hy
                replace hcx := (HB.out.cell HBX.out).trans hcx
                replace hcy := (HB.out.cell HBY.out).trans hcy
                have hi20 : i < 20 := by omega
                go_upto_region 9 with (fail)
                clear hcx hcy
                have ha0_ : ∀ W : World, (W.alloc (.cells #[.int .i64 0, .int .i64 0] 24 (0, 0))).cell? ⟨W.heap.size, 0, none⟩ = some (.int .i64 0) := fun W => (blk_cell (blk_new W _) 0).trans rfl
                have ha1_ : ∀ W : World, (W.alloc (.cells #[.int .i64 0, .int .i64 0] 24 (0, 0))).cell? ⟨W.heap.size, 1, none⟩ = some (.int .i64 0) := fun W => (blk_cell (blk_new W _) 1).trans rfl
                have ha2_ : ∀ (W : World) (j : Nat), (W.alloc (.cells #[.int .i64 0, .int .i64 0] 24 (0, 0))).frozen? ⟨W.heap.size, j, none⟩ = false := fun W j => blk_frozen (blk_new W _) j
                have ng_g1 : g1 ≠ wr.heap.size := Nat.ne_of_lt (blk_lt BKg1.out)
                have nh_g1 := Ne.symm ng_g1
                have ng_g8 : g8 ≠ wr.heap.size := Nat.ne_of_lt (blk_lt BKg8.out)
                have nh_g8 := Ne.symm ng_g8
                have ng_b1 : b1 ≠ wr.heap.size := Nat.ne_of_lt (Nat.lt_of_lt_of_le HBY.out (below_size HB.out))
                have nh_b1 := Ne.symm ng_b1
                have hs_g1_0 : ∀ O, (wr.alloc O).cell? ⟨g1, 0, none⟩ = some (.int .i64 n) := fun O => (blk_cell (blk_alloc BKg1.out O) 0).trans rfl
                have hr_g1_0 : wr.cell? ⟨g1, 0, none⟩ = some (.int .i64 n) := (blk_cell BKg1.out 0).trans rfl
                have hs_g1_1 : ∀ O, (wr.alloc O).cell? ⟨g1, 1, none⟩ = some (.int .i64 d) := fun O => (blk_cell (blk_alloc BKg1.out O) 1).trans rfl
                have hr_g1_1 : wr.cell? ⟨g1, 1, none⟩ = some (.int .i64 d) := (blk_cell BKg1.out 1).trans rfl
                have hs_g8_0 : ∀ O, (wr.alloc O).cell? ⟨g8, 0, none⟩ = some (.int .i64 t0) := fun O => (blk_cell (blk_alloc BKg8.out O) 0).trans rfl
                have hr_g8_0 : wr.cell? ⟨g8, 0, none⟩ = some (.int .i64 t0) := (blk_cell BKg8.out 0).trans rfl
                have hr_b1 : wr.cell? ⟨b1, i, none⟩ = some (.int .i64 y) := (HB.out.cell HBY.out).trans HCY.out
                have hs_b1 : ∀ O, (wr.alloc O).cell? ⟨b1, i, none⟩ = some (.int .i64 y) := fun O => ((below_alloc (Below.refl _ _) O).cell (World.block_lt_of_cell? wr _ hr_b1)).trans hr_b1
                go_cut [17, 18] (fun v_a v_b wx => ∃ g3, v_a = .pointer (some ⟨g3, 0, none⟩) ∧ v_b = .bool ok ∧ Aside0 (w.heap.size ≤ g3) ∧ Aside0 (g1 ≠ g3) ∧ Aside0 (wx.heap[g1]? = some (.cells #[.int .i64 n, .int .i64 d] 24 (0, 0))) ∧ Aside0 (g8 ≠ g3) ∧ Aside0 (wx.heap[g8]? = some (.cells #[.int .i64 t0] 3 (0, 0))) ∧ Aside0 (wx.heap[g3]? = some (.cells #[.int .i64 n1, .int .i64 d1] 24 (0, 0))) ∧ Aside0 (Below w.heap.size w wx))
                case first =>
                  go_region_held3 (fun w' => w'.cell? ⟨g1, 0, none⟩ = some (.int .i64 n) ∧ w'.cell? ⟨g1, 1, none⟩ = some (.int .i64 d) ∧ w'.cell? ⟨g8, 0, none⟩ = some (.int .i64 t0) ∧ w'.cell? ⟨b1, i, none⟩ = some (.int .i64 y)) (go_keep)
                    ((first
                      | (go_at_call 16; refine (discI_c n d t0 y c _).mono ?_; rw [HDF.out]; rintro e w1_ ⟨rfl, hb⟩; have kg_g1 := blk_below (g := g1) (o := .cells #[.int .i64 n, .int .i64 d] 24 (0, 0)) (by first | exact BKg1.out | exact blk_drew BKg1.out | exact blk_alloc BKg1.out _ | exact blk_alloc (blk_drew BKg1.out) _ | exact blk_drew (blk_alloc BKg1.out _)) hb; have kc_g1_0 : w1_.cell? ⟨g1, 0, none⟩ = some (.int .i64 n) := (blk_cell kg_g1 0).trans rfl; have kc_g1_1 : w1_.cell? ⟨g1, 1, none⟩ = some (.int .i64 d) := (blk_cell kg_g1 1).trans rfl; have mg_g1 : g1 ≠ w1_.heap.size := Nat.ne_of_lt (blk_lt kg_g1); have mh_g1 := Ne.symm mg_g1; have kg_g8 := blk_below (g := g8) (o := .cells #[.int .i64 t0] 3 (0, 0)) (by first | exact BKg8.out | exact blk_drew BKg8.out | exact blk_alloc BKg8.out _ | exact blk_alloc (blk_drew BKg8.out) _ | exact blk_drew (blk_alloc BKg8.out _)) hb; have kc_g8_0 : w1_.cell? ⟨g8, 0, none⟩ = some (.int .i64 t0) := (blk_cell kg_g8 0).trans rfl; have mg_g8 : g8 ≠ w1_.heap.size := Nat.ne_of_lt (blk_lt kg_g8); have mh_g8 := Ne.symm mg_g8; have kb := am_ (below_step (by repeat first | (with_reducible first | exact HB.out | apply ba_ | apply bn_ | apply bd_) | exact HB.out) hb); have kc_b1 : w1_.cell? ⟨b1, i, none⟩ = some (.int .i64 y) := (kb.out.cell HBY.out).trans HCY.out; have mg_b1 : b1 ≠ w1_.heap.size := Nat.ne_of_lt (Nat.lt_of_lt_of_le HBY.out (below_size kb.out)); have mh_b1 := Ne.symm mg_b1; first | (have bk := blk_below (g := wr.heap.size) (o := .cells #[.int .i64 0, .int .i64 0] 24 (0, 0)) (by first | exact blk_new wr _ | exact blk_new wr.drew _ | exact blk_drew (blk_new wr _)) hb; have hz0_ : w1_.cell? ⟨wr.heap.size, 0, none⟩ = some (.int .i64 0) := (blk_cell bk 0).trans rfl; have hz1_ : w1_.cell? ⟨wr.heap.size, 1, none⟩ = some (.int .i64 0) := (blk_cell bk 1).trans rfl; have hz2_ := blk_frozen bk 0; have hz3_ := blk_frozen bk 1) | skip)))
                  all_goals (go_wp2_with fail; go_meet; first | exact ⟨_, rfl, rfl, ⟨below_size kb.out⟩, ⟨mg_g1⟩, ⟨blk_alloc kg_g1 _⟩, ⟨mg_g8⟩, ⟨blk_alloc kg_g8 _⟩, ⟨blk_new w1_ _⟩, ⟨below_alloc kb.out _⟩⟩ | exact ⟨_, rfl, rfl, ⟨below_size HB.out⟩, ⟨ng_g1⟩, ⟨blk_far (blk_far kg_g1 ng_g1 _) ng_g1 _⟩, ⟨ng_g8⟩, ⟨blk_far (blk_far kg_g8 ng_g8 _) ng_g8 _⟩, ⟨blk_put (cs := #[.int .i64 n1, .int .i64 0]) (blk_put (cs := #[.int .i64 0, .int .i64 0]) (bk) 0 _ rfl) 1 _ rfl⟩, ⟨below_set (below_set kb.out (below_size HB.out)) (below_size HB.out)⟩⟩)
                case rest =>
                  clear HB BKg1 BKg8
                  clear ha0_ ha1_ ha2_ ng_g1 nh_g1 hs_g1_0 hr_g1_0 hs_g1_1 hr_g1_1  ng_g8 nh_g8 hs_g8_0 hr_g8_0  ng_b1 nh_b1 hr_b1 hs_b1
                  obtain ⟨g3, rfl, rfl, GEg3, NEg1_g3, BKg1, NEg8_g3, BKg8, BKg3, HB⟩ := hcut
                  have hn1_ : b0 ≠ g3 := Nat.ne_of_lt (Nat.lt_of_lt_of_le HBX.out GEg3.out)
                  have hn2_ := Ne.symm hn1_
                  have hcx : wc.cell? ⟨b0, i, none⟩ = some (.int .i64 x) := (HB.out.cell HBX.out).trans HCX.out
                  have yg3_0 : wc.cell? ⟨g3, 0, none⟩ = some (.int .i64 n1) := (blk_cell BKg3.out 0).trans rfl; have fg3_0 := blk_frozen BKg3.out 0; have yg3_1 : wc.cell? ⟨g3, 1, none⟩ = some (.int .i64 d1) := (blk_cell BKg3.out 1).trans rfl; have fg3_1 := blk_frozen BKg3.out 1
                  cases ok with
                  | false =>
                    have hfz : FIN = (0, false) := by have h_ := HST.out; rw [if_neg (by simp)] at h_; exact h_
                    have HFZ := am_ hfz
                    clear hfz
                    go_wp2
                    go_ret2
                    exact ⟨by rw [HFZ.out]; rfl, (by repeat first | (with_reducible first | exact HB.out | apply ba_ | apply bn_ | apply bd_) | exact HB.out)⟩
                  | true =>
                    cases so with
                    | false =>
                      have hfz : FIN = (0, false) := by have h_ := HST.out; rw [if_neg (by simp)] at h_; exact h_
                      have HFZ := am_ hfz
                      clear hfz
                      go_wp2_with fail
                      refine (impl_ScaleAmount.calls k x n1 d1 mode sv false _ HK.out).mono ?_
                      rintro e v4_ ⟨rfl, hb⟩
                      have m_g1 := am_ (blk_below (g := g1) (o := .cells #[.int .i64 n, .int .i64 d] 24 (0, 0)) (by repeat (with_reducible first | exact BKg1.out | refine kn_ ?_ _ | refine kd_ ?_ | refine ka_ ?_ _)) hb)
                      have m_g8 := am_ (blk_below (g := g8) (o := .cells #[.int .i64 t0] 3 (0, 0)) (by repeat (with_reducible first | exact BKg8.out | refine kn_ ?_ _ | refine kd_ ?_ | refine ka_ ?_ _)) hb)
                      have n_ := am_ (below_step (by repeat first | (with_reducible first | exact HB.out | apply ba_ | apply bn_ | apply bd_) | exact HB.out) hb)
                      clear HB hb BKg1 BKg8 BKg3
                      have HB := n_
                      clear n_
                      have BKg1 := m_g1
                      clear m_g1
                      have BKg8 := m_g8
                      clear m_g8
                      go_wp2
                      go_ret2
                      exact ⟨by rw [HFZ.out]; rfl, (by repeat first | (with_reducible first | exact HB.out | apply ba_ | apply bn_ | apply bd_) | exact HB.out)⟩
                    | true =>
                      have HFS := am_ (show pvL n d t0 c mode (xs.drop (i + 1)) (ys.drop (i + 1)) (s + sv) = FIN from by have h_ := HST.out; rw [if_pos ⟨rfl, rfl⟩] at h_; exact h_.symm)
                      go_wp2_with fail
                      refine (impl_ScaleAmount.calls k x n1 d1 mode sv true _ HK.out).mono ?_
                      rintro e v5_ ⟨rfl, hb⟩
                      have m_g1 := am_ (blk_below (g := g1) (o := .cells #[.int .i64 n, .int .i64 d] 24 (0, 0)) (by repeat (with_reducible first | exact BKg1.out | refine kn_ ?_ _ | refine kd_ ?_ | refine ka_ ?_ _)) hb)
                      have m_g8 := am_ (blk_below (g := g8) (o := .cells #[.int .i64 t0] 3 (0, 0)) (by repeat (with_reducible first | exact BKg8.out | refine kn_ ?_ _ | refine kd_ ?_ | refine ka_ ?_ _)) hb)
                      have n_ := am_ (below_step (by repeat first | (with_reducible first | exact HB.out | apply ba_ | apply bn_ | apply bd_) | exact HB.out) hb)
                      clear HB hb BKg1 BKg8 BKg3
                      have HB := n_
                      clear n_
                      have BKg1 := m_g1
                      clear m_g1
                      have BKg8 := m_g8
                      clear m_g8
                      go_wp2
                      go_roundg (gk - 1)
                      case measure => have := HI.out; omega
                      case rel => exact ⟨i + 1, s + sv, by go_num, by go_num, ⟨by have := HI.out; omega⟩, ⟨by omega, by omega⟩, HFS, ⟨(by (with_reducible repeat first | refine kn_ ?_ _ | refine kd_ ?_ | refine ka_ ?_ _); exact BKg1.out)⟩, ⟨(by (with_reducible repeat first | refine kn_ ?_ _ | refine kd_ ?_ | refine ka_ ?_ _); exact BKg8.out)⟩, ⟨(by repeat first | (with_reducible first | exact HB.out | apply ba_ | apply bn_ | apply bd_) | exact HB.out)⟩⟩
              · obtain rfl : i = xs.length := by have := HI.out; omega
                have ci : decide (xs.length < xs.length) = false := decide_eq_false (by omega)
                have hfe := HFIN.out
                rw [pvL_end] at hfe
                have hs1 := HS.out.1
                have hs2 := HS.out.2
                have ha := isAmount_eq s
                by_cases cs : -1000000000 ≤ s ∧ s ≤ 1000000000
                · rw [decide_eq_true cs] at ha
                  rw [if_pos cs] at hfe
                  have HA := am_ ha
                  have HFE := am_ hfe
                  clear ha hfe
                  go_wp2_with fail
                  refine (impl_isAmount.calls s true _ HA.out).mono ?_
                  rintro e w1_ ⟨rfl, hb0⟩
                  have hb := db_ hb0
                  clear hb0
                  replace HB := am_ (below_step (by repeat first | (with_reducible first | exact HB.out | apply ba_ | apply bn_ | apply bd_) | exact HB.out) hb); clear hb
                  go_wp2
                  go_ret2
                  exact ⟨by rw [← HFE.out]; rfl, HB.out⟩
                · rw [decide_eq_false cs] at ha
                  rw [if_neg cs] at hfe
                  have HA := am_ ha
                  have HFE := am_ hfe
                  clear ha hfe
                  go_wp2_with fail
                  refine (impl_isAmount.calls s false _ HA.out).mono ?_
                  rintro e w1_ ⟨rfl, hb0⟩
                  have hb := db_ hb0
                  clear hb0
                  replace HB := am_ (below_step (by repeat first | (with_reducible first | exact HB.out | apply ba_ | apply bn_ | apply bd_) | exact HB.out) hb); clear hb
                  go_wp2
                  go_ret2
                  exact ⟨by rw [← HFE.out]; rfl, HB.out⟩
        · rw [decide_eq_false c3_] at g3_
          have G4 := am_ g3_
          clear g3_
          have hfin : presA xs ys t0 n d c mode = (0, false) := by unfold presA; rw [if_neg (fun v => c3_ v.2.2.2)]
          rw [hfin]
          clear hfin
          have hlq : ((ys.length : Int) = (xs.length : Int)) := by omega
          go_enter Try.func27, Try.ntmps27
          go_wp2_with (first
            | (((with_reducible refine gate_dst (N := 8) rfl ?_); refine box_event ?hg (N := 8) ?hd (cs := #[.int .i64 t0]) (t := 3) ?hr ?_; (case hd => rfl); (case hg => rfl); (case hr => first | (go_simp; done) | (go_simp; rfl))); intro g8 hg w_g8 hbox hb; have n_ := am_ (below_step (by repeat first | (with_reducible first | exact HB.out | apply ba_ | apply bn_ | apply bd_) | exact HB.out) hb); have BKg8 := am_ hbox; have GEg8 := am_ (show w.heap.size ≤ g8 from by rw [hg]; exact below_size (by repeat first | (with_reducible first | exact HB.out | apply ba_ | apply bn_ | apply bd_) | exact HB.out)); clear HB ; have HB := n_; clear n_ hb hbox hg)
            | (((with_reducible refine gate_dst (N := 9) rfl ?_); refine box_event ?hg (N := 9) ?hd (cs := #[.int .i64 n,.int .i64 d]) (t := 24) ?hr ?_; (case hd => rfl); (case hg => rfl); (case hr => first | (go_simp; done) | (go_simp; rfl))); intro g1 hg w_g1 hbox hb; have n_ := am_ (below_step (by repeat first | (with_reducible first | exact HB.out | apply ba_ | apply bn_ | apply bd_ | refine below_set ?_ GEg8.out) | exact HB.out) hb); have m_g8 := am_ (blk_below (blk_below BKg8.out (by repeat first | exact Below.refl _ _ | apply ba_ | apply bn_ | apply bd_)) hb); have NEg8_g1 := am_ (show g8 ≠ g1 from by rw [hg]; exact Nat.ne_of_lt (blk_lt (blk_below BKg8.out (by repeat first | exact Below.refl _ _ | apply ba_ | apply bn_ | apply bd_)))); have NEg1_g8 := am_ (Ne.symm NEg8_g1.out); have BKg1 := am_ hbox; have GEg1 := am_ (show w.heap.size ≤ g1 from by rw [hg]; exact below_size (by repeat first | (with_reducible first | exact HB.out | apply ba_ | apply bn_ | apply bd_ | refine below_set ?_ GEg8.out) | exact HB.out)); clear HB BKg8; have HB := n_; clear n_ hb hbox hg; have BKg8 := m_g8; clear m_g8)
            )
          refine (areAms_c _ _ xs true G1.out _ (by repeat first | exact (Kd.C_below HR0.out HB.out) | with_reducible refine ca_ ?_ _ | with_reducible refine cn_ ?_ _ | with_reducible refine cd_ ?_) HA0.out).mono ?_
          rintro e w1_ ⟨rfl, hb⟩
          replace BKg8 := am_ (blk_below (blk_below BKg8.out (by repeat first | exact Below.refl _ _ | apply ba_ | apply bn_ | apply bd_)) hb); replace BKg1 := am_ (blk_below (blk_below BKg1.out (by repeat first | exact Below.refl _ _ | apply ba_ | apply bn_ | apply bd_)) hb); replace HB := am_ (below_step (by repeat first | (with_reducible first | exact HB.out | apply ba_ | apply bn_ | apply bd_) | exact HB.out) hb); clear hb
          have yg8_0 : w1_.cell? ⟨g8, 0, none⟩ = some (.int .i64 t0) := (blk_cell BKg8.out 0).trans rfl; have fg8_0 := blk_frozen BKg8.out 0
          go_wp2_with fail
          clear yg8_0 fg8_0
          refine (impl_isDay.calls t0 true _ G3.out).mono ?_
          rintro e w2_ ⟨rfl, hb0⟩
          have hb := db_ hb0
          clear hb0
          replace BKg8 := am_ (blk_below (blk_below BKg8.out (by repeat first | exact Below.refl _ _ | apply ba_ | apply bn_ | apply bd_)) hb); replace BKg1 := am_ (blk_below (blk_below BKg1.out (by repeat first | exact Below.refl _ _ | apply ba_ | apply bn_ | apply bd_)) hb); replace HB := am_ (below_step (by repeat first | (with_reducible first | exact HB.out | apply ba_ | apply bn_ | apply bd_) | exact HB.out) hb); clear hb
          have yg1_0 : w2_.cell? ⟨g1, 0, none⟩ = some (.int .i64 n) := (blk_cell BKg1.out 0).trans rfl; have fg1_0 := blk_frozen BKg1.out 0; have yg1_1 : w2_.cell? ⟨g1, 1, none⟩ = some (.int .i64 d) := (blk_cell BKg1.out 1).trans rfl; have fg1_1 := blk_frozen BKg1.out 1
          go_wp2_with fail
          clear yg1_0 fg1_0 yg1_1 fg1_1
          refine (impl_isInterest.calls kr n d c mode false _ G4.out).mono ?_
          rintro e w3_ ⟨rfl, hb⟩
          replace BKg8 := am_ (blk_below (blk_below BKg8.out (by repeat first | exact Below.refl _ _ | apply ba_ | apply bn_ | apply bd_)) hb); replace BKg1 := am_ (blk_below (blk_below BKg1.out (by repeat first | exact Below.refl _ _ | apply ba_ | apply bn_ | apply bd_)) hb); replace HB := am_ (below_step (by repeat first | (with_reducible first | exact HB.out | apply ba_ | apply bn_ | apply bd_) | exact HB.out) hb); clear hb
          go_wp2
          go_ret2
          exact ⟨rfl, (by repeat first | (with_reducible first | exact HB.out | apply ba_ | apply bn_ | apply bd_ | refine below_set ?_ GEg8.out | refine below_set ?_ GEg1.out) | exact HB.out)⟩
      · rw [decide_eq_false c2_] at g2_
        have G3 := am_ g2_
        clear g2_
        have hfin : presA xs ys t0 n d c mode = (0, false) := by unfold presA; rw [if_neg (fun v => c2_ v.2.2.1)]
        rw [hfin]
        clear hfin
        have hlq : ((ys.length : Int) = (xs.length : Int)) := by omega
        go_enter Try.func27, Try.ntmps27
        go_wp2_with (first
          | (((with_reducible refine gate_dst (N := 8) rfl ?_); refine box_event ?hg (N := 8) ?hd (cs := #[.int .i64 t0]) (t := 3) ?hr ?_; (case hd => rfl); (case hg => rfl); (case hr => first | (go_simp; done) | (go_simp; rfl))); intro g8 hg w_g8 hbox hb; have n_ := am_ (below_step (by repeat first | (with_reducible first | exact HB.out | apply ba_ | apply bn_ | apply bd_) | exact HB.out) hb); have BKg8 := am_ hbox; have GEg8 := am_ (show w.heap.size ≤ g8 from by rw [hg]; exact below_size (by repeat first | (with_reducible first | exact HB.out | apply ba_ | apply bn_ | apply bd_) | exact HB.out)); clear HB ; have HB := n_; clear n_ hb hbox hg)
          | (((with_reducible refine gate_dst (N := 9) rfl ?_); refine box_event ?hg (N := 9) ?hd (cs := #[.int .i64 n,.int .i64 d]) (t := 24) ?hr ?_; (case hd => rfl); (case hg => rfl); (case hr => first | (go_simp; done) | (go_simp; rfl))); intro g1 hg w_g1 hbox hb; have n_ := am_ (below_step (by repeat first | (with_reducible first | exact HB.out | apply ba_ | apply bn_ | apply bd_ | refine below_set ?_ GEg8.out) | exact HB.out) hb); have m_g8 := am_ (blk_below (blk_below BKg8.out (by repeat first | exact Below.refl _ _ | apply ba_ | apply bn_ | apply bd_)) hb); have NEg8_g1 := am_ (show g8 ≠ g1 from by rw [hg]; exact Nat.ne_of_lt (blk_lt (blk_below BKg8.out (by repeat first | exact Below.refl _ _ | apply ba_ | apply bn_ | apply bd_)))); have NEg1_g8 := am_ (Ne.symm NEg8_g1.out); have BKg1 := am_ hbox; have GEg1 := am_ (show w.heap.size ≤ g1 from by rw [hg]; exact below_size (by repeat first | (with_reducible first | exact HB.out | apply ba_ | apply bn_ | apply bd_ | refine below_set ?_ GEg8.out) | exact HB.out)); clear HB BKg8; have HB := n_; clear n_ hb hbox hg; have BKg8 := m_g8; clear m_g8)
          )
        refine (areAms_c _ _ xs true G1.out _ (by repeat first | exact (Kd.C_below HR0.out HB.out) | with_reducible refine ca_ ?_ _ | with_reducible refine cn_ ?_ _ | with_reducible refine cd_ ?_) HA0.out).mono ?_
        rintro e w1_ ⟨rfl, hb⟩
        replace BKg8 := am_ (blk_below (blk_below BKg8.out (by repeat first | exact Below.refl _ _ | apply ba_ | apply bn_ | apply bd_)) hb); replace BKg1 := am_ (blk_below (blk_below BKg1.out (by repeat first | exact Below.refl _ _ | apply ba_ | apply bn_ | apply bd_)) hb); replace HB := am_ (below_step (by repeat first | (with_reducible first | exact HB.out | apply ba_ | apply bn_ | apply bd_) | exact HB.out) hb); clear hb
        have yg8_0 : w1_.cell? ⟨g8, 0, none⟩ = some (.int .i64 t0) := (blk_cell BKg8.out 0).trans rfl; have fg8_0 := blk_frozen BKg8.out 0
        go_wp2_with fail
        clear yg8_0 fg8_0
        refine (impl_isDay.calls t0 false _ G3.out).mono ?_
        rintro e w2_ ⟨rfl, hb0⟩
        have hb := db_ hb0
        clear hb0
        replace BKg8 := am_ (blk_below (blk_below BKg8.out (by repeat first | exact Below.refl _ _ | apply ba_ | apply bn_ | apply bd_)) hb); replace BKg1 := am_ (blk_below (blk_below BKg1.out (by repeat first | exact Below.refl _ _ | apply ba_ | apply bn_ | apply bd_)) hb); replace HB := am_ (below_step (by repeat first | (with_reducible first | exact HB.out | apply ba_ | apply bn_ | apply bd_) | exact HB.out) hb); clear hb
        go_wp2
        go_ret2
        exact ⟨rfl, (by repeat first | (with_reducible first | exact HB.out | apply ba_ | apply bn_ | apply bd_ | refine below_set ?_ GEg8.out | refine below_set ?_ GEg1.out) | exact HB.out)⟩
    · have cb1_ : decide (ys.length = xs.length) = false := decide_eq_false c1_
      have hfin : presA xs ys t0 n d c mode = (0, false) := by unfold presA; rw [if_neg (fun v => c1_ v.2.1)]
      rw [hfin]
      clear hfin
      have hlq : ¬ ((ys.length : Int) = (xs.length : Int)) := by omega
      go_enter Try.func27, Try.ntmps27
      go_wp2_with (first
        | (((with_reducible refine gate_dst (N := 8) rfl ?_); refine box_event ?hg (N := 8) ?hd (cs := #[.int .i64 t0]) (t := 3) ?hr ?_; (case hd => rfl); (case hg => rfl); (case hr => first | (go_simp; done) | (go_simp; rfl))); intro g8 hg w_g8 hbox hb; have n_ := am_ (below_step (by repeat first | (with_reducible first | exact HB.out | apply ba_ | apply bn_ | apply bd_) | exact HB.out) hb); have BKg8 := am_ hbox; have GEg8 := am_ (show w.heap.size ≤ g8 from by rw [hg]; exact below_size (by repeat first | (with_reducible first | exact HB.out | apply ba_ | apply bn_ | apply bd_) | exact HB.out)); clear HB ; have HB := n_; clear n_ hb hbox hg)
        | (((with_reducible refine gate_dst (N := 9) rfl ?_); refine box_event ?hg (N := 9) ?hd (cs := #[.int .i64 n,.int .i64 d]) (t := 24) ?hr ?_; (case hd => rfl); (case hg => rfl); (case hr => first | (go_simp; done) | (go_simp; rfl))); intro g1 hg w_g1 hbox hb; have n_ := am_ (below_step (by repeat first | (with_reducible first | exact HB.out | apply ba_ | apply bn_ | apply bd_ | refine below_set ?_ GEg8.out) | exact HB.out) hb); have m_g8 := am_ (blk_below (blk_below BKg8.out (by repeat first | exact Below.refl _ _ | apply ba_ | apply bn_ | apply bd_)) hb); have NEg8_g1 := am_ (show g8 ≠ g1 from by rw [hg]; exact Nat.ne_of_lt (blk_lt (blk_below BKg8.out (by repeat first | exact Below.refl _ _ | apply ba_ | apply bn_ | apply bd_)))); have NEg1_g8 := am_ (Ne.symm NEg8_g1.out); have BKg1 := am_ hbox; have GEg1 := am_ (show w.heap.size ≤ g1 from by rw [hg]; exact below_size (by repeat first | (with_reducible first | exact HB.out | apply ba_ | apply bn_ | apply bd_ | refine below_set ?_ GEg8.out) | exact HB.out)); clear HB BKg8; have HB := n_; clear n_ hb hbox hg; have BKg8 := m_g8; clear m_g8)
        )
      refine (areAms_c _ _ xs true G1.out _ (by repeat first | exact (Kd.C_below HR0.out HB.out) | with_reducible refine ca_ ?_ _ | with_reducible refine cn_ ?_ _ | with_reducible refine cd_ ?_) HA0.out).mono ?_
      rintro e w1_ ⟨rfl, hb⟩
      replace BKg8 := am_ (blk_below (blk_below BKg8.out (by repeat first | exact Below.refl _ _ | apply ba_ | apply bn_ | apply bd_)) hb); replace BKg1 := am_ (blk_below (blk_below BKg1.out (by repeat first | exact Below.refl _ _ | apply ba_ | apply bn_ | apply bd_)) hb); replace HB := am_ (below_step (by repeat first | (with_reducible first | exact HB.out | apply ba_ | apply bn_ | apply bd_) | exact HB.out) hb); clear hb
      go_wp2
      go_ret2
      exact ⟨rfl, (by repeat first | (with_reducible first | exact HB.out | apply ba_ | apply bn_ | apply bd_ | refine below_set ?_ GEg8.out | refine below_set ?_ GEg1.out) | exact HB.out)⟩
  · rw [decide_eq_false c0_] at g0_
    have G1 := am_ g0_
    clear g0_
    have hfin : presA xs ys t0 n d c mode = (0, false) := by unfold presA; rw [if_neg (fun v => c0_ v.1)]
    rw [hfin]
    clear hfin
    go_enter Try.func27, Try.ntmps27
    go_wp2_with (first
      | (((with_reducible refine gate_dst (N := 8) rfl ?_); refine box_event ?hg (N := 8) ?hd (cs := #[.int .i64 t0]) (t := 3) ?hr ?_; (case hd => rfl); (case hg => rfl); (case hr => first | (go_simp; done) | (go_simp; rfl))); intro g8 hg w_g8 hbox hb; have n_ := am_ (below_step (by repeat first | (with_reducible first | exact HB.out | apply ba_ | apply bn_ | apply bd_) | exact HB.out) hb); have BKg8 := am_ hbox; have GEg8 := am_ (show w.heap.size ≤ g8 from by rw [hg]; exact below_size (by repeat first | (with_reducible first | exact HB.out | apply ba_ | apply bn_ | apply bd_) | exact HB.out)); clear HB ; have HB := n_; clear n_ hb hbox hg)
      | (((with_reducible refine gate_dst (N := 9) rfl ?_); refine box_event ?hg (N := 9) ?hd (cs := #[.int .i64 n,.int .i64 d]) (t := 24) ?hr ?_; (case hd => rfl); (case hg => rfl); (case hr => first | (go_simp; done) | (go_simp; rfl))); intro g1 hg w_g1 hbox hb; have n_ := am_ (below_step (by repeat first | (with_reducible first | exact HB.out | apply ba_ | apply bn_ | apply bd_ | refine below_set ?_ GEg8.out) | exact HB.out) hb); have m_g8 := am_ (blk_below (blk_below BKg8.out (by repeat first | exact Below.refl _ _ | apply ba_ | apply bn_ | apply bd_)) hb); have NEg8_g1 := am_ (show g8 ≠ g1 from by rw [hg]; exact Nat.ne_of_lt (blk_lt (blk_below BKg8.out (by repeat first | exact Below.refl _ _ | apply ba_ | apply bn_ | apply bd_)))); have NEg1_g8 := am_ (Ne.symm NEg8_g1.out); have BKg1 := am_ hbox; have GEg1 := am_ (show w.heap.size ≤ g1 from by rw [hg]; exact below_size (by repeat first | (with_reducible first | exact HB.out | apply ba_ | apply bn_ | apply bd_ | refine below_set ?_ GEg8.out) | exact HB.out)); clear HB BKg8; have HB := n_; clear n_ hb hbox hg; have BKg8 := m_g8; clear m_g8)
      )
    refine (areAms_c _ _ xs false G1.out _ (by repeat first | exact (Kd.C_below HR0.out HB.out) | with_reducible refine ca_ ?_ _ | with_reducible refine cn_ ?_ _ | with_reducible refine cd_ ?_) HA0.out).mono ?_
    rintro e w1_ ⟨rfl, hb⟩
    replace BKg8 := am_ (blk_below (blk_below BKg8.out (by repeat first | exact Below.refl _ _ | apply ba_ | apply bn_ | apply bd_)) hb); replace BKg1 := am_ (blk_below (blk_below BKg1.out (by repeat first | exact Below.refl _ _ | apply ba_ | apply bn_ | apply bd_)) hb); replace HB := am_ (below_step (by repeat first | (with_reducible first | exact HB.out | apply ba_ | apply bn_ | apply bd_) | exact HB.out) hb); clear hb
    go_wp2
    go_ret2
    exact ⟨rfl, (by repeat first | (with_reducible first | exact HB.out | apply ba_ | apply bn_ | apply bd_ | refine below_set ?_ GEg8.out | refine below_set ?_ GEg1.out) | exact HB.out)⟩
theorem own_ne {α : Type} {k : Kd α} {e base : Nat} {w : World} {ok : Nat → Prop} {v : Value} {xs : List α} (h : k.R e w base ok v xs) {g t : Nat} {cs : Array Value} (hb : w.heap[g]? = some (.cells cs t (0, 0))) (ht : e ≠ t) : some g ≠ v.ownBlock := by
  intro he
  obtain ⟨inner, ho⟩ := Kd.R_own h
  obtain ⟨cells, hc⟩ := own_typed ho g he.symm
  rw [hb] at hc
  injection hc with h1
  injection h1 with _ h2
  exact ht h2.symm
/-- The cursor of the draws, in its box at g: the code that it reads came in, its place is at most B. -/
def Cur (w0 w : World) (g : Nat) (code : List Int) (B : Int) : Prop :=
  w0.heap.size ≤ g ∧ (∀ x ∈ code, 0 ≤ x ∧ x ≤ 255) ∧ ∃ (A : Option Addr) (c : Nat) (p s : Int), w.heap[g]? = some (.cells #[.slice A code.length c, .int .i64 p, .int .u64 s] 108 (0, 0)) ∧ (Kd.int .u8).C w0 A code.length code ∧ 0 ≤ p ∧ p ≤ B
theorem Cur.blk {w0 w : World} {g : Nat} {code : List Int} {B : Int} (h : Cur w0 w g code B) : ∃ cs, w.heap[g]? = some (.cells cs 108 (0, 0)) := by
  obtain ⟨_, _, A, c, p, s, h1, _⟩ := h
  exact ⟨_, h1⟩
theorem Cur.ge {w0 w : World} {g : Nat} {code : List Int} {B : Int} (h : Cur w0 w g code B) : w0.heap.size ≤ g := h.1
theorem Cur.lt {w0 w : World} {g : Nat} {code : List Int} {B : Int} (h : Cur w0 w g code B) : g < w.heap.size := by
  obtain ⟨cs, h1⟩ := h.blk
  exact blk_lt h1
theorem Cur.step {w0 w w1 : World} {g : Nat} {code : List Int} {B B' : Int} (h : Cur w0 w g code B) (hg : w1.heap[g]? = w.heap[g]?) (hb : B ≤ B') : Cur w0 w1 g code B' := by
  obtain ⟨h0, h1, A, c, p, s, h2, h3, h4, h5⟩ := h
  exact ⟨h0, h1, A, c, p, s, by rw [hg]; exact h2, h3, h4, by omega⟩
theorem Cur.below {w0 w w1 : World} {g : Nat} {code : List Int} {B : Int} (h : Cur w0 w g code B) (hb : Below w.heap.size w w1) : Cur w0 w1 g code B := by
  obtain ⟨h0, h1, A, c, p, s, h2, h3⟩ := h
  exact ⟨h0, h1, A, c, p, s, blk_below h2 hb, h3⟩
theorem Cur.drew {w0 w : World} {g : Nat} {code : List Int} {B : Int} (h : Cur w0 w g code B) : Cur w0 w.drew g code B := h
theorem Cur.drewN {w0 w : World} {g : Nat} {code : List Int} {B : Int} (h : Cur w0 w g code B) (n : Nat) : Cur w0 (w.drewN n) g code B := h
theorem Cur.alloc {w0 w : World} {g : Nat} {code : List Int} {B : Int} (h : Cur w0 w g code B) (o : Obj) : Cur w0 (w.alloc o) g code B := h.below (below_alloc (Below.refl _ _) o)
theorem Cur.new {w0 w : World} {A : Option Addr} {c : Nat} {code : List Int} (hb : Below w0.heap.size w0 w) (hc : (Kd.int .u8).C w0 A code.length code) (hx : ∀ x ∈ code, 0 ≤ x ∧ x ≤ 255) : Cur w0 (w.alloc (.cells #[.slice A code.length c, .int .i64 0, .int .u64 0] 108 (0, 0))) w.heap.size code 0 := ⟨below_size hb, hx, A, c, 0, 0, blk_new w _, hc, by decide, by decide⟩
/-- A row of one's own keeps what it holds while the cursor goes on. -/
theorem R_draw {α : Type} {d : Kd α} {e base : Nat} {w0 w w1 : World} {v : Value} {xs : List α} {g : Nat} {code : List Int} {B : Int} {ok : Nat → Prop} (hf : ∀ (w : World) (b : Nat) (p q : Nat → Prop) x cs, d.M w b p x cs → d.M w b q x cs) (h : d.R e w base ok v xs) (hI : Cur w0 w g code B) (ht : e ≠ 108) (hk : KeepBut w w1 g none) : d.R e w1 base (fun _ => True) v xs := by
  obtain ⟨cs, hb⟩ := hI.blk
  have h1 : d.R e w base (fun k => k ≠ g) v xs := R_flat hf h (fun k hk he => own_ne h hb ht (by rw [hk, he]))
  exact Kd.R_mono (Kd.R_keep h1 hk (fun _ h => h)) (fun _ _ => trivial)
theorem R_ne {α : Type} {d : Kd α} {e base : Nat} {w0 w : World} {A : Option Addr} {n c : Nat} {xs : List α} {g : Nat} {code : List Int} {B : Int} {ok : Nat → Prop} (h : d.R e w base ok (.slice A n c) xs) (hI : Cur w0 w g code B) (ht : e ≠ 108) : ∀ ad, A = some ad → 0 < n → ad.block ≠ g := by
  intro ad he hn hg
  obtain ⟨cs, hb⟩ := hI.blk
  subst he
  obtain ⟨e1, _, _⟩ := Kd.R_reads' h
  obtain ⟨b, cap, e2, _⟩ := Kd.R_form h (by omega)
  injection e2 with e2
  injection e2 with e2
  subst e2
  obtain ⟨cells, hc⟩ := R_block h hn
  rw [show b = g from hg, hb] at hc
  injection hc with h1
  injection h1 with _ h2
  exact ht h2.symm
theorem seed_bd (x : Int) : 0 ≤ Go.bits .and .u64 (IntKind.u64.wrap x / 1099511627776) 255 ∧ Go.bits .and .u64 (IntKind.u64.wrap x / 1099511627776) 255 ≤ 255 := by
  have hw : ∀ n : Int, 0 ≤ n → n < 2 ^ 64 → IntKind.u64.wrap n = n := fun n h1 h2 => by
    have e : IntKind.u64.wrap n = n % 18446744073709551616 := by simp [IntKind.wrap, IntKind.bits, IntKind.signed]
    rw [e]; omega
  have e : IntKind.u64.wrap x = x % 18446744073709551616 := by simp [IntKind.wrap, IntKind.bits, IntKind.signed]
  rw [e]
  obtain ⟨y, hy⟩ : ∃ y, y = x % 18446744073709551616 / 1099511627776 := ⟨_, rfl⟩
  have hb : 0 ≤ y ∧ y < 2 ^ 64 := by omega
  rw [← hy]
  have h := Go.bits_mask .u64 64 (by decide) hw 8 (by decide) y hb.1 hb.2
  have h2 : Go.bits .and .u64 y 255 = y % 256 := h
  rw [h2]; omega
theorem wrap_small (v : Int) (h : 0 ≤ v ∧ v ≤ 255) : IntKind.i64.wrap v = v := IntWalk.i64_in _ (by omega)
set_option maxHeartbeats 8000000 in
set_option maxRecDepth 100000 in
theorem next_c (g : Nat) (code : List Int) (B : Int) (w0 w : World) (hI : Cur w0 w g code B) (hB : Below w0.heap.size w0 w) (hb : B ≤ 1000000000000) :
    Calls Try.prog 128 #[.pointer (some ⟨g, 0, none⟩)] w fun e w' => ∃ v, e = .returned (.int .i64 v) ∧ (0 ≤ v ∧ v ≤ 255) ∧ Cur w0 w' g code (B + 1) ∧ Below w0.heap.size w0 w' ∧ KeepBut w w' g none := by
  obtain ⟨hge, hx, A, c, p, s, hg, hc, hp0, hp1⟩ := hI
  have BKg := am_ hg
  have GEg := am_ hge
  have HX := am_ hx
  have HC := am_ hc
  have HB := am_ hB
  have HK := am_ (KeepBut.refl w g none)
  have hbd : p ≤ 1000000000000 := by omega
  have HP := am_ (show p + 1 ≤ B + 1 from by omega)
  clear hg hge hx hc hB hp1
  by_cases cl : p < code.length
  · have c1 : decide (p < (code.length : Int)) = true := decide_eq_true cl
    have c2 : decide (p + 1 ≤ (code.length : Int)) = true := decide_eq_true (by omega)
    obtain ⟨ad, e1, hcx⟩ := Kd.at_int HC.out p hp0 cl
    cases e1
    replace hcx := HB.out.cell (World.block_lt_of_cell? w0 _ hcx) |>.trans hcx
    obtain ⟨x, hxe⟩ : ∃ x, x = rd code p := ⟨_, rfl⟩
    have hxb : 0 ≤ x ∧ x ≤ 255 := by
      rw [hxe, rd, List.getD_eq_getElem?_getD, List.getElem?_eq_getElem (by omega)]
      exact HX.out _ (List.getElem_mem _)
    rw [← hxe] at hcx
    have hwx := wrap_small x hxb
    have HXB := am_ hxb
    have p1 : (0 ≤ p) = True := eq_true hp0
    have p2 : (p < (code.length : Int)) = True := eq_true cl
    clear hxe hxb
    have yg_0 : w.cell? ⟨g, 0, none⟩ = some (.slice (some ad) code.length c) := (blk_cell BKg.out 0).trans rfl; have fg_0 := blk_frozen BKg.out 0; have yg_1 : w.cell? ⟨g, 1, none⟩ = some (.int .i64 p) := (blk_cell BKg.out 1).trans rfl; have fg_1 := blk_frozen BKg.out 1; have yg_2 : w.cell? ⟨g, 2, none⟩ = some (.int .u64 s) := (blk_cell BKg.out 2).trans rfl; have fg_2 := blk_frozen BKg.out 2
    go_enter Try.func128, Try.ntmps128
    go_wp2
    repeat (go_quiet (fail); try go_wp2)
    go_ret
    exact ⟨x, rfl, HXB.out, ⟨GEg.out, HX.out, some ad, c, p + 1, _, (by (with_reducible repeat first | refine kn_ ?_ _ | refine kd_ ?_ | refine ka_ ?_ _); refine blk_put (cs := #[.slice (some ad) code.length c, .int .i64 (p + 1), .int .u64 s]) ?_ 2 _ rfl; (with_reducible repeat first | refine kn_ ?_ _ | refine kd_ ?_ | refine ka_ ?_ _); refine blk_put (cs := #[.slice (some ad) code.length c, .int .i64 p, .int .u64 s]) ?_ 1 _ rfl; (with_reducible repeat first | refine kn_ ?_ _ | refine kd_ ?_ | refine ka_ ?_ _); exact BKg.out), HC.out, by omega, HP.out⟩, (by repeat first | (with_reducible first | exact HB.out | apply ba_ | apply bn_ | apply bd_ | refine below_set ?_ GEg.out) | exact HB.out), by repeat (first | (with_reducible first | exact HK.out | apply KeepBut.set_ | apply keep_drewN | apply keep_drew | apply keep_alloc) | exact HK.out)⟩
  · have c1 : decide (p < (code.length : Int)) = false := decide_eq_false cl
    have c2 : decide (p + 1 ≤ (code.length : Int)) = false := decide_eq_false (by omega)
    have yg_0 : w.cell? ⟨g, 0, none⟩ = some (.slice A code.length c) := (blk_cell BKg.out 0).trans rfl; have fg_0 := blk_frozen BKg.out 0; have yg_1 : w.cell? ⟨g, 1, none⟩ = some (.int .i64 p) := (blk_cell BKg.out 1).trans rfl; have fg_1 := blk_frozen BKg.out 1; have yg_2 : w.cell? ⟨g, 2, none⟩ = some (.int .u64 s) := (blk_cell BKg.out 2).trans rfl; have fg_2 := blk_frozen BKg.out 2
    go_enter Try.func128, Try.ntmps128
    go_wp2
    repeat (go_quiet (fail); try go_wp2)
    go_ret
    refine ⟨_, rfl, ?_, ⟨GEg.out, HX.out, A, c, p + 1, _, (by (with_reducible repeat first | refine kn_ ?_ _ | refine kd_ ?_ | refine ka_ ?_ _); refine blk_put (cs := #[.slice A code.length c, .int .i64 (p + 1), .int .u64 s]) ?_ 2 _ rfl; (with_reducible repeat first | refine kn_ ?_ _ | refine kd_ ?_ | refine ka_ ?_ _); refine blk_put (cs := #[.slice A code.length c, .int .i64 p, .int .u64 s]) ?_ 1 _ rfl; (with_reducible repeat first | refine kn_ ?_ _ | refine kd_ ?_ | refine ka_ ?_ _); exact BKg.out), HC.out, by omega, HP.out⟩, (by repeat first | (with_reducible first | exact HB.out | apply ba_ | apply bn_ | apply bd_ | refine below_set ?_ GEg.out) | exact HB.out), by repeat (first | (with_reducible first | exact HK.out | apply KeepBut.set_ | apply keep_drewN | apply keep_drew | apply keep_alloc) | exact HK.out)⟩
    have h := seed_bd (IntKind.u64.wrap (IntKind.u64.wrap (s * 6364136223846793005)) + 902902)
    rw [wrapId (by omega)]
    exact h
/-- A row of numbers, as it lies. -/
def numsA (ls : List Int) : Array Value := (ls.map (fun x => Value.int .i64 x)).toArray
theorem C_blk {w : World} {b : Nat} {ls : List Int} (h : w.heap[b]? = some (.cells (numsA ls) 3 (0, 0))) {j : Nat} (hj : j < ls.length) : w.cell? ⟨b, j, none⟩ = some (.int .i64 (ls.getD j 0)) := by
  refine (blk_cell h j).trans ?_
  rw [numsA, List.getElem?_toArray, List.getElem?_map, List.getD_eq_getElem?_getD, List.getElem?_eq_getElem hj]
  rfl
theorem blk_ne {w : World} {b g t t' : Nat} {cs cs' : Array Value} (h : w.heap[b]? = some (.cells cs t (0, 0))) (h' : w.heap[g]? = some (.cells cs' t' (0, 0))) (ht : t ≠ t') : b ≠ g := by
  rintro rfl
  rw [h] at h'
  injection h' with h'
  injection h' with _ h'
  exact ht h'
/-- What a draw leaves: the cursor, what lay before, and all but the cursor's block. -/
def Dr (w0 w w' : World) (g : Nat) (code : List Int) (B : Int) : Prop := Cur w0 w' g code B ∧ Below w0.heap.size w0 w' ∧ KeepBut w w' g none
theorem Dr.refl {w0 w : World} {g : Nat} {code : List Int} {B B' : Int} (h : Cur w0 w g code B) (hb : Below w0.heap.size w0 w) (hB : B ≤ B') : Dr w0 w w g code B' := ⟨h.step rfl hB, hb, KeepBut.refl w g none⟩
theorem Dr.trans {w0 w w1 w2 : World} {g : Nat} {code : List Int} {B B' : Int} (h : Dr w0 w w1 g code B) (k : Dr w0 w1 w2 g code B') : Dr w0 w w2 g code B' := ⟨k.1, k.2.1, h.2.2.trans k.2.2 (.inl rfl)⟩
theorem Dr.more {w0 w w1 : World} {g : Nat} {code : List Int} {B B' : Int} (h : Dr w0 w w1 g code B) (hB : B ≤ B') : Dr w0 w w1 g code B' := ⟨h.1.step rfl hB, h.2⟩
set_option maxHeartbeats 8000000 in
set_option maxRecDepth 100000 in
theorem pick_c (n : Int) (hn : n ≤ 200) (g : Nat) (code : List Int) (B : Int) (w0 w : World) (hI : Cur w0 w g code B) (hB : Below w0.heap.size w0 w) (hb : B ≤ 900000000000) :
    Calls Try.prog 115 #[.pointer (some ⟨g, 0, none⟩), .int .i64 n] w fun e w' => ∃ v, e = .returned (.int .i64 v) ∧ (0 ≤ v ∧ (1 ≤ n → v < n)) ∧ Dr w0 w w' g code (B + 1) := by
  by_cases h1 : n ≤ 1
  · have HD := am_ (Dr.refl hI hB (show B ≤ B + 1 by omega))
    have c1 : decide (n ≤ 1) = true := decide_eq_true h1
    clear hI hB
    go_enter Try.func115, Try.ntmps115
    go_wp2
    go_ret
    exact ⟨0, rfl, ⟨by omega, by omega⟩, HD.out⟩
  · have c1 : decide (n ≤ 1) = false := decide_eq_false h1
    have c2 : decide (200 < n) = false := decide_eq_false (by omega)
    have HN := am_ (next_c g code B w0 w hI hB (by omega))
    have hnz : ¬ n = 0 := by omega
    clear hI hB
    go_enter Try.func115, Try.ntmps115
    go_wp2_with fail
    refine HN.out.mono ?_
    rintro e w1 ⟨x, rfl, hx, hc, hb1, hk⟩
    have HD := am_ (show Dr w0 w w1 g code (B + 1) from ⟨hc, hb1, hk⟩)
    have hme : x.tmod n = x % n := Int.tmod_eq_emod_of_nonneg hx.1
    have hm : 0 ≤ x % n ∧ x % n < n := ⟨Int.emod_nonneg _ hnz, Int.emod_lt_of_pos _ (by omega)⟩
    have HM := am_ hm
    have hw : wrap64 (x % n) = x % n := wrapId (by omega)
    have x0 := hx.1
    clear hc hb1 hk hm
    go_wp2
    go_ret
    exact ⟨_, rfl, ⟨HM.out.1, fun _ => HM.out.2⟩, HD.out⟩
set_option maxHeartbeats 8000000 in
set_option maxRecDepth 100000 in
theorem among_c (ls : List Int) (b n cap : Nat) (hn : 1 ≤ n ∧ n ≤ ls.length ∧ n ≤ 200) (g : Nat) (code : List Int) (B : Int) (w0 w : World) (hI : Cur w0 w g code B) (hB : Below w0.heap.size w0 w) (hb : B ≤ 900000000000) (hl : w.heap[b]? = some (.cells (numsA ls) 3 (0, 0))) :
    Calls Try.prog 99 #[.pointer (some ⟨g, 0, none⟩), .slice (some ⟨b, 0, none⟩) n cap] w fun e w' => ∃ v, e = .returned (.int .i64 v) ∧ v ∈ ls ∧ Dr w0 w w' g code (B + 1) := by
  obtain ⟨cs, hcs⟩ := hI.blk
  have hne := blk_ne hl hcs (by decide)
  have HP := am_ (pick_c (n : Int) (by omega) g code B w0 w hI hB hb)
  have HL := am_ hl
  have n1 := hn.1
  have n2 := hn.2.1
  clear hcs hI hB hl hn
  go_enter Try.func99, Try.ntmps99
  go_wp2_with fail
  refine HP.out.mono ?_
  rintro e w1 ⟨v, rfl, ⟨v0, v1⟩, hd⟩
  have HD := am_ hd
  have v2 := v1 (by omega)
  obtain ⟨k, rfl⟩ : ∃ k : Nat, v = k := ⟨v.toNat, by omega⟩
  have hkn : k < ls.length := by omega
  have hy : w1.cell? ⟨b, k, none⟩ = some (.int .i64 (ls.getD k 0)) := C_blk (hd.2.2.blk HL.out hne (by simp)) hkn
  obtain ⟨x, hx⟩ : ∃ x, x = ls.getD k 0 := ⟨_, rfl⟩
  have HX := am_ (show x ∈ ls from by rw [hx, List.getD_eq_getElem?_getD, List.getElem?_eq_getElem hkn]; exact List.getElem_mem hkn)
  rw [← hx] at hy
  have tk : (k : Int).toNat = k := Int.toNat_natCast k
  clear hd hx v1 hkn
  go_wp2
  go_ret
  exact ⟨x, rfl, HX.out, HD.out⟩
theorem Dr.cur {w0 w w1 : World} {g : Nat} {code : List Int} {B : Int} (h : Dr w0 w w1 g code B) : Cur w0 w1 g code B := h.1
theorem Dr.below {w0 w w1 : World} {g : Nat} {code : List Int} {B : Int} (h : Dr w0 w w1 g code B) : Below w0.heap.size w0 w1 := h.2.1
theorem Dr.drew {w0 w w1 : World} {g : Nat} {code : List Int} {B : Int} (h : Dr w0 w w1 g code B) : Dr w0 w w1.drew g code B := ⟨h.1, below_drew1 h.2.1, keep_drew h.2.2⟩
theorem Dr.drewN {w0 w w1 : World} {g : Nat} {code : List Int} {B : Int} (h : Dr w0 w w1 g code B) (n : Nat) : Dr w0 w (w1.drewN n) g code B := ⟨h.1, pw_below_drewN h.2.1 n, keep_drewN h.2.2 n⟩
theorem Dr.alloc {w0 w w1 : World} {g : Nat} {code : List Int} {B : Int} (h : Dr w0 w w1 g code B) (o : Obj) : Dr w0 w (w1.alloc o) g code B := ⟨h.1.alloc o, below_alloc h.2.1 o, keep_alloc h.2.2 o⟩
/-- A row's block is none that lay in w. -/
def Late (w : World) (v : Value) : Prop := ∀ k, v.ownBlock = some k → w.heap.size ≤ k
theorem Late.lit {w w1 : World} {v : Value} (hs : w.heap.size ≤ w1.heap.size) (hn : ∃ b, v.ownBlock = some b ∧ w1.heap.size ≤ b) : Late w v := by
  obtain ⟨b, e, hb⟩ := hn
  intro k hk
  rw [e] at hk
  injection hk with hk
  omega
theorem Late.app {w w1 : World} {v v1 : Value} (h : Late w v) (hs : w.heap.size ≤ w1.heap.size) (hat : v1.ownBlock = v.ownBlock ∨ ∃ b, v1.ownBlock = some b ∧ w1.heap.size ≤ b) : Late w v1 := by
  rcases hat with e | hn
  · intro k hk; exact h k (e ▸ hk)
  · exact Late.lit hs hn
theorem Dr.grown {w0 w w1 w2 : World} {g : Nat} {code : List Int} {B : Int} {v : Value} (h : Dr w0 w w1 g code B) (hg : w1.grownBy w2 v.ownBlock) (hl : Late w v) (hb : Below w0.heap.size w0 w2) (hne : some g ≠ v.ownBlock) : Dr w0 w w2 g code B :=
  ⟨h.1.step (hg.block g h.1.lt hne) (Int.le_refl _), hb, ⟨Nat.le_trans h.2.2.1 hg.size, fun i hi hgi hr => (hg.block i (Nat.lt_of_lt_of_le hi h.2.2.1) (fun e => by have := hl i e.symm; omega)).trans (h.2.2.2 i hi hgi hr)⟩⟩
theorem Dr.lit {w0 w w1 w2 : World} {g : Nat} {code : List Int} {B : Int} (h : Dr w0 w w1 g code B) (hg : w1.grownBy w2 none) (hb : Below w0.heap.size w0 w2) : Dr w0 w w2 g code B :=
  ⟨h.1.step (hg.block g h.1.lt (by simp)) (Int.le_refl _), hb, ⟨Nat.le_trans h.2.2.1 hg.size, fun i hi hgi hr => (hg.block i (Nat.lt_of_lt_of_le hi h.2.2.1) (by simp)).trans (h.2.2.2 i hi hgi hr)⟩⟩
theorem Dr.size {w0 w w1 : World} {g : Nat} {code : List Int} {B : Int} (h : Dr w0 w w1 g code B) : w.heap.size ≤ w1.heap.size := h.2.2.1
/-- A row of one's own behind a draw. -/
theorem R_dr {α : Type} {d : Kd α} {e base : Nat} {w0 w w1 : World} {v : Value} {xs : List α} {g : Nat} {code : List Int} {B B' : Int} (hf : ∀ (w : World) (b : Nat) (p q : Nat → Prop) x cs, d.M w b p x cs → d.M w b q x cs) (h : d.R e w base (fun _ => True) v xs) (hI : Cur w0 w g code B) (ht : e ≠ 108) (hd : Dr w0 w w1 g code B') : d.R e w1 base (fun _ => True) v xs := R_draw hf h hI ht hd.2.2
theorem own_cur {α : Type} {d : Kd α} {e base : Nat} {ok : Nat → Prop} {w0 w : World} {v : Value} {xs : List α} {g : Nat} {code : List Int} {B : Int} (h : d.R e w base ok v xs) (hI : Cur w0 w g code B) (ht : e ≠ 108) : some g ≠ v.ownBlock := by
  obtain ⟨cs, hb⟩ := hI.blk
  exact own_ne h hb ht
theorem Dr.set {w0 w w1 : World} {g : Nat} {code : List Int} {B : Int} (h : Dr w0 w w1 g code B) {q : Nat} (hq : w.heap.size ≤ q) (hb : w0.heap.size ≤ w.heap.size) (hg : g ≠ q) (j : Nat) (v : Value) : Dr w0 w (w1.setCell ⟨q, j, none⟩ v) g code B :=
  ⟨h.1.step (Below.heap_setCell w1 ⟨q, j, none⟩ v g hg) (Int.le_refl _), below_set h.2.1 (Nat.le_trans hb hq), keep_far h.2.2 hq v⟩
theorem Dr.bel {w0 w w1 w2 : World} {g : Nat} {code : List Int} {B : Int} (h : Dr w0 w w1 g code B) (hb : Below w1.heap.size w1 w2) : Dr w0 w w2 g code B :=
  ⟨h.1.below hb, below_step h.2.1 hb, h.2.2.trans (KeepBut.of_below hb g none) (.inl rfl)⟩
end Go.Proofs.Ytacfepaemphdgaa.O
