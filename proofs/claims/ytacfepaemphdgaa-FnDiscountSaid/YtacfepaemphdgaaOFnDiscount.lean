/- The law FnDiscount walked: the draws, both programs' discount factors and present values, and what holds of them. No other condition. -/
import Derived.Test.YtacfepaemphdgaaPureFnDiscount
import Derived.Shelf.SlicesE.IndexFunc
import Derived.Shelf.SlLaysH
import Derived.Test.YtacfepaemphdgaaOFnDiscounta
import Derived.Test.YtacfepaemphdgaaOFnDiscountb
import Derived.Test.YtacfepaemphdgaaOFnDiscountc
namespace Go.Proofs.Ytacfepaemphdgaa.O
open Go.RowKit Go.Proofs.YtacfepaemphdgaaW.PrintWords Go.Proofs.YtacfepaemphdgaaW.PrintLast Go.Proofs.YtacfepaemphdgaaW.PrintMore Go.Proofs.Ytacfepaemphdgaa.PL15I Go.Proofs.Ytacfepaemphdgaa.EvKit Go.Proofs.Ytacfepaemphdgaa.Pure
set_option linter.unusedVariables false
set_option linter.unusedSimpArgs false
attribute [local go_sem] max2_int min2_int max_two min_two max_three min_three max_four min_four
set_option maxHeartbeats 16000000 in
set_option maxRecDepth 100000 in
theorem law_c (A0 : Option Addr) (c0 : Nat) (l0 : List Int) (w : World) (hr0 : Kd.C (Kd.int .u8) w A0 l0.length l0) (hc0 : l0.length ≤ c0) (he0 : ∀ y ∈ l0, (0 ≤ y ∧ y ≤ 255)) :
    Calls Try.prog 12 #[.slice A0 l0.length c0] w fun e w' => e = .returned (.bool true) ∧ Below w.heap.size w w' := by
  have HR0 := am_ hr0
  have HC0 := am_ hc0
  have HE0 := am_ he0
  have HB := am_ (Below.refl w.heap.size w)
  clear hr0 hc0 he0
  by_cases hbig : (l0.length : Int) > 65536
  · have HV := am_ (show laws_vBig.f l0 = some true from congrArg some (decide_eq_true hbig))
    clear hbig
    go_enter Try.func12, Try.ntmps12
    go_wp2_with fail
    refine (laws_vBig.calls A0 c0 l0 true _ (by repeat first | exact (Kd.C_below HR0.out HB.out) | with_reducible refine ca_ ?_ _ | with_reducible refine cn_ ?_ _ | with_reducible refine cd_ ?_) HC0.out HV.out).mono ?_
    rintro e w1 ⟨rfl, hb0⟩
    have hb := db_ hb0
    clear hb0
    replace HB := am_ (below_step (by repeat first | (with_reducible first | exact HB.out | apply ba_ | apply bn_ | apply bd_) | exact HB.out) hb); clear hb
    go_wp2
    go_ret
    exact ⟨rfl, (by repeat first | (with_reducible first | exact HB.out | apply ba_ | apply bn_ | apply bd_) | exact HB.out)⟩
  have HV := am_ (show laws_vBig.f l0 = some false from congrArg some (decide_eq_false hbig))
  clear hbig
  go_enter Try.func12, Try.ntmps12
  go_wp2_with fail
  refine (laws_vBig.calls A0 c0 l0 false _ (by repeat first | exact (Kd.C_below HR0.out HB.out) | with_reducible refine ca_ ?_ _ | with_reducible refine cn_ ?_ _ | with_reducible refine cd_ ?_) HC0.out HV.out).mono ?_
  rintro e w1 ⟨rfl, hb0⟩
  have hb := db_ hb0
  clear hb0
  replace HB := am_ (below_step (by repeat first | (with_reducible first | exact HB.out | apply ba_ | apply bn_ | apply bd_) | exact HB.out) hb); clear hb
  go_wp2_with fail
  refine (drawDF_c A0 c0 l0 _ (by repeat first | exact (Kd.C_below HR0.out HB.out) | with_reducible refine ca_ ?_ _ | with_reducible refine cn_ ?_ _ | with_reducible refine cd_ ?_) HE0.out HC0.out).mono ?_
  rintro e w2 ⟨n, d, a, b, k, rfl, hb⟩
  replace HB := am_ (below_step (by repeat first | (with_reducible first | exact HB.out | apply ba_ | apply bn_ | apply bd_) | exact HB.out) hb); clear hb
  go_upto_region 4 with (fail)
  obtain ⟨W2, hW2⟩ : ∃ W1, W1 = w2.alloc (.cells #[.int .i64 n, .int .i64 d] 24) := ⟨_, rfl⟩
  have BKg3 := am_ (show W2.heap[w2.heap.size]? = some (.cells #[.int .i64 n, .int .i64 d] 24 (0, 0)) from by rw [hW2]; exact blk_new w2 _)
  have n2 := am_ (show Below w.heap.size w W2 from by rw [hW2]; exact below_alloc HB.out _)
  rw [← hW2]
  clear hW2 HB  
  have HB := n2
  clear n2
  generalize w2.heap.size = g3 at BKg3 ⊢
  have yg3_0 : W2.cell? ⟨g3, 0, none⟩ = some (.int .i64 n) := (blk_cell BKg3.out 0).trans rfl; have fg3_0 := blk_frozen BKg3.out 0; have yg3_1 : W2.cell? ⟨g3, 1, none⟩ = some (.int .i64 d) := (blk_cell BKg3.out 1).trans rfl; have fg3_1 := blk_frozen BKg3.out 1
  obtain ⟨DF, hDF⟩ : ∃ F, F = discA n d a b k := ⟨_, rfl⟩
  have HDF := am_ hDF
  clear hDF
  obtain ⟨fn, fd, ok⟩ := DF
  go_wp2_with fail
  clear yg3_0 fg3_0 yg3_1 fg3_1
  refine (discI_c n d a b k _).mono ?_
  rw [← HDF.out]
  rintro e w3 ⟨rfl, hb⟩
  replace BKg3 := am_ (blk_below (blk_below BKg3.out (by repeat first | exact Below.refl _ _ | apply ba_ | apply bn_ | apply bd_)) hb); replace HB := am_ (below_step (by repeat first | (with_reducible first | exact HB.out | apply ba_ | apply bn_ | apply bd_) | exact HB.out) hb); clear hb
  go_upto_region 5 with (fail)
  obtain ⟨W3, hW3⟩ : ∃ W1, W1 = w3.alloc (.cells #[.int .i64 fn, .int .i64 fd] 24) := ⟨_, rfl⟩
  have BKg7 := am_ (show W3.heap[w3.heap.size]? = some (.cells #[.int .i64 fn, .int .i64 fd] 24 (0, 0)) from by rw [hW3]; exact blk_new w3 _)
  have n2 := am_ (show Below w.heap.size w W3 from by rw [hW3]; exact below_alloc HB.out _)
  have m_g3 := am_ (show W3.heap[g3]? = some (.cells #[.int .i64 n, .int .i64 d] 24 (0, 0)) from by rw [hW3]; exact blk_alloc BKg3.out _)
  rw [← hW3]
  clear hW3 HB BKg3 
  have HB := n2
  clear n2
  have BKg3 := m_g3
  clear m_g3
  generalize w3.heap.size = g7 at BKg7 ⊢
  have yg3_0 : W3.cell? ⟨g3, 0, none⟩ = some (.int .i64 n) := (blk_cell BKg3.out 0).trans rfl; have fg3_0 := blk_frozen BKg3.out 0; have yg3_1 : W3.cell? ⟨g3, 1, none⟩ = some (.int .i64 d) := (blk_cell BKg3.out 1).trans rfl; have fg3_1 := blk_frozen BKg3.out 1
  go_wp2_with fail
  clear yg3_0 fg3_0 yg3_1 fg3_1
  refine (discS_c n d a b k _).mono ?_
  rw [← HDF.out]
  rintro e w4 ⟨rfl, hb⟩
  replace BKg3 := am_ (blk_below (blk_below BKg3.out (by repeat first | exact Below.refl _ _ | apply ba_ | apply bn_ | apply bd_)) hb); replace BKg7 := am_ (blk_below (blk_below BKg7.out (by repeat first | exact Below.refl _ _ | apply ba_ | apply bn_ | apply bd_)) hb); replace HB := am_ (below_step (by repeat first | (with_reducible first | exact HB.out | apply ba_ | apply bn_ | apply bd_) | exact HB.out) hb); clear hb
  clear BKg3
  go_upto_region 6 with (fail)
  obtain ⟨W4, hW4⟩ : ∃ W1, W1 = w4.alloc (.cells #[.int .i64 fn, .int .i64 fd] 24) := ⟨_, rfl⟩
  have BKg9 := am_ (show W4.heap[w4.heap.size]? = some (.cells #[.int .i64 fn, .int .i64 fd] 24 (0, 0)) from by rw [hW4]; exact blk_new w4 _)
  have n2 := am_ (show Below w.heap.size w W4 from by rw [hW4]; exact below_alloc HB.out _)
  have m_g7 := am_ (show W4.heap[g7]? = some (.cells #[.int .i64 fn, .int .i64 fd] 24 (0, 0)) from by rw [hW4]; exact blk_alloc BKg7.out _)
  rw [← hW4]
  clear hW4 HB BKg7 
  have HB := n2
  clear n2
  have BKg7 := m_g7
  clear m_g7
  generalize w4.heap.size = g9 at BKg9 ⊢
  have yg7_0 : W4.cell? ⟨g7, 0, none⟩ = some (.int .i64 fn) := (blk_cell BKg7.out 0).trans rfl; have fg7_0 := blk_frozen BKg7.out 0; have yg7_1 : W4.cell? ⟨g7, 1, none⟩ = some (.int .i64 fd) := (blk_cell BKg7.out 1).trans rfl; have fg7_1 := blk_frozen BKg7.out 1
  have yg9_0 : W4.cell? ⟨g9, 0, none⟩ = some (.int .i64 fn) := (blk_cell BKg9.out 0).trans rfl; have fg9_0 := blk_frozen BKg9.out 0; have yg9_1 : W4.cell? ⟨g9, 1, none⟩ = some (.int .i64 fd) := (blk_cell BKg9.out 1).trans rfl; have fg9_1 := blk_frozen BKg9.out 1
  cases ok with
  | false =>
    clear HDF
    go_wp2_with fail
    refine (drawPV_c A0 c0 l0 _ (by repeat first | exact (Kd.C_below HR0.out HB.out) | with_reducible refine ca_ ?_ _ | with_reducible refine cn_ ?_ _ | with_reducible refine cd_ ?_) HE0.out).mono ?_
    rintro e w8 ⟨vx, vy, xs, ys, t0, n2, d2, kb, km, rfl, hox, hxl, hoy, hyl, hb⟩
    have HX := am_ (Kd.R_lower hox (show w.heap.size ≤ _ from below_size (by repeat first | (with_reducible first | exact HB.out | apply ba_ | apply bn_ | apply bd_) | exact HB.out)))
    have HY := am_ (Kd.R_lower hoy (show w.heap.size ≤ _ from below_size (by repeat first | (with_reducible first | exact HB.out | apply ba_ | apply bn_ | apply bd_) | exact HB.out)))
    replace HB := am_ (below_step (by repeat first | (with_reducible first | exact HB.out | apply ba_ | apply bn_ | apply bd_) | exact HB.out) hb); clear hb
    clear hox hoy
    obtain ⟨Ax, cx, ex⟩ := Kd.R_slice HX.out
    subst ex
    obtain ⟨Ay, cy, ey⟩ := Kd.R_slice HY.out
    subst ey
    go_upto_region 13 with (fail)
    obtain ⟨W8, hW8⟩ : ∃ W1, W1 = w8.alloc (.cells #[.int .i64 n2, .int .i64 d2] 24) := ⟨_, rfl⟩
    have BKg16 := am_ (show W8.heap[w8.heap.size]? = some (.cells #[.int .i64 n2, .int .i64 d2] 24 (0, 0)) from by rw [hW8]; exact blk_new w8 _)
    have n2 := am_ (show Below w.heap.size w W8 from by rw [hW8]; exact below_alloc HB.out _)
    have r_HX := am_ (show (Kd.int .i64).R 3 W8 w.heap.size (fun _ => True) (.slice Ax xs.length cx) xs from by rw [hW8]; exact ra_ HX.out _)
    have r_HY := am_ (show (Kd.int .i64).R 3 W8 w.heap.size (fun _ => True) (.slice Ay ys.length cy) ys from by rw [hW8]; exact ra_ HY.out _)
    rw [← hW8]
    clear hW8 HB  HX HY
    have HB := n2
    clear n2
    have HX := r_HX
    clear r_HX
    have HY := r_HY
    clear r_HY
    generalize w8.heap.size = g16 at BKg16 ⊢
    clear BKg16
    obtain ⟨PR, hPR⟩ : ∃ F, F = presA xs ys t0 0 1 kb km := ⟨_, rfl⟩
    have HPR := am_ hPR
    clear hPR
    obtain ⟨pv, told⟩ := PR
    go_wp2_with fail
    refine (presI_c Ax cx xs Ay cy ys t0 0 1 kb km (by omega) _ (by repeat first | exact (R_C HX.out) | with_reducible refine ca_ ?_ _ | with_reducible refine cn_ ?_ _ | with_reducible refine cd_ ?_) (R_cap HX.out) (fun hp => R_head HX.out hp) (by repeat first | exact (R_C HY.out) | with_reducible refine ca_ ?_ _ | with_reducible refine cn_ ?_ _ | with_reducible refine cd_ ?_) (fun hp => R_head HY.out hp)).mono ?_
    rw [← HPR.out]
    rintro e w9 ⟨rfl, hb⟩
    replace HX := am_ (Kd.R_below (by (with_reducible repeat first | apply ra_ | apply rn_ | apply rd_); exact HX.out) hb); replace HY := am_ (Kd.R_below (by (with_reducible repeat first | apply ra_ | apply rn_ | apply rd_); exact HY.out) hb); replace HB := am_ (below_step (by repeat first | (with_reducible first | exact HB.out | apply ba_ | apply bn_ | apply bd_) | exact HB.out) hb); clear hb
    go_wp2_with fail
    refine (presS_c Ax cx xs Ay cy ys t0 0 1 kb km (by omega) _ (by repeat first | exact (R_C HX.out) | with_reducible refine ca_ ?_ _ | with_reducible refine cn_ ?_ _ | with_reducible refine cd_ ?_) (R_cap HX.out) (fun hp => R_head HX.out hp) (by repeat first | exact (R_C HY.out) | with_reducible refine ca_ ?_ _ | with_reducible refine cn_ ?_ _ | with_reducible refine cd_ ?_) (fun hp => R_head HY.out hp)).mono ?_
    rw [← HPR.out]
    rintro e w10 ⟨rfl, hb⟩
    replace HX := am_ (Kd.R_below (by (with_reducible repeat first | apply ra_ | apply rn_ | apply rd_); exact HX.out) hb); replace HY := am_ (Kd.R_below (by (with_reducible repeat first | apply ra_ | apply rn_ | apply rd_); exact HY.out) hb); replace HB := am_ (below_step (by repeat first | (with_reducible first | exact HB.out | apply ba_ | apply bn_ | apply bd_) | exact HB.out) hb); clear hb
    cases told with
    | false =>
      go_wp2
      go_ret
      exact ⟨rfl, (by repeat first | (with_reducible first | exact HB.out | apply ba_ | apply bn_ | apply bd_) | exact HB.out)⟩
    | true =>
      obtain ⟨kS, hS⟩ := roundsOf (rSumL_ev xs (by omega))
      rw [pres_facts HPR.out.symm] at hS
      have HS := am_ hS
      clear hS HPR hxl hyl
      have pq : (pv == pv) = true := by simp
      go_wp2_with fail
      refine (laws_rSum.calls kS Ax cx xs pv _ (by repeat first | exact (R_C HX.out) | with_reducible refine ca_ ?_ _ | with_reducible refine cn_ ?_ _ | with_reducible refine cd_ ?_) (R_cap HX.out) HS.out).mono ?_
      rintro e w11 ⟨rfl, hb0⟩
      have hb := db_ hb0
      clear hb0
      replace HB := am_ (below_step (by repeat first | (with_reducible first | exact HB.out | apply ba_ | apply bn_ | apply bd_) | exact HB.out) hb); clear hb
      go_wp2
      go_ret
      exact ⟨rfl, (by repeat first | (with_reducible first | exact HB.out | apply ba_ | apply bn_ | apply bd_) | exact HB.out)⟩
  | true =>
    obtain ⟨f0, fo, fc, fs⟩ := disc_facts HDF.out.symm
    obtain ⟨kc, hk⟩ := roundsOf (specCmp_ev fn fd 1 1)
    rw [fc] at hk
    obtain ⟨cs, hcs⟩ : ∃ c, c = cmpS fn fd := ⟨_, rfl⟩
    rw [← hcs] at hk fs
    have HK := am_ hk
    have q1 : decide (0 < cs) = false := decide_eq_false (by omega)
    have q2 : decide (fn ≤ 0) = false := decide_eq_false (by omega)
    clear hk fc fo hcs fs f0 HDF
    go_wp2_with fail
    clear yg7_0 fg7_0 yg7_1 fg7_1
    clear yg9_0 fg9_0 yg9_1 fg9_1
    refine (spec_CompareFractions.calls kc fn fd 1 1 cs true _ HK.out).mono ?_
    rintro e w5 ⟨rfl, hb⟩
    replace BKg7 := am_ (blk_below (blk_below BKg7.out (by repeat first | exact Below.refl _ _ | apply ba_ | apply bn_ | apply bd_)) hb); replace HB := am_ (below_step (by repeat first | (with_reducible first | exact HB.out | apply ba_ | apply bn_ | apply bd_) | exact HB.out) hb); clear hb
    have yg7_0 : w5.cell? ⟨g7, 0, none⟩ = some (.int .i64 fn) := (blk_cell BKg7.out 0).trans rfl; have fg7_0 := blk_frozen BKg7.out 0; have yg7_1 : w5.cell? ⟨g7, 1, none⟩ = some (.int .i64 fd) := (blk_cell BKg7.out 1).trans rfl; have fg7_1 := blk_frozen BKg7.out 1
    go_wp2_with fail
    refine (drawPV_c A0 c0 l0 _ (by repeat first | exact (Kd.C_below HR0.out HB.out) | with_reducible refine ca_ ?_ _ | with_reducible refine cn_ ?_ _ | with_reducible refine cd_ ?_) HE0.out).mono ?_
    rintro e w8 ⟨vx, vy, xs, ys, t0, n2, d2, kb, km, rfl, hox, hxl, hoy, hyl, hb⟩
    have HX := am_ (Kd.R_lower hox (show w.heap.size ≤ _ from below_size (by repeat first | (with_reducible first | exact HB.out | apply ba_ | apply bn_ | apply bd_) | exact HB.out)))
    have HY := am_ (Kd.R_lower hoy (show w.heap.size ≤ _ from below_size (by repeat first | (with_reducible first | exact HB.out | apply ba_ | apply bn_ | apply bd_) | exact HB.out)))
    replace HB := am_ (below_step (by repeat first | (with_reducible first | exact HB.out | apply ba_ | apply bn_ | apply bd_) | exact HB.out) hb); clear hb
    clear hox hoy
    obtain ⟨Ax, cx, ex⟩ := Kd.R_slice HX.out
    subst ex
    obtain ⟨Ay, cy, ey⟩ := Kd.R_slice HY.out
    subst ey
    go_upto_region 13 with (fail)
    obtain ⟨W8, hW8⟩ : ∃ W1, W1 = w8.alloc (.cells #[.int .i64 n2, .int .i64 d2] 24) := ⟨_, rfl⟩
    have BKg16 := am_ (show W8.heap[w8.heap.size]? = some (.cells #[.int .i64 n2, .int .i64 d2] 24 (0, 0)) from by rw [hW8]; exact blk_new w8 _)
    have n2 := am_ (show Below w.heap.size w W8 from by rw [hW8]; exact below_alloc HB.out _)
    have r_HX := am_ (show (Kd.int .i64).R 3 W8 w.heap.size (fun _ => True) (.slice Ax xs.length cx) xs from by rw [hW8]; exact ra_ HX.out _)
    have r_HY := am_ (show (Kd.int .i64).R 3 W8 w.heap.size (fun _ => True) (.slice Ay ys.length cy) ys from by rw [hW8]; exact ra_ HY.out _)
    rw [← hW8]
    clear hW8 HB  HX HY
    have HB := n2
    clear n2
    have HX := r_HX
    clear r_HX
    have HY := r_HY
    clear r_HY
    generalize w8.heap.size = g16 at BKg16 ⊢
    clear BKg16
    obtain ⟨PR, hPR⟩ : ∃ F, F = presA xs ys t0 0 1 kb km := ⟨_, rfl⟩
    have HPR := am_ hPR
    clear hPR
    obtain ⟨pv, told⟩ := PR
    go_wp2_with fail
    refine (presI_c Ax cx xs Ay cy ys t0 0 1 kb km (by omega) _ (by repeat first | exact (R_C HX.out) | with_reducible refine ca_ ?_ _ | with_reducible refine cn_ ?_ _ | with_reducible refine cd_ ?_) (R_cap HX.out) (fun hp => R_head HX.out hp) (by repeat first | exact (R_C HY.out) | with_reducible refine ca_ ?_ _ | with_reducible refine cn_ ?_ _ | with_reducible refine cd_ ?_) (fun hp => R_head HY.out hp)).mono ?_
    rw [← HPR.out]
    rintro e w9 ⟨rfl, hb⟩
    replace HX := am_ (Kd.R_below (by (with_reducible repeat first | apply ra_ | apply rn_ | apply rd_); exact HX.out) hb); replace HY := am_ (Kd.R_below (by (with_reducible repeat first | apply ra_ | apply rn_ | apply rd_); exact HY.out) hb); replace HB := am_ (below_step (by repeat first | (with_reducible first | exact HB.out | apply ba_ | apply bn_ | apply bd_) | exact HB.out) hb); clear hb
    go_wp2_with fail
    refine (presS_c Ax cx xs Ay cy ys t0 0 1 kb km (by omega) _ (by repeat first | exact (R_C HX.out) | with_reducible refine ca_ ?_ _ | with_reducible refine cn_ ?_ _ | with_reducible refine cd_ ?_) (R_cap HX.out) (fun hp => R_head HX.out hp) (by repeat first | exact (R_C HY.out) | with_reducible refine ca_ ?_ _ | with_reducible refine cn_ ?_ _ | with_reducible refine cd_ ?_) (fun hp => R_head HY.out hp)).mono ?_
    rw [← HPR.out]
    rintro e w10 ⟨rfl, hb⟩
    replace HX := am_ (Kd.R_below (by (with_reducible repeat first | apply ra_ | apply rn_ | apply rd_); exact HX.out) hb); replace HY := am_ (Kd.R_below (by (with_reducible repeat first | apply ra_ | apply rn_ | apply rd_); exact HY.out) hb); replace HB := am_ (below_step (by repeat first | (with_reducible first | exact HB.out | apply ba_ | apply bn_ | apply bd_) | exact HB.out) hb); clear hb
    cases told with
    | false =>
      go_wp2
      go_ret
      exact ⟨rfl, (by repeat first | (with_reducible first | exact HB.out | apply ba_ | apply bn_ | apply bd_) | exact HB.out)⟩
    | true =>
      obtain ⟨kS, hS⟩ := roundsOf (rSumL_ev xs (by omega))
      rw [pres_facts HPR.out.symm] at hS
      have HS := am_ hS
      clear hS HPR hxl hyl
      have pq : (pv == pv) = true := by simp
      go_wp2_with fail
      refine (laws_rSum.calls kS Ax cx xs pv _ (by repeat first | exact (R_C HX.out) | with_reducible refine ca_ ?_ _ | with_reducible refine cn_ ?_ _ | with_reducible refine cd_ ?_) (R_cap HX.out) HS.out).mono ?_
      rintro e w11 ⟨rfl, hb0⟩
      have hb := db_ hb0
      clear hb0
      replace HB := am_ (below_step (by repeat first | (with_reducible first | exact HB.out | apply ba_ | apply bn_ | apply bd_) | exact HB.out) hb); clear hb
      go_wp2
      go_ret
      exact ⟨rfl, (by repeat first | (with_reducible first | exact HB.out | apply ba_ | apply bn_ | apply bd_) | exact HB.out)⟩
end Go.Proofs.Ytacfepaemphdgaa.O
