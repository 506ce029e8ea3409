/- The law FnMargin walked: draws, both programs' calls and histories, and what holds of a call. No other condition. -/
import Derived.Test.YtiaakolalhdelaaPureFnMargin
import Derived.Shelf.SlicesE.IndexFunc
import Derived.Shelf.SlLaysH
import Derived.Test.YtiaakolalhdelaaOFnMargina
import Derived.Test.YtiaakolalhdelaaOFnMarginb
namespace Go.Proofs.Ytiaakolalhdelaa.O
open Go.RowKit Go.Proofs.YtiaakolalhdelaaW.PrintWords Go.Proofs.YtiaakolalhdelaaW.PrintLast Go.Proofs.YtiaakolalhdelaaW.PrintMore Go.Proofs.Ytiaakolalhdelaa.PL17M Go.Proofs.Ytiaakolalhdelaa.EvKit Go.Proofs.Ytiaakolalhdelaa.Pure
set_option linter.unusedVariables false
set_option linter.unusedSimpArgs false
attribute [local go_sem] max2_int min2_int max_two min_two max_three min_three max_four min_four
set_option maxHeartbeats 16000000 in
set_option maxRecDepth 100000 in
theorem law_c (A0 : Option Addr) (c0 : Nat) (l0 : List Int) (w : World) (hr0 : Kd.C (Kd.int .u8) w A0 l0.length l0) (hc0 : l0.length ≤ c0) (he0 : ∀ y ∈ l0, (0 ≤ y ∧ y ≤ 255)) :
    Calls Try.prog 11 #[.slice A0 l0.length c0] w fun e w' => e = .returned (.bool true) ∧ Below w.heap.size w w' := by
  have HR0 := am_ hr0
  have HC0 := am_ hc0
  have HE0 := am_ he0
  have HB := am_ (Below.refl w.heap.size w)
  clear hr0 hc0 he0
  by_cases hbig : (l0.length : Int) > 65536
  · have HV := am_ (show laws_vBig.f l0 = some true from congrArg some (decide_eq_true hbig))
    clear hbig
    go_enter Try.func11, Try.ntmps11
    go_wp2_with fail
    refine (laws_vBig.calls A0 c0 l0 true _ (by repeat first | exact (Kd.C_below HR0.out HB.out) | with_reducible refine ca_ ?_ _ | with_reducible refine cn_ ?_ _ | with_reducible refine cd_ ?_) HC0.out HV.out).mono ?_
    rintro e w1 ⟨rfl, hb0⟩
    have hb := db_ hb0
    clear hb0
    replace HB := am_ (below_step (by repeat first | (with_reducible first | exact HB.out | apply ba_ | apply bn_ | apply bd_) | exact HB.out) hb); clear hb
    go_wp2
    go_ret
    exact ⟨rfl, (by repeat first | (with_reducible first | exact HB.out | apply ba_ | apply bn_ | apply bd_) | exact HB.out)⟩
  have HV := am_ (show laws_vBig.f l0 = some false from congrArg some (decide_eq_false hbig))
  clear hbig
  go_enter Try.func11, Try.ntmps11
  go_wp2_with fail
  refine (laws_vBig.calls A0 c0 l0 false _ (by repeat first | exact (Kd.C_below HR0.out HB.out) | with_reducible refine ca_ ?_ _ | with_reducible refine cn_ ?_ _ | with_reducible refine cd_ ?_) HC0.out HV.out).mono ?_
  rintro e w1 ⟨rfl, hb0⟩
  have hb := db_ hb0
  clear hb0
  replace HB := am_ (below_step (by repeat first | (with_reducible first | exact HB.out | apply ba_ | apply bn_ | apply bd_) | exact HB.out) hb); clear hb
  go_wp2_with fail
  refine (drawCall_c A0 c0 l0 _ (by repeat first | exact (Kd.C_below HR0.out HB.out) | with_reducible refine ca_ ?_ _ | with_reducible refine cn_ ?_ _ | with_reducible refine cd_ ?_) HE0.out).mono ?_
  rintro e w2 ⟨x, h, i, s, m, r, rfl, hb⟩
  replace HB := am_ (below_step (by repeat first | (with_reducible first | exact HB.out | apply ba_ | apply bn_ | apply bd_) | exact HB.out) hb); clear hb
  have HCI := am_ (callI_c x h i s m r)
  have HCS := am_ (callS_c x h i s m r)
  obtain ⟨CA, hCA⟩ : ∃ C, C = callA x h i s m r := ⟨_, rfl⟩
  have HCA := am_ hCA
  rw [← hCA] at HCI HCS
  clear hCA
  obtain ⟨n, ok⟩ := CA
  simp only at HCI HCS
  go_upto_region 4 with (fail)
  obtain ⟨W1, hW1⟩ : ∃ W1, W1 = w2.alloc (.cells #[.int .i64 i, .int .i64 s, .int .i64 m, .int .i64 r] 26) := ⟨_, rfl⟩
  have BKg5 := am_ (show W1.heap[w2.heap.size]? = some (.cells #[.int .i64 i, .int .i64 s, .int .i64 m, .int .i64 r] 26 (0, 0)) from by rw [hW1]; exact blk_new w2 _)
  have n2 := am_ (show Below w.heap.size w W1 from by rw [hW1]; exact below_alloc HB.out _)
  rw [← hW1]
  clear hW1 HB 
  have HB := n2
  clear n2
  generalize w2.heap.size = g5 at BKg5 ⊢
  have yg5_0 : W1.cell? ⟨g5, 0, none⟩ = some (.int .i64 i) := (blk_cell BKg5.out 0).trans rfl; have fg5_0 := blk_frozen BKg5.out 0; have yg5_1 : W1.cell? ⟨g5, 1, none⟩ = some (.int .i64 s) := (blk_cell BKg5.out 1).trans rfl; have fg5_1 := blk_frozen BKg5.out 1; have yg5_2 : W1.cell? ⟨g5, 2, none⟩ = some (.int .i64 m) := (blk_cell BKg5.out 2).trans rfl; have fg5_2 := blk_frozen BKg5.out 2; have yg5_3 : W1.cell? ⟨g5, 3, none⟩ = some (.int .i64 r) := (blk_cell BKg5.out 3).trans rfl; have fg5_3 := blk_frozen BKg5.out 3
  go_wp2_with fail
  clear yg5_0 fg5_0 yg5_1 fg5_1 yg5_2 fg5_2 yg5_3 fg5_3
  refine (HCI.out _).mono ?_
  rintro e w3 ⟨rfl, hb⟩
  replace BKg5 := am_ (blk_below (blk_below BKg5.out (by repeat first | exact Below.refl _ _ | apply ba_ | apply bn_ | apply bd_)) hb); replace HB := am_ (below_step (by repeat first | (with_reducible first | exact HB.out | apply ba_ | apply bn_ | apply bd_) | exact HB.out) hb); clear hb
  have yg5_0 : w3.cell? ⟨g5, 0, none⟩ = some (.int .i64 i) := (blk_cell BKg5.out 0).trans rfl; have fg5_0 := blk_frozen BKg5.out 0; have yg5_1 : w3.cell? ⟨g5, 1, none⟩ = some (.int .i64 s) := (blk_cell BKg5.out 1).trans rfl; have fg5_1 := blk_frozen BKg5.out 1; have yg5_2 : w3.cell? ⟨g5, 2, none⟩ = some (.int .i64 m) := (blk_cell BKg5.out 2).trans rfl; have fg5_2 := blk_frozen BKg5.out 2; have yg5_3 : w3.cell? ⟨g5, 3, none⟩ = some (.int .i64 r) := (blk_cell BKg5.out 3).trans rfl; have fg5_3 := blk_frozen BKg5.out 3
  go_wp2_with fail
  clear yg5_0 fg5_0 yg5_1 fg5_1 yg5_2 fg5_2 yg5_3 fg5_3
  refine (HCS.out _).mono ?_
  rintro e w4 ⟨rfl, hb⟩
  replace BKg5 := am_ (blk_below (blk_below BKg5.out (by repeat first | exact Below.refl _ _ | apply ba_ | apply bn_ | apply bd_)) hb); replace HB := am_ (below_step (by repeat first | (with_reducible first | exact HB.out | apply ba_ | apply bn_ | apply bd_) | exact HB.out) hb); clear hb
  clear HCI HCS
  cases ok with
  | false =>
    go_wp2
    go_ret
    exact ⟨rfl, (by repeat first | (with_reducible first | exact HB.out | apply ba_ | apply bn_ | apply bd_) | exact HB.out)⟩
  | true =>
    obtain ⟨need, f0, f1, f2, f3, f4, f5, f6, f7, f8, f9⟩ := call_facts HCA.out.symm
    obtain ⟨kq, hq⟩ := roundsOf (implRequired_ev x i s m r)
    rw [f0] at hq
    have HQ := am_ hq
    have F6 := am_ f6
    have F8 := am_ f8
    have F9 := am_ f9
    clear hq f0 HCA f6 f8 f9
    have yg5_0 : w4.cell? ⟨g5, 0, none⟩ = some (.int .i64 i) := (blk_cell BKg5.out 0).trans rfl; have fg5_0 := blk_frozen BKg5.out 0; have yg5_1 : w4.cell? ⟨g5, 1, none⟩ = some (.int .i64 s) := (blk_cell BKg5.out 1).trans rfl; have fg5_1 := blk_frozen BKg5.out 1; have yg5_2 : w4.cell? ⟨g5, 2, none⟩ = some (.int .i64 m) := (blk_cell BKg5.out 2).trans rfl; have fg5_2 := blk_frozen BKg5.out 2; have yg5_3 : w4.cell? ⟨g5, 3, none⟩ = some (.int .i64 r) := (blk_cell BKg5.out 3).trans rfl; have fg5_3 := blk_frozen BKg5.out 3
    go_wp2_with fail
    clear yg5_0 fg5_0 yg5_1 fg5_1 yg5_2 fg5_2 yg5_3 fg5_3
    refine (impl_RequiredAmount.calls kq x i s m r need true _ HQ.out).mono ?_
    rintro e w5 ⟨rfl, hb⟩
    replace BKg5 := am_ (blk_below (blk_below BKg5.out (by repeat first | exact Below.refl _ _ | apply ba_ | apply bn_ | apply bd_)) hb); replace HB := am_ (below_step (by repeat first | (with_reducible first | exact HB.out | apply ba_ | apply bn_ | apply bd_) | exact HB.out) hb); clear hb
    have yg5_0 : w5.cell? ⟨g5, 0, none⟩ = some (.int .i64 i) := (blk_cell BKg5.out 0).trans rfl; have fg5_0 := blk_frozen BKg5.out 0; have yg5_1 : w5.cell? ⟨g5, 1, none⟩ = some (.int .i64 s) := (blk_cell BKg5.out 1).trans rfl; have fg5_1 := blk_frozen BKg5.out 1; have yg5_2 : w5.cell? ⟨g5, 2, none⟩ = some (.int .i64 m) := (blk_cell BKg5.out 2).trans rfl; have fg5_2 := blk_frozen BKg5.out 2; have yg5_3 : w5.cell? ⟨g5, 3, none⟩ = some (.int .i64 r) := (blk_cell BKg5.out 3).trans rfl; have fg5_3 := blk_frozen BKg5.out 3
    have rz : ¬ r = 0 := by omega
    have rz2 : (r == 0) = false := by simp [rz]
    have rz3 : decide (r = 0) = false := decide_eq_false rz
    have a1 : (n.tmod r == 0) = true := by simp [F6.out]
    have a1b : decide (n.tmod r = 0) = true := decide_eq_true F6.out
    have a1c : (n.tmod r != 0) = false := by simp [F6.out]
    have a3 : decide (h + n < 0) = false := decide_eq_false (by omega)
    have a1w : wrap64 (n.tmod r) = 0 := by rw [F6.out]; exact wrapId (by omega)
    by_cases hz : n = 0
    · have a2 : (n == 0) = true := by simp [hz]
      have a2b : decide (n = 0) = true := decide_eq_true hz
      have a2c : (n != 0) = false := by simp [hz]
      have a4 : decide (0 < n) = false := decide_eq_false (by omega)
      have a5 : decide (n < 0) = false := decide_eq_false (by omega)
      by_cases hd : 0 < need - h - n
      · have b1 : decide (n < need - h) = true := decide_eq_true (by omega)
        have b1' : decide (0 < need - h - n) = true := decide_eq_true hd
        have b2 := F8.out hz hd
        have b3 : decide (m ≤ need - h - n) = false := decide_eq_false (by omega)
        clear hz hd b2
        go_wp2_with fail
        clear yg5_0 fg5_0 yg5_1 fg5_1 yg5_2 fg5_2 yg5_3 fg5_3
        refine (drawHist_c A0 c0 l0 _ (by repeat first | exact (Kd.C_below HR0.out HB.out) | with_reducible refine ca_ ?_ _ | with_reducible refine cn_ ?_ _ | with_reducible refine cd_ ?_) HE0.out).mono ?_
        rintro e w6 ⟨v13, xs, i2, s2, m2, r2, rfl, ho, hl, hb⟩
        have HO13 := am_ (Kd.R_lower ho (show w.heap.size ≤ _ from below_size (by repeat first | (with_reducible first | exact HB.out | apply ba_ | apply bn_ | apply bd_) | exact HB.out)))
        replace HB := am_ (below_step (by repeat first | (with_reducible first | exact HB.out | apply ba_ | apply bn_ | apply bd_) | exact HB.out) hb); clear hb
        clear ho BKg5
        obtain ⟨A13, c13, e13⟩ := Kd.R_slice HO13.out
        subst e13
        have HHI := am_ (fun W hc => histI_c A13 c13 xs i2 s2 m2 r2 W hc (R_cap HO13.out) (fun hp => R_head HO13.out hp) (by omega))
        have HHS := am_ (fun W hc => histS_c A13 c13 xs i2 s2 m2 r2 W hc (R_cap HO13.out) (fun hp => R_head HO13.out hp) (by omega))
        have hln := histA_len xs i2 s2 m2 r2
        obtain ⟨HA, hHA⟩ : ∃ H, H = histA xs i2 s2 m2 r2 := ⟨_, rfl⟩
        rw [← hHA] at HHI HHS hln
        clear hHA
        obtain ⟨ps, so⟩ := HA
        simp only at HHI HHS hln
        obtain ⟨kE, hE⟩ := roundsOf (vInts_ev ps (by omega))
        have HE := am_ hE
        clear hE hln hl
        go_upto_region 17 with (fail)
        obtain ⟨W1, hW1⟩ : ∃ W1, W1 = w6.alloc (.cells #[.int .i64 i2, .int .i64 s2, .int .i64 m2, .int .i64 r2] 26) := ⟨_, rfl⟩
        have BKg14 := am_ (show W1.heap[w6.heap.size]? = some (.cells #[.int .i64 i2, .int .i64 s2, .int .i64 m2, .int .i64 r2] 26 (0, 0)) from by rw [hW1]; exact blk_new w6 _)
        have n2 := am_ (show Below w.heap.size w W1 from by rw [hW1]; exact below_alloc HB.out _)
        have n3 := am_ (show (Kd.int .i64).R 3 W1 w.heap.size (fun _ => True) (.slice A13 xs.length c13) xs from by rw [hW1]; exact ra_ HO13.out _)
        rw [← hW1]
        clear hW1 HB HO13
        have HB := n2
        have HO13 := n3
        clear n3
        clear n2
        generalize w6.heap.size = g14 at BKg14 ⊢
        have yg14_0 : W1.cell? ⟨g14, 0, none⟩ = some (.int .i64 i2) := (blk_cell BKg14.out 0).trans rfl; have fg14_0 := blk_frozen BKg14.out 0; have yg14_1 : W1.cell? ⟨g14, 1, none⟩ = some (.int .i64 s2) := (blk_cell BKg14.out 1).trans rfl; have fg14_1 := blk_frozen BKg14.out 1; have yg14_2 : W1.cell? ⟨g14, 2, none⟩ = some (.int .i64 m2) := (blk_cell BKg14.out 2).trans rfl; have fg14_2 := blk_frozen BKg14.out 2; have yg14_3 : W1.cell? ⟨g14, 3, none⟩ = some (.int .i64 r2) := (blk_cell BKg14.out 3).trans rfl; have fg14_3 := blk_frozen BKg14.out 3
        go_wp2_with fail
        clear yg14_0 fg14_0 yg14_1 fg14_1 yg14_2 fg14_2 yg14_3 fg14_3
        refine (HHI.out _ (by repeat first | exact (R_C HO13.out) | with_reducible refine ca_ ?_ _ | with_reducible refine cn_ ?_ _ | with_reducible refine cd_ ?_)).mono ?_
        rintro e w7 ⟨v15, rfl, ho, hb⟩
        have HO15 := am_ (Kd.R_lower ho (show w.heap.size ≤ _ from below_size (by repeat first | (with_reducible first | exact HB.out | apply ba_ | apply bn_ | apply bd_) | exact HB.out)))
        replace HO13 := am_ (Kd.R_below (by (with_reducible repeat first | apply ra_ | apply rn_ | apply rd_); exact HO13.out) hb); replace BKg14 := am_ (blk_below (blk_below BKg14.out (by repeat first | exact Below.refl _ _ | apply ba_ | apply bn_ | apply bd_)) hb); replace HB := am_ (below_step (by repeat first | (with_reducible first | exact HB.out | apply ba_ | apply bn_ | apply bd_) | exact HB.out) hb); clear hb
        clear ho
        have yg14_0 : w7.cell? ⟨g14, 0, none⟩ = some (.int .i64 i2) := (blk_cell BKg14.out 0).trans rfl; have fg14_0 := blk_frozen BKg14.out 0; have yg14_1 : w7.cell? ⟨g14, 1, none⟩ = some (.int .i64 s2) := (blk_cell BKg14.out 1).trans rfl; have fg14_1 := blk_frozen BKg14.out 1; have yg14_2 : w7.cell? ⟨g14, 2, none⟩ = some (.int .i64 m2) := (blk_cell BKg14.out 2).trans rfl; have fg14_2 := blk_frozen BKg14.out 2; have yg14_3 : w7.cell? ⟨g14, 3, none⟩ = some (.int .i64 r2) := (blk_cell BKg14.out 3).trans rfl; have fg14_3 := blk_frozen BKg14.out 3
        go_wp2_with fail
        clear yg14_0 fg14_0 yg14_1 fg14_1 yg14_2 fg14_2 yg14_3 fg14_3
        refine (HHS.out _ (by repeat first | exact (R_C HO13.out) | with_reducible refine ca_ ?_ _ | with_reducible refine cn_ ?_ _ | with_reducible refine cd_ ?_)).mono ?_
        rintro e w8 ⟨v17, rfl, ho, hb⟩
        have HO17 := am_ (Kd.R_lower ho (show w.heap.size ≤ _ from below_size (by repeat first | (with_reducible first | exact HB.out | apply ba_ | apply bn_ | apply bd_) | exact HB.out)))
        replace HO13 := am_ (Kd.R_below (by (with_reducible repeat first | apply ra_ | apply rn_ | apply rd_); exact HO13.out) hb); replace HO15 := am_ (Kd.R_below (by (with_reducible repeat first | apply ra_ | apply rn_ | apply rd_); exact HO15.out) hb); replace BKg14 := am_ (blk_below (blk_below BKg14.out (by repeat first | exact Below.refl _ _ | apply ba_ | apply bn_ | apply bd_)) hb); replace HB := am_ (below_step (by repeat first | (with_reducible first | exact HB.out | apply ba_ | apply bn_ | apply bd_) | exact HB.out) hb); clear hb
        clear ho HHI HHS
        obtain ⟨A15, c15, e15⟩ := Kd.R_slice HO15.out
        subst e15
        obtain ⟨A17, c17, e17⟩ := Kd.R_slice HO17.out
        subst e17
        have sb : (so == so) = true := by simp
        go_wp2_with fail
        refine (laws_vInts.calls kE A15 c15 ps A17 c17 ps true _ (by repeat first | exact (R_C HO15.out) | with_reducible refine ca_ ?_ _ | with_reducible refine cn_ ?_ _ | with_reducible refine cd_ ?_) (R_cap HO15.out) (by repeat first | exact (R_C HO17.out) | with_reducible refine ca_ ?_ _ | with_reducible refine cn_ ?_ _ | with_reducible refine cd_ ?_) (R_cap HO17.out) HE.out).mono ?_
        rintro e w9 ⟨rfl, hb0⟩
        have hb := db_ hb0
        clear hb0
        replace HB := am_ (below_step (by repeat first | (with_reducible first | exact HB.out | apply ba_ | apply bn_ | apply bd_) | exact HB.out) hb); clear hb
        go_wp2
        go_ret
        exact ⟨rfl, (by repeat first | (with_reducible first | exact HB.out | apply ba_ | apply bn_ | apply bd_) | exact HB.out)⟩
      · have b1 : decide (n < need - h) = false := decide_eq_false (by omega)
        have b1' : decide (0 < need - h - n) = false := decide_eq_false hd
        clear hz hd
        go_wp2_with fail
        clear yg5_0 fg5_0 yg5_1 fg5_1 yg5_2 fg5_2 yg5_3 fg5_3
        refine (drawHist_c A0 c0 l0 _ (by repeat first | exact (Kd.C_below HR0.out HB.out) | with_reducible refine ca_ ?_ _ | with_reducible refine cn_ ?_ _ | with_reducible refine cd_ ?_) HE0.out).mono ?_
        rintro e w6 ⟨v13, xs, i2, s2, m2, r2, rfl, ho, hl, hb⟩
        have HO13 := am_ (Kd.R_lower ho (show w.heap.size ≤ _ from below_size (by repeat first | (with_reducible first | exact HB.out | apply ba_ | apply bn_ | apply bd_) | exact HB.out)))
        replace HB := am_ (below_step (by repeat first | (with_reducible first | exact HB.out | apply ba_ | apply bn_ | apply bd_) | exact HB.out) hb); clear hb
        clear ho BKg5
        obtain ⟨A13, c13, e13⟩ := Kd.R_slice HO13.out
        subst e13
        have HHI := am_ (fun W hc => histI_c A13 c13 xs i2 s2 m2 r2 W hc (R_cap HO13.out) (fun hp => R_head HO13.out hp) (by omega))
        have HHS := am_ (fun W hc => histS_c A13 c13 xs i2 s2 m2 r2 W hc (R_cap HO13.out) (fun hp => R_head HO13.out hp) (by omega))
        have hln := histA_len xs i2 s2 m2 r2
        obtain ⟨HA, hHA⟩ : ∃ H, H = histA xs i2 s2 m2 r2 := ⟨_, rfl⟩
        rw [← hHA] at HHI HHS hln
        clear hHA
        obtain ⟨ps, so⟩ := HA
        simp only at HHI HHS hln
        obtain ⟨kE, hE⟩ := roundsOf (vInts_ev ps (by omega))
        have HE := am_ hE
        clear hE hln hl
        go_upto_region 17 with (fail)
        obtain ⟨W1, hW1⟩ : ∃ W1, W1 = w6.alloc (.cells #[.int .i64 i2, .int .i64 s2, .int .i64 m2, .int .i64 r2] 26) := ⟨_, rfl⟩
        have BKg14 := am_ (show W1.heap[w6.heap.size]? = some (.cells #[.int .i64 i2, .int .i64 s2, .int .i64 m2, .int .i64 r2] 26 (0, 0)) from by rw [hW1]; exact blk_new w6 _)
        have n2 := am_ (show Below w.heap.size w W1 from by rw [hW1]; exact below_alloc HB.out _)
        have n3 := am_ (show (Kd.int .i64).R 3 W1 w.heap.size (fun _ => True) (.slice A13 xs.length c13) xs from by rw [hW1]; exact ra_ HO13.out _)
        rw [← hW1]
        clear hW1 HB HO13
        have HB := n2
        have HO13 := n3
        clear n3
        clear n2
        generalize w6.heap.size = g14 at BKg14 ⊢
        have yg14_0 : W1.cell? ⟨g14, 0, none⟩ = some (.int .i64 i2) := (blk_cell BKg14.out 0).trans rfl; have fg14_0 := blk_frozen BKg14.out 0; have yg14_1 : W1.cell? ⟨g14, 1, none⟩ = some (.int .i64 s2) := (blk_cell BKg14.out 1).trans rfl; have fg14_1 := blk_frozen BKg14.out 1; have yg14_2 : W1.cell? ⟨g14, 2, none⟩ = some (.int .i64 m2) := (blk_cell BKg14.out 2).trans rfl; have fg14_2 := blk_frozen BKg14.out 2; have yg14_3 : W1.cell? ⟨g14, 3, none⟩ = some (.int .i64 r2) := (blk_cell BKg14.out 3).trans rfl; have fg14_3 := blk_frozen BKg14.out 3
        go_wp2_with fail
        clear yg14_0 fg14_0 yg14_1 fg14_1 yg14_2 fg14_2 yg14_3 fg14_3
        refine (HHI.out _ (by repeat first | exact (R_C HO13.out) | with_reducible refine ca_ ?_ _ | with_reducible refine cn_ ?_ _ | with_reducible refine cd_ ?_)).mono ?_
        rintro e w7 ⟨v15, rfl, ho, hb⟩
        have HO15 := am_ (Kd.R_lower ho (show w.heap.size ≤ _ from below_size (by repeat first | (with_reducible first | exact HB.out | apply ba_ | apply bn_ | apply bd_) | exact HB.out)))
        replace HO13 := am_ (Kd.R_below (by (with_reducible repeat first | apply ra_ | apply rn_ | apply rd_); exact HO13.out) hb); replace BKg14 := am_ (blk_below (blk_below BKg14.out (by repeat first | exact Below.refl _ _ | apply ba_ | apply bn_ | apply bd_)) hb); replace HB := am_ (below_step (by repeat first | (with_reducible first | exact HB.out | apply ba_ | apply bn_ | apply bd_) | exact HB.out) hb); clear hb
        clear ho
        have yg14_0 : w7.cell? ⟨g14, 0, none⟩ = some (.int .i64 i2) := (blk_cell BKg14.out 0).trans rfl; have fg14_0 := blk_frozen BKg14.out 0; have yg14_1 : w7.cell? ⟨g14, 1, none⟩ = some (.int .i64 s2) := (blk_cell BKg14.out 1).trans rfl; have fg14_1 := blk_frozen BKg14.out 1; have yg14_2 : w7.cell? ⟨g14, 2, none⟩ = some (.int .i64 m2) := (blk_cell BKg14.out 2).trans rfl; have fg14_2 := blk_frozen BKg14.out 2; have yg14_3 : w7.cell? ⟨g14, 3, none⟩ = some (.int .i64 r2) := (blk_cell BKg14.out 3).trans rfl; have fg14_3 := blk_frozen BKg14.out 3
        go_wp2_with fail
        clear yg14_0 fg14_0 yg14_1 fg14_1 yg14_2 fg14_2 yg14_3 fg14_3
        refine (HHS.out _ (by repeat first | exact (R_C HO13.out) | with_reducible refine ca_ ?_ _ | with_reducible refine cn_ ?_ _ | with_reducible refine cd_ ?_)).mono ?_
        rintro e w8 ⟨v17, rfl, ho, hb⟩
        have HO17 := am_ (Kd.R_lower ho (show w.heap.size ≤ _ from below_size (by repeat first | (with_reducible first | exact HB.out | apply ba_ | apply bn_ | apply bd_) | exact HB.out)))
        replace HO13 := am_ (Kd.R_below (by (with_reducible repeat first | apply ra_ | apply rn_ | apply rd_); exact HO13.out) hb); replace HO15 := am_ (Kd.R_below (by (with_reducible repeat first | apply ra_ | apply rn_ | apply rd_); exact HO15.out) hb); replace BKg14 := am_ (blk_below (blk_below BKg14.out (by repeat first | exact Below.refl _ _ | apply ba_ | apply bn_ | apply bd_)) hb); replace HB := am_ (below_step (by repeat first | (with_reducible first | exact HB.out | apply ba_ | apply bn_ | apply bd_) | exact HB.out) hb); clear hb
        clear ho HHI HHS
        obtain ⟨A15, c15, e15⟩ := Kd.R_slice HO15.out
        subst e15
        obtain ⟨A17, c17, e17⟩ := Kd.R_slice HO17.out
        subst e17
        have sb : (so == so) = true := by simp
        go_wp2_with fail
        refine (laws_vInts.calls kE A15 c15 ps A17 c17 ps true _ (by repeat first | exact (R_C HO15.out) | with_reducible refine ca_ ?_ _ | with_reducible refine cn_ ?_ _ | with_reducible refine cd_ ?_) (R_cap HO15.out) (by repeat first | exact (R_C HO17.out) | with_reducible refine ca_ ?_ _ | with_reducible refine cn_ ?_ _ | with_reducible refine cd_ ?_) (R_cap HO17.out) HE.out).mono ?_
        rintro e w9 ⟨rfl, hb0⟩
        have hb := db_ hb0
        clear hb0
        replace HB := am_ (below_step (by repeat first | (with_reducible first | exact HB.out | apply ba_ | apply bn_ | apply bd_) | exact HB.out) hb); clear hb
        go_wp2
        go_ret
        exact ⟨rfl, (by repeat first | (with_reducible first | exact HB.out | apply ba_ | apply bn_ | apply bd_) | exact HB.out)⟩
    · have a2 : (n == 0) = false := by simp [hz]
      have a2b : decide (n = 0) = false := decide_eq_false hz
      have a2c : (n != 0) = true := by simp [hz]
      obtain ⟨k1, k2, k3, k4⟩ := F9.out hz
      have b1 : decide (n < need - h) = false := decide_eq_false (by omega)
      have b1' : decide (0 < need - h - n) = false := decide_eq_false (by omega)
      have b4' : decide (r ≤ n - (need - h)) = false := decide_eq_false (by omega)
      have b4 : decide (r ≤ -(need - h - n)) = false := decide_eq_false (by omega)
      by_cases hp : 0 < n
      · have a4 : decide (0 < n) = true := decide_eq_true hp
        have a5 : decide (n < 0) = false := decide_eq_false (by omega)
        have k5 := k3 hp
        have b5 : decide (n < m) = false := decide_eq_false (by omega)
        clear hz hp k1 k2 k3 k4 k5
        go_wp2_with fail
        clear yg5_0 fg5_0 yg5_1 fg5_1 yg5_2 fg5_2 yg5_3 fg5_3
        refine (drawHist_c A0 c0 l0 _ (by repeat first | exact (Kd.C_below HR0.out HB.out) | with_reducible refine ca_ ?_ _ | with_reducible refine cn_ ?_ _ | with_reducible refine cd_ ?_) HE0.out).mono ?_
        rintro e w6 ⟨v13, xs, i2, s2, m2, r2, rfl, ho, hl, hb⟩
        have HO13 := am_ (Kd.R_lower ho (show w.heap.size ≤ _ from below_size (by repeat first | (with_reducible first | exact HB.out | apply ba_ | apply bn_ | apply bd_) | exact HB.out)))
        replace HB := am_ (below_step (by repeat first | (with_reducible first | exact HB.out | apply ba_ | apply bn_ | apply bd_) | exact HB.out) hb); clear hb
        clear ho BKg5
        obtain ⟨A13, c13, e13⟩ := Kd.R_slice HO13.out
        subst e13
        have HHI := am_ (fun W hc => histI_c A13 c13 xs i2 s2 m2 r2 W hc (R_cap HO13.out) (fun hp => R_head HO13.out hp) (by omega))
        have HHS := am_ (fun W hc => histS_c A13 c13 xs i2 s2 m2 r2 W hc (R_cap HO13.out) (fun hp => R_head HO13.out hp) (by omega))
        have hln := histA_len xs i2 s2 m2 r2
        obtain ⟨HA, hHA⟩ : ∃ H, H = histA xs i2 s2 m2 r2 := ⟨_, rfl⟩
        rw [← hHA] at HHI HHS hln
        clear hHA
        obtain ⟨ps, so⟩ := HA
        simp only at HHI HHS hln
        obtain ⟨kE, hE⟩ := roundsOf (vInts_ev ps (by omega))
        have HE := am_ hE
        clear hE hln hl
        go_upto_region 17 with (fail)
        obtain ⟨W1, hW1⟩ : ∃ W1, W1 = w6.alloc (.cells #[.int .i64 i2, .int .i64 s2, .int .i64 m2, .int .i64 r2] 26) := ⟨_, rfl⟩
        have BKg14 := am_ (show W1.heap[w6.heap.size]? = some (.cells #[.int .i64 i2, .int .i64 s2, .int .i64 m2, .int .i64 r2] 26 (0, 0)) from by rw [hW1]; exact blk_new w6 _)
        have n2 := am_ (show Below w.heap.size w W1 from by rw [hW1]; exact below_alloc HB.out _)
        have n3 := am_ (show (Kd.int .i64).R 3 W1 w.heap.size (fun _ => True) (.slice A13 xs.length c13) xs from by rw [hW1]; exact ra_ HO13.out _)
        rw [← hW1]
        clear hW1 HB HO13
        have HB := n2
        have HO13 := n3
        clear n3
        clear n2
        generalize w6.heap.size = g14 at BKg14 ⊢
        have yg14_0 : W1.cell? ⟨g14, 0, none⟩ = some (.int .i64 i2) := (blk_cell BKg14.out 0).trans rfl; have fg14_0 := blk_frozen BKg14.out 0; have yg14_1 : W1.cell? ⟨g14, 1, none⟩ = some (.int .i64 s2) := (blk_cell BKg14.out 1).trans rfl; have fg14_1 := blk_frozen BKg14.out 1; have yg14_2 : W1.cell? ⟨g14, 2, none⟩ = some (.int .i64 m2) := (blk_cell BKg14.out 2).trans rfl; have fg14_2 := blk_frozen BKg14.out 2; have yg14_3 : W1.cell? ⟨g14, 3, none⟩ = some (.int .i64 r2) := (blk_cell BKg14.out 3).trans rfl; have fg14_3 := blk_frozen BKg14.out 3
        go_wp2_with fail
        clear yg14_0 fg14_0 yg14_1 fg14_1 yg14_2 fg14_2 yg14_3 fg14_3
        refine (HHI.out _ (by repeat first | exact (R_C HO13.out) | with_reducible refine ca_ ?_ _ | with_reducible refine cn_ ?_ _ | with_reducible refine cd_ ?_)).mono ?_
        rintro e w7 ⟨v15, rfl, ho, hb⟩
        have HO15 := am_ (Kd.R_lower ho (show w.heap.size ≤ _ from below_size (by repeat first | (with_reducible first | exact HB.out | apply ba_ | apply bn_ | apply bd_) | exact HB.out)))
        replace HO13 := am_ (Kd.R_below (by (with_reducible repeat first | apply ra_ | apply rn_ | apply rd_); exact HO13.out) hb); replace BKg14 := am_ (blk_below (blk_below BKg14.out (by repeat first | exact Below.refl _ _ | apply ba_ | apply bn_ | apply bd_)) hb); replace HB := am_ (below_step (by repeat first | (with_reducible first | exact HB.out | apply ba_ | apply bn_ | apply bd_) | exact HB.out) hb); clear hb
        clear ho
        have yg14_0 : w7.cell? ⟨g14, 0, none⟩ = some (.int .i64 i2) := (blk_cell BKg14.out 0).trans rfl; have fg14_0 := blk_frozen BKg14.out 0; have yg14_1 : w7.cell? ⟨g14, 1, none⟩ = some (.int .i64 s2) := (blk_cell BKg14.out 1).trans rfl; have fg14_1 := blk_frozen BKg14.out 1; have yg14_2 : w7.cell? ⟨g14, 2, none⟩ = some (.int .i64 m2) := (blk_cell BKg14.out 2).trans rfl; have fg14_2 := blk_frozen BKg14.out 2; have yg14_3 : w7.cell? ⟨g14, 3, none⟩ = some (.int .i64 r2) := (blk_cell BKg14.out 3).trans rfl; have fg14_3 := blk_frozen BKg14.out 3
        go_wp2_with fail
        clear yg14_0 fg14_0 yg14_1 fg14_1 yg14_2 fg14_2 yg14_3 fg14_3
        refine (HHS.out _ (by repeat first | exact (R_C HO13.out) | with_reducible refine ca_ ?_ _ | with_reducible refine cn_ ?_ _ | with_reducible refine cd_ ?_)).mono ?_
        rintro e w8 ⟨v17, rfl, ho, hb⟩
        have HO17 := am_ (Kd.R_lower ho (show w.heap.size ≤ _ from below_size (by repeat first | (with_reducible first | exact HB.out | apply ba_ | apply bn_ | apply bd_) | exact HB.out)))
        replace HO13 := am_ (Kd.R_below (by (with_reducible repeat first | apply ra_ | apply rn_ | apply rd_); exact HO13.out) hb); replace HO15 := am_ (Kd.R_below (by (with_reducible repeat first | apply ra_ | apply rn_ | apply rd_); exact HO15.out) hb); replace BKg14 := am_ (blk_below (blk_below BKg14.out (by repeat first | exact Below.refl _ _ | apply ba_ | apply bn_ | apply bd_)) hb); replace HB := am_ (below_step (by repeat first | (with_reducible first | exact HB.out | apply ba_ | apply bn_ | apply bd_) | exact HB.out) hb); clear hb
        clear ho HHI HHS
        obtain ⟨A15, c15, e15⟩ := Kd.R_slice HO15.out
        subst e15
        obtain ⟨A17, c17, e17⟩ := Kd.R_slice HO17.out
        subst e17
        have sb : (so == so) = true := by simp
        go_wp2_with fail
        refine (laws_vInts.calls kE A15 c15 ps A17 c17 ps true _ (by repeat first | exact (R_C HO15.out) | with_reducible refine ca_ ?_ _ | with_reducible refine cn_ ?_ _ | with_reducible refine cd_ ?_) (R_cap HO15.out) (by repeat first | exact (R_C HO17.out) | with_reducible refine ca_ ?_ _ | with_reducible refine cn_ ?_ _ | with_reducible refine cd_ ?_) (R_cap HO17.out) HE.out).mono ?_
        rintro e w9 ⟨rfl, hb0⟩
        have hb := db_ hb0
        clear hb0
        replace HB := am_ (below_step (by repeat first | (with_reducible first | exact HB.out | apply ba_ | apply bn_ | apply bd_) | exact HB.out) hb); clear hb
        go_wp2
        go_ret
        exact ⟨rfl, (by repeat first | (with_reducible first | exact HB.out | apply ba_ | apply bn_ | apply bd_) | exact HB.out)⟩
      · have a4 : decide (0 < n) = false := decide_eq_false hp
        have a5 : decide (n < 0) = true := decide_eq_true (by omega)
        have k5 := k4 (by omega)
        have b5 : decide (n < m) = true := decide_eq_true (by omega)
        have b6 : decide (-n < m) = false := decide_eq_false (by omega)
        clear hz hp k1 k2 k3 k4 k5
        go_wp2_with fail
        clear yg5_0 fg5_0 yg5_1 fg5_1 yg5_2 fg5_2 yg5_3 fg5_3
        refine (drawHist_c A0 c0 l0 _ (by repeat first | exact (Kd.C_below HR0.out HB.out) | with_reducible refine ca_ ?_ _ | with_reducible refine cn_ ?_ _ | with_reducible refine cd_ ?_) HE0.out).mono ?_
        rintro e w6 ⟨v13, xs, i2, s2, m2, r2, rfl, ho, hl, hb⟩
        have HO13 := am_ (Kd.R_lower ho (show w.heap.size ≤ _ from below_size (by repeat first | (with_reducible first | exact HB.out | apply ba_ | apply bn_ | apply bd_) | exact HB.out)))
        replace HB := am_ (below_step (by repeat first | (with_reducible first | exact HB.out | apply ba_ | apply bn_ | apply bd_) | exact HB.out) hb); clear hb
        clear ho BKg5
        obtain ⟨A13, c13, e13⟩ := Kd.R_slice HO13.out
        subst e13
        have HHI := am_ (fun W hc => histI_c A13 c13 xs i2 s2 m2 r2 W hc (R_cap HO13.out) (fun hp => R_head HO13.out hp) (by omega))
        have HHS := am_ (fun W hc => histS_c A13 c13 xs i2 s2 m2 r2 W hc (R_cap HO13.out) (fun hp => R_head HO13.out hp) (by omega))
        have hln := histA_len xs i2 s2 m2 r2
        obtain ⟨HA, hHA⟩ : ∃ H, H = histA xs i2 s2 m2 r2 := ⟨_, rfl⟩
        rw [← hHA] at HHI HHS hln
        clear hHA
        obtain ⟨ps, so⟩ := HA
        simp only at HHI HHS hln
        obtain ⟨kE, hE⟩ := roundsOf (vInts_ev ps (by omega))
        have HE := am_ hE
        clear hE hln hl
        go_upto_region 17 with (fail)
        obtain ⟨W1, hW1⟩ : ∃ W1, W1 = w6.alloc (.cells #[.int .i64 i2, .int .i64 s2, .int .i64 m2, .int .i64 r2] 26) := ⟨_, rfl⟩
        have BKg14 := am_ (show W1.heap[w6.heap.size]? = some (.cells #[.int .i64 i2, .int .i64 s2, .int .i64 m2, .int .i64 r2] 26 (0, 0)) from by rw [hW1]; exact blk_new w6 _)
        have n2 := am_ (show Below w.heap.size w W1 from by rw [hW1]; exact below_alloc HB.out _)
        have n3 := am_ (show (Kd.int .i64).R 3 W1 w.heap.size (fun _ => True) (.slice A13 xs.length c13) xs from by rw [hW1]; exact ra_ HO13.out _)
        rw [← hW1]
        clear hW1 HB HO13
        have HB := n2
        have HO13 := n3
        clear n3
        clear n2
        generalize w6.heap.size = g14 at BKg14 ⊢
        have yg14_0 : W1.cell? ⟨g14, 0, none⟩ = some (.int .i64 i2) := (blk_cell BKg14.out 0).trans rfl; have fg14_0 := blk_frozen BKg14.out 0; have yg14_1 : W1.cell? ⟨g14, 1, none⟩ = some (.int .i64 s2) := (blk_cell BKg14.out 1).trans rfl; have fg14_1 := blk_frozen BKg14.out 1; have yg14_2 : W1.cell? ⟨g14, 2, none⟩ = some (.int .i64 m2) := (blk_cell BKg14.out 2).trans rfl; have fg14_2 := blk_frozen BKg14.out 2; have yg14_3 : W1.cell? ⟨g14, 3, none⟩ = some (.int .i64 r2) := (blk_cell BKg14.out 3).trans rfl; have fg14_3 := blk_frozen BKg14.out 3
        go_wp2_with fail
        clear yg14_0 fg14_0 yg14_1 fg14_1 yg14_2 fg14_2 yg14_3 fg14_3
        refine (HHI.out _ (by repeat first | exact (R_C HO13.out) | with_reducible refine ca_ ?_ _ | with_reducible refine cn_ ?_ _ | with_reducible refine cd_ ?_)).mono ?_
        rintro e w7 ⟨v15, rfl, ho, hb⟩
        have HO15 := am_ (Kd.R_lower ho (show w.heap.size ≤ _ from below_size (by repeat first | (with_reducible first | exact HB.out | apply ba_ | apply bn_ | apply bd_) | exact HB.out)))
        replace HO13 := am_ (Kd.R_below (by (with_reducible repeat first | apply ra_ | apply rn_ | apply rd_); exact HO13.out) hb); replace BKg14 := am_ (blk_below (blk_below BKg14.out (by repeat first | exact Below.refl _ _ | apply ba_ | apply bn_ | apply bd_)) hb); replace HB := am_ (below_step (by repeat first | (with_reducible first | exact HB.out | apply ba_ | apply bn_ | apply bd_) | exact HB.out) hb); clear hb
        clear ho
        have yg14_0 : w7.cell? ⟨g14, 0, none⟩ = some (.int .i64 i2) := (blk_cell BKg14.out 0).trans rfl; have fg14_0 := blk_frozen BKg14.out 0; have yg14_1 : w7.cell? ⟨g14, 1, none⟩ = some (.int .i64 s2) := (blk_cell BKg14.out 1).trans rfl; have fg14_1 := blk_frozen BKg14.out 1; have yg14_2 : w7.cell? ⟨g14, 2, none⟩ = some (.int .i64 m2) := (blk_cell BKg14.out 2).trans rfl; have fg14_2 := blk_frozen BKg14.out 2; have yg14_3 : w7.cell? ⟨g14, 3, none⟩ = some (.int .i64 r2) := (blk_cell BKg14.out 3).trans rfl; have fg14_3 := blk_frozen BKg14.out 3
        go_wp2_with fail
        clear yg14_0 fg14_0 yg14_1 fg14_1 yg14_2 fg14_2 yg14_3 fg14_3
        refine (HHS.out _ (by repeat first | exact (R_C HO13.out) | with_reducible refine ca_ ?_ _ | with_reducible refine cn_ ?_ _ | with_reducible refine cd_ ?_)).mono ?_
        rintro e w8 ⟨v17, rfl, ho, hb⟩
        have HO17 := am_ (Kd.R_lower ho (show w.heap.size ≤ _ from below_size (by repeat first | (with_reducible first | exact HB.out | apply ba_ | apply bn_ | apply bd_) | exact HB.out)))
        replace HO13 := am_ (Kd.R_below (by (with_reducible repeat first | apply ra_ | apply rn_ | apply rd_); exact HO13.out) hb); replace HO15 := am_ (Kd.R_below (by (with_reducible repeat first | apply ra_ | apply rn_ | apply rd_); exact HO15.out) hb); replace BKg14 := am_ (blk_below (blk_below BKg14.out (by repeat first | exact Below.refl _ _ | apply ba_ | apply bn_ | apply bd_)) hb); replace HB := am_ (below_step (by repeat first | (with_reducible first | exact HB.out | apply ba_ | apply bn_ | apply bd_) | exact HB.out) hb); clear hb
        clear ho HHI HHS
        obtain ⟨A15, c15, e15⟩ := Kd.R_slice HO15.out
        subst e15
        obtain ⟨A17, c17, e17⟩ := Kd.R_slice HO17.out
        subst e17
        have sb : (so == so) = true := by simp
        go_wp2_with fail
        refine (laws_vInts.calls kE A15 c15 ps A17 c17 ps true _ (by repeat first | exact (R_C HO15.out) | with_reducible refine ca_ ?_ _ | with_reducible refine cn_ ?_ _ | with_reducible refine cd_ ?_) (R_cap HO15.out) (by repeat first | exact (R_C HO17.out) | with_reducible refine ca_ ?_ _ | with_reducible refine cn_ ?_ _ | with_reducible refine cd_ ?_) (R_cap HO17.out) HE.out).mono ?_
        rintro e w9 ⟨rfl, hb0⟩
        have hb := db_ hb0
        clear hb0
        replace HB := am_ (below_step (by repeat first | (with_reducible first | exact HB.out | apply ba_ | apply bn_ | apply bd_) | exact HB.out) hb); clear hb
        go_wp2
        go_ret
        exact ⟨rfl, (by repeat first | (with_reducible first | exact HB.out | apply ba_ | apply bn_ | apply bd_) | exact HB.out)⟩
end Go.Proofs.Ytiaakolalhdelaa.O
