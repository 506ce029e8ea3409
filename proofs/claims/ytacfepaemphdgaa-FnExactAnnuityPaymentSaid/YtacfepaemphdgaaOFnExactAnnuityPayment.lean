/- The program's AnnuityPayment, and the reference's, answer as one plain function does. No other condition. -/
import Derived.Test.YtacfepaemphdgaaPureFnExactAnnuityPayment
import Derived.Shelf.SlSorted.Search
import Derived.Test.YtacfepaemphdgaaOFnExactAnnuityPaymenta
import Derived.Test.YtacfepaemphdgaaOFnExactAnnuityPaymentb
namespace Go.Proofs.Ytacfepaemphdgaa.O
open Go.RowKit Go.Proofs.YtacfepaemphdgaaW.PrintWords Go.Proofs.YtacfepaemphdgaaW.PrintLast Go.Proofs.YtacfepaemphdgaaW.PrintMore Go.Proofs.Ytacfepaemphdgaa.PL15AN Go.Proofs.Ytacfepaemphdgaa.EvKit Go.Proofs.Ytacfepaemphdgaa.Pure
set_option linter.unusedVariables false
set_option linter.unusedSimpArgs false
attribute [local go_sem] max2_int min2_int max_two min_two max_three min_three max_four min_four
set_option maxHeartbeats 8000000 in
set_option maxRecDepth 100000 in
theorem tabI_c (A0 : Option Addr) (c0 : Nat) (xs : List S100) (p0 n d pay c m : Int) (hn : xs.length ≤ 1048576) (w : World) (hr0 : Kd.C k100 w A0 xs.length xs) (ha0 : 0 < xs.length → ∃ b, A0 = some ⟨b, 0, none⟩) :
    Calls Try.prog 41 #[.int .i64 p0, .agg #[.int .i64 n, .int .i64 d], .slice A0 xs.length c0, .int .i64 pay, .int .i64 c, .int .i64 m] w fun e w' => ∃ v, e = .returned (.tuple #[v, .bool (tabA p0 n d xs pay c m).2]) ∧ Kd.R k78 78 w' w.heap.size (fun _ => True) v (tabA p0 n d xs pay c m).1 ∧ Below w.heap.size w w' := by
  have HB := am_ (Below.refl w.heap.size w)
  have HR0 := am_ hr0
  have HA0 := am_ ha0
  clear hr0 ha0
  obtain ⟨kr, hr⟩ := roundsOf (implInterest_ev n d c m)
  have g0_ := within_eq p0 0 1000000000
  by_cases c0_ : 0 ≤ p0 ∧ p0 ≤ 1000000000
  · rw [decide_eq_true c0_] at g0_
    have G1 := am_ g0_
    clear g0_
    have g1_ := hr
    by_cases c1_ : intOk n d c m
    · rw [decide_eq_true c1_] at g1_
      have G2 := am_ g1_
      clear g1_
      have g2_ := goodF_eq xs
      by_cases c2_ : goodP xs = true
      · rw [decide_eq_true c2_] at g2_
        have G3 := am_ g2_
        clear g2_
        have g3_ := within_eq pay 0 1000000000
        by_cases c3_ : 0 ≤ pay ∧ pay ≤ 1000000000
        · rw [decide_eq_true c3_] at g3_
          have G4 := am_ g3_
          clear g3_
          have hfin : tabA p0 n d xs pay c m = tabF n d pay c m p0 xs [] := by unfold tabA; rw [if_pos ⟨c0_, c1_, c2_, c3_⟩]
          rw [hfin]
          obtain ⟨FIN, hFIN⟩ : ∃ F, F = tabF n d pay c m p0 xs [] := ⟨_, rfl⟩
          rw [← hFIN]
          have HF := am_ (show tabF n d pay c m p0 (xs.drop 0) [] = FIN from hFIN.symm)
          have HPB := am_ (show -2000000000 ≤ p0 ∧ p0 ≤ 2000000000 from by omega)
          have hpy := c3_.1
          have hpy2 := c3_.2
          clear hfin hFIN c0_ c1_ c2_ c3_ hr
          go_enter Try.func41, Try.ntmps41
          go_wp2_with (((with_reducible refine gate_dst (N := 7) rfl ?_); refine box_event ?hg (N := 7) ?hd (cs := #[.int .i64 n,.int .i64 d]) (t := 24) ?hr ?_; (case hd => rfl); (case hg => rfl); (case hr => first | (go_simp; done) | (go_simp; rfl))); intro g1 hg w_g1 hbox hb; have n_ := am_ (below_step (by repeat first | (with_reducible first | exact HB.out | apply ba_ | apply bn_ | apply bd_) | exact HB.out) hb); have BKg1 := am_ hbox; have GEg1 := am_ (show w.heap.size ≤ g1 from by rw [hg]; exact below_size (by repeat first | (with_reducible first | exact HB.out | apply ba_ | apply bn_ | apply bd_) | exact HB.out)); clear HB ; have HB := n_; clear n_ hb hbox hg)
          refine (impl_within.calls p0 0 1000000000 true _ G1.out).mono ?_
          rintro e w1_ ⟨rfl, hb0⟩
          have hb := db_ hb0
          clear hb0
          replace BKg1 := am_ (blk_below (blk_below BKg1.out (by repeat first | exact Below.refl _ _ | apply ba_ | apply bn_ | apply bd_)) hb); replace HB := am_ (below_step (by repeat first | (with_reducible first | exact HB.out | apply ba_ | apply bn_ | apply bd_) | exact HB.out) hb); clear hb
          have yg1_0 : w1_.cell? ⟨g1, 0, none⟩ = some (.int .i64 n) := (blk_cell BKg1.out 0).trans rfl; have fg1_0 := blk_frozen BKg1.out 0; have yg1_1 : w1_.cell? ⟨g1, 1, none⟩ = some (.int .i64 d) := (blk_cell BKg1.out 1).trans rfl; have fg1_1 := blk_frozen BKg1.out 1
          go_wp2_with fail
          clear yg1_0 fg1_0 yg1_1 fg1_1
          refine (impl_isInterest.calls kr n d c m true _ G2.out).mono ?_
          rintro e w2_ ⟨rfl, hb⟩
          replace BKg1 := am_ (blk_below (blk_below BKg1.out (by repeat first | exact Below.refl _ _ | apply ba_ | apply bn_ | apply bd_)) hb); replace HB := am_ (below_step (by repeat first | (with_reducible first | exact HB.out | apply ba_ | apply bn_ | apply bd_) | exact HB.out) hb); clear hb
          go_wp2_with fail
          refine (goodI_c2 _ _ xs true G3.out _ (by repeat first | exact (Kd.C_below HR0.out HB.out) | with_reducible refine ca_ ?_ _ | with_reducible refine cn_ ?_ _ | with_reducible refine cd_ ?_) HA0.out hn).mono ?_
          rintro e w3_ ⟨rfl, hb⟩
          replace BKg1 := am_ (blk_below (blk_below BKg1.out (by repeat first | exact Below.refl _ _ | apply ba_ | apply bn_ | apply bd_)) hb); replace HB := am_ (below_step (by repeat first | (with_reducible first | exact HB.out | apply ba_ | apply bn_ | apply bd_) | exact HB.out) hb); clear hb
          go_wp2_with fail
          refine (impl_within.calls pay 0 1000000000 true _ G4.out).mono ?_
          rintro e w4_ ⟨rfl, hb0⟩
          have hb := db_ hb0
          clear hb0
          replace BKg1 := am_ (blk_below (blk_below BKg1.out (by repeat first | exact Below.refl _ _ | apply ba_ | apply bn_ | apply bd_)) hb); replace HB := am_ (below_step (by repeat first | (with_reducible first | exact HB.out | apply ba_ | apply bn_ | apply bd_) | exact HB.out) hb); clear hb
          go_wp2_with (((with_reducible refine gate_dst (N := 40) rfl ?_); refine Kd.R_lit k78 w.heap.size 78 (w0 := w) ?hg (N := 40) ?hd (xs := []) (inner := []) (ok := fun _ => True) (okp := fun _ => True) ?hr ?hp (fun _ hk => hk) trivial (by repeat first | (with_reducible first | exact HB.out | apply ba_ | apply bn_ | apply bd_) | exact HB.out) (below_size (by repeat first | (with_reducible first | exact HB.out | apply ba_ | apply bn_ | apply bd_) | exact HB.out)) (by simp) ?_; (case hd => rfl); (case hg => rfl); (case hr => first | (go_simp; done) | (go_simp; rfl)); (case hp => exact (Reps.none _ _)); intro v1 w1 ho hb hgr hnw); have HOUT := am_ ho; have n_ := am_ (blk_grown BKg1.out hgr (by simp)); clear BKg1 HB; have BKg1 := n_; have HB := am_ hb; clear n_ ho hb hgr hnw)
          go_loopw [0, 14, 43] (fun v0 vo v43 wr => ∃ (i : Nat) (p : Int) (out : List S78), v0 = .int .i64 p ∧ v43 = .int .i64 i ∧ Aside0 (i ≤ xs.length) ∧ Aside0 (-2000000000 ≤ p ∧ p ≤ 2000000000) ∧ Aside0 (out.length ≤ i) ∧ Aside0 (tabF n d pay c m p (xs.drop i) out = FIN) ∧ Aside0 (Kd.R k78 78 wr w.heap.size (fun _ => True) vo out) ∧ Aside0 (wr.heap[g1]? = some (.cells #[.int .i64 n, .int .i64 d] 24 (0, 0))) ∧ Aside0 (Below w.heap.size w wr)) (fun _ _ v43 _ => xs.length - (intOf v43).toNat)
          case atStart => exact ⟨0, p0, [], rfl, rfl, ⟨Nat.zero_le _⟩, HPB, ⟨Nat.le_refl _⟩, HF, HOUT, BKg1, HB⟩
          case round =>
            clear HF HPB HOUT BKg1 HB
            obtain ⟨i, p, out, rfl, rfl, HI, HPB, HOL, HF, HOUT, BKg1, HB⟩ := hrel
            by_cases hil : i < xs.length
            · have ci : decide (i < xs.length) = true := decide_eq_true hil
              obtain ⟨ad, e0, hx0, hx1, hx2⟩ := at_T100 HR0.out (i : Int) (by omega) (by omega)
              cases e0
              simp only [Int.toNat_natCast] at hx0 hx1 hx2
              obtain ⟨⟨f0, f1, f2⟩, ha⟩ : ∃ a, a = rd_T100 xs (i : Int) := ⟨_, rfl⟩
              rw [← ha] at hx0 hx1 hx2
              simp only at hx0 hx1 hx2
              obtain ⟨AC, hAC⟩ : ∃ F, F = accrueA p n d f0 f1 c m := ⟨_, rfl⟩
              have hrb := accrue_bd p n d f0 f1 c m
              rw [← hAC] at hrb
              obtain ⟨r, so⟩ := AC
              simp only at hrb
              have HAC := am_ hAC.symm
              have hst := tabF_at (n := n) (d := d) (pay := pay) (c := c) (m := m) (p := p) hil out ha.symm hAC.symm
              rw [HF.out] at hst
              have HST := am_ hst
              have HX0 := am_ hx0
              have HX1 := am_ hx1
              have HX2 := am_ hx2
              have HBL0 := am_ (World.block_lt_of_cell? w _ hx0)
              have HBL1 := am_ (World.block_lt_of_cell? w _ hx1)
              have HBL2 := am_ (World.block_lt_of_cell? w _ hx2)
              have hpb := HPB.out
              have hol : out.length ≤ 1048576 := by have := HOL.out; omega
              clear hst ha hAC hx0 hx1 hx2
              have hx0 := (HB.out.cell HBL0.out).trans HX0.out
              have hx1 := (HB.out.cell HBL1.out).trans HX1.out
              have hx2 := (HB.out.cell HBL2.out).trans HX2.out
              go_wp2_with (((with_reducible refine gate_dst (N := 16) rfl ?_); refine box_event ?hg (N := 16) ?hd (cs := #[.int .i64 0, .int .i64 0, .int .i64 0]) (t := 100) ?hr ?_; (case hd => rfl); (case hg => rfl); (case hr => first | (go_simp; done) | (go_simp; rfl))); intro g4 hg w_g4 hbox hb; have HO_g4 := am_ (Kd.R_below (Kd.R_mono (Kd.R_bound HOUT.out) (fun k hk => (by rw [hg]; exact Nat.ne_of_lt hk.2.2.1 : k ≠ g4))) hb); have NEg1_g4 := am_ (show g1 ≠ g4 from by rw [hg]; exact Nat.ne_of_lt (blk_lt BKg1.out)); have NEg4_g1 := am_ (Ne.symm NEg1_g4.out); have m_g1 := am_ (blk_below BKg1.out hb); have GEg4 := am_ (show w.heap.size ≤ g4 from by rw [hg]; exact below_size HB.out); have n_ := am_ (below_step HB.out hb); have BKg4 := am_ hbox; clear HB hb hbox hg HOUT BKg1; have HB := n_; clear n_; have BKg1 := m_g1; clear m_g1;have yg4_0 : w_g4.cell? ⟨g4, 0, none⟩ = some (.int .i64 0) := (blk_cell BKg4.out 0).trans rfl; have fg4_0 := blk_frozen BKg4.out 0; have yg4_1 : w_g4.cell? ⟨g4, 1, none⟩ = some (.int .i64 0) := (blk_cell BKg4.out 1).trans rfl; have fg4_1 := blk_frozen BKg4.out 1; have yg4_2 : w_g4.cell? ⟨g4, 2, none⟩ = some (.int .i64 0) := (blk_cell BKg4.out 2).trans rfl; have fg4_2 := blk_frozen BKg4.out 2; have yg1_0 : w_g4.cell? ⟨g1, 0, none⟩ = some (.int .i64 n) := (blk_cell BKg1.out 0).trans rfl; have fg1_0 := blk_frozen BKg1.out 0; have yg1_1 : w_g4.cell? ⟨g1, 1, none⟩ = some (.int .i64 d) := (blk_cell BKg1.out 1).trans rfl; have fg1_1 := blk_frozen BKg1.out 1; have hn1_ := NEg1_g4.out; have hn2_ := NEg4_g1.out)
              clear hx0 hx1 hx2 hn1_ hn2_
              clear yg1_0 fg1_0 yg1_1 fg1_1
              have BKn := am_ (show ((((w_g4).setCell ⟨g4, 0, none⟩ (.int .i64 f0)).setCell ⟨g4, 1, none⟩ (.int .i64 f1)).setCell ⟨g4, 2, none⟩ (.int .i64 f2)).heap[g4]? = some (.cells #[.int .i64 f0, .int .i64 f1, .int .i64 f2] 100 (0, 0)) from (by (with_reducible repeat first | refine kn_ ?_ _ | refine kd_ ?_ | refine ka_ ?_ _); refine blk_put (cs := #[.int .i64 f0, .int .i64 f1, .int .i64 0]) ?_ 2 _ rfl; (with_reducible repeat first | refine kn_ ?_ _ | refine kd_ ?_ | refine ka_ ?_ _); refine blk_put (cs := #[.int .i64 f0, .int .i64 0, .int .i64 0]) ?_ 1 _ rfl; (with_reducible repeat first | refine kn_ ?_ _ | refine kd_ ?_ | refine ka_ ?_ _); refine blk_put (cs := #[.int .i64 0, .int .i64 0, .int .i64 0]) ?_ 0 _ rfl; (with_reducible repeat first | refine kn_ ?_ _ | refine kd_ ?_ | refine ka_ ?_ _); exact BKg4.out))
              have BK_g1 := am_ (show ((((w_g4).setCell ⟨g4, 0, none⟩ (.int .i64 f0)).setCell ⟨g4, 1, none⟩ (.int .i64 f1)).setCell ⟨g4, 2, none⟩ (.int .i64 f2)).heap[g1]? = some (.cells #[.int .i64 n, .int .i64 d] 24 (0, 0)) from (by repeat (with_reducible first | exact BKg1.out | refine kn_ ?_ _ | refine kd_ ?_ | refine ka_ ?_ _ | refine kf_ ?_ NEg1_g4.out _)))
              have HBn := am_ (show Below w.heap.size w ((((w_g4).setCell ⟨g4, 0, none⟩ (.int .i64 f0)).setCell ⟨g4, 1, none⟩ (.int .i64 f1)).setCell ⟨g4, 2, none⟩ (.int .i64 f2)) from (by repeat first | (with_reducible first | exact HB.out | apply ba_ | apply bn_ | apply bd_ | refine below_set ?_ GEg4.out) | exact HB.out))
              have HOn := am_ (show Kd.R k78 78 ((((w_g4).setCell ⟨g4, 0, none⟩ (.int .i64 f0)).setCell ⟨g4, 1, none⟩ (.int .i64 f1)).setCell ⟨g4, 2, none⟩ (.int .i64 f2)) w.heap.size (fun k => k ≠ g4) u14 out from Kd.R_far (Kd.R_far (Kd.R_far (HO_g4.out) (fun k hk => hk) _) (fun k hk => hk) _) (fun k hk => hk) _)
              clear HB HO_g4 BKg4 BKg1
              clear yg4_0 fg4_0 yg4_1 fg4_1 yg4_2 fg4_2
              generalize (((w_g4).setCell ⟨g4, 0, none⟩ (.int .i64 f0)).setCell ⟨g4, 1, none⟩ (.int .i64 f1)).setCell ⟨g4, 2, none⟩ (.int .i64 f2) = W4 at BKn HBn HOn BK_g1 ⊢
              have BKg4 := BKn
              have HB := HBn
              clear BKn HBn
              have BKg1 := BK_g1
              clear BK_g1
              have HNg4 := am_ (show some g4 ≠ u14.ownBlock from fun he => HOn.out.1 g4 he.symm rfl)
              have HOUT := am_ (Kd.R_mono HOn.out (ok' := fun _ => True) (fun _ _ => trivial))
              clear HOn
              clear HNg4 NEg1_g4 NEg4_g1 GEg4 BKg4
              refine (accrueI_c p n d f0 f1 c m _).mono ?_
              rw [HAC.out]
              rintro e w1_ ⟨rfl, hb⟩
              replace HOUT := am_ (Kd.R_below (by (with_reducible repeat first | apply ra_ | apply rn_ | apply rd_); exact HOUT.out) hb); replace BKg1 := am_ (blk_below (blk_below BKg1.out (by repeat first | exact Below.refl _ _ | apply ba_ | apply bn_ | apply bd_)) hb); replace HB := am_ (below_step (by repeat first | (with_reducible first | exact HB.out | apply ba_ | apply bn_ | apply bd_) | exact HB.out) hb); clear hb
              cases so with
              | false =>
                have HFZ := am_ (show FIN = ([], false) from by rw [HST.out, if_neg (fun g => by simp at g)])
                go_wp2
                go_ret2
                exact ⟨_, by rw [HFZ.out]; rfl, by rw [HFZ.out]; exact Kd.R_nil _ _ _ _ _, (by repeat first | (with_reducible first | exact HB.out | apply ba_ | apply bn_ | apply bd_) | exact HB.out)⟩
              | true =>
                obtain ⟨q, hq⟩ : ∃ q, q = p + r := ⟨_, rfl⟩
                obtain ⟨mn, hmn⟩ : ∃ x, x = minI pay q := ⟨_, rfl⟩
                have hmb := minI_bd pay q
                rw [← hmn] at hmb
                have hqa := isAmount_eq q
                by_cases cq : -1000000000 ≤ q ∧ q ≤ 1000000000
                rotate_left
                · rw [decide_eq_false cq] at hqa
                  have HQA := am_ hqa
                  have hw1 : p + r = q := hq.symm
                  have HFZ := am_ (show FIN = ([], false) from by rw [HST.out, if_neg (fun g => cq (by rw [hq]; exact g.2))])
                  clear hqa hq hmn
                  go_wp2_with fail
                  refine (impl_isAmount.calls q false _ HQA.out).mono ?_
                  rintro e w2_ ⟨rfl, hb0⟩
                  have hb := db_ hb0
                  clear hb0
                  replace HOUT := am_ (Kd.R_below (by (with_reducible repeat first | apply ra_ | apply rn_ | apply rd_); exact HOUT.out) hb); replace BKg1 := am_ (blk_below (blk_below BKg1.out (by repeat first | exact Below.refl _ _ | apply ba_ | apply bn_ | apply bd_)) hb); replace HB := am_ (below_step (by repeat first | (with_reducible first | exact HB.out | apply ba_ | apply bn_ | apply bd_) | exact HB.out) hb); clear hb
                  go_wp2
                  go_ret2
                  exact ⟨_, by rw [HFZ.out]; rfl, by rw [HFZ.out]; exact Kd.R_nil _ _ _ _ _, (by repeat first | (with_reducible first | exact HB.out | apply ba_ | apply bn_ | apply bd_) | exact HB.out)⟩
                rw [decide_eq_true cq] at hqa
                have HQA := am_ hqa
                have HFS := am_ (show tabF n d pay c m (q - mn) (xs.drop (i + 1)) (out ++ [⟨p, r, mn, q - mn⟩]) = FIN from by rw [HST.out, if_pos ⟨rfl, by rw [← hq]; exact cq⟩, hmn, hq])
                have hw1 : p + r = q := hq.symm
                clear hqa hq
                by_cases c1 : q < pay
                · have hmq : q = mn := (show mn = q from by rw [hmn]; unfold minI; rw [if_pos c1]).symm
                  clear hmn
                  subst hmq
                  rw [Int.sub_self] at HFS
                  go_wp2_with fail
                  refine (impl_isAmount.calls q true _ HQA.out).mono ?_
                  rintro e w2_ ⟨rfl, hb0⟩
                  have hb := db_ hb0
                  clear hb0
                  replace HOUT := am_ (Kd.R_below (by (with_reducible repeat first | apply ra_ | apply rn_ | apply rd_); exact HOUT.out) hb); replace BKg1 := am_ (blk_below (blk_below BKg1.out (by repeat first | exact Below.refl _ _ | apply ba_ | apply bn_ | apply bd_)) hb); replace HB := am_ (below_step (by repeat first | (with_reducible first | exact HB.out | apply ba_ | apply bn_ | apply bd_) | exact HB.out) hb); clear hb
                  go_upto_region 12 with (((with_reducible refine gate_dst (N := 19) rfl ?_); refine box_event ?hg (N := 19) ?hd (cs := #[.int .i64 0, .int .i64 0, .int .i64 0, .int .i64 0]) (t := 78) ?hr ?_; (case hd => rfl); (case hg => rfl); (case hr => first | (go_simp; done) | (go_simp; rfl))); intro g3 hg w_g3 hbox hb; have HO_g3 := am_ (Kd.R_below (Kd.R_mono (Kd.R_bound HOUT.out) (fun k hk => (by rw [hg]; exact Nat.ne_of_lt hk.2.2.1 : k ≠ g3))) hb); have NEg1_g3 := am_ (show g1 ≠ g3 from by rw [hg]; exact Nat.ne_of_lt (blk_lt BKg1.out)); have NEg3_g1 := am_ (Ne.symm NEg1_g3.out); have m_g1 := am_ (blk_below BKg1.out hb); have GEg3 := am_ (show w.heap.size ≤ g3 from by rw [hg]; exact below_size HB.out); have n_ := am_ (below_step HB.out hb); have BKg3 := am_ hbox; clear HB hb hbox hg HOUT BKg1; have HB := n_; clear n_; have BKg1 := m_g1; clear m_g1;have yg3_0 : w_g3.cell? ⟨g3, 0, none⟩ = some (.int .i64 0) := (blk_cell BKg3.out 0).trans rfl; have fg3_0 := blk_frozen BKg3.out 0; have yg3_1 : w_g3.cell? ⟨g3, 1, none⟩ = some (.int .i64 0) := (blk_cell BKg3.out 1).trans rfl; have fg3_1 := blk_frozen BKg3.out 1; have yg3_2 : w_g3.cell? ⟨g3, 2, none⟩ = some (.int .i64 0) := (blk_cell BKg3.out 2).trans rfl; have fg3_2 := blk_frozen BKg3.out 2; have yg3_3 : w_g3.cell? ⟨g3, 3, none⟩ = some (.int .i64 0) := (blk_cell BKg3.out 3).trans rfl; have fg3_3 := blk_frozen BKg3.out 3)
                  have BKn := am_ (show ((((((w_g3).setCell ⟨g3, 0, none⟩ (.int .i64 p)).setCell ⟨g3, 1, none⟩ (.int .i64 r)).setCell ⟨g3, 2, none⟩ (.int .i64 q)).setCell ⟨g3, 3, none⟩ (.int .i64 0)).setCell ⟨g3, 3, none⟩ (.int .i64 0)).heap[g3]? = some (.cells #[.int .i64 p, .int .i64 r, .int .i64 q, .int .i64 0] 78 (0, 0)) from (by (with_reducible repeat first | refine kn_ ?_ _ | refine kd_ ?_ | refine ka_ ?_ _); refine blk_put (cs := #[.int .i64 p, .int .i64 r, .int .i64 q, .int .i64 0]) ?_ 3 _ rfl; (with_reducible repeat first | refine kn_ ?_ _ | refine kd_ ?_ | refine ka_ ?_ _); refine blk_put (cs := #[.int .i64 p, .int .i64 r, .int .i64 q, .int .i64 0]) ?_ 3 _ rfl; (with_reducible repeat first | refine kn_ ?_ _ | refine kd_ ?_ | refine ka_ ?_ _); refine blk_put (cs := #[.int .i64 p, .int .i64 r, .int .i64 0, .int .i64 0]) ?_ 2 _ rfl; (with_reducible repeat first | refine kn_ ?_ _ | refine kd_ ?_ | refine ka_ ?_ _); refine blk_put (cs := #[.int .i64 p, .int .i64 0, .int .i64 0, .int .i64 0]) ?_ 1 _ rfl; (with_reducible repeat first | refine kn_ ?_ _ | refine kd_ ?_ | refine ka_ ?_ _); refine blk_put (cs := #[.int .i64 0, .int .i64 0, .int .i64 0, .int .i64 0]) ?_ 0 _ rfl; (with_reducible repeat first | refine kn_ ?_ _ | refine kd_ ?_ | refine ka_ ?_ _); exact BKg3.out))
                  have BK_g1 := am_ (show ((((((w_g3).setCell ⟨g3, 0, none⟩ (.int .i64 p)).setCell ⟨g3, 1, none⟩ (.int .i64 r)).setCell ⟨g3, 2, none⟩ (.int .i64 q)).setCell ⟨g3, 3, none⟩ (.int .i64 0)).setCell ⟨g3, 3, none⟩ (.int .i64 0)).heap[g1]? = some (.cells #[.int .i64 n, .int .i64 d] 24 (0, 0)) from (by repeat (with_reducible first | exact BKg1.out | refine kn_ ?_ _ | refine kd_ ?_ | refine ka_ ?_ _ | refine kf_ ?_ NEg1_g3.out _)))
                  have HBn := am_ (show Below w.heap.size w ((((((w_g3).setCell ⟨g3, 0, none⟩ (.int .i64 p)).setCell ⟨g3, 1, none⟩ (.int .i64 r)).setCell ⟨g3, 2, none⟩ (.int .i64 q)).setCell ⟨g3, 3, none⟩ (.int .i64 0)).setCell ⟨g3, 3, none⟩ (.int .i64 0)) from (by repeat first | (with_reducible first | exact HB.out | apply ba_ | apply bn_ | apply bd_ | refine below_set ?_ GEg3.out) | exact HB.out))
                  have HOn := am_ (show Kd.R k78 78 ((((((w_g3).setCell ⟨g3, 0, none⟩ (.int .i64 p)).setCell ⟨g3, 1, none⟩ (.int .i64 r)).setCell ⟨g3, 2, none⟩ (.int .i64 q)).setCell ⟨g3, 3, none⟩ (.int .i64 0)).setCell ⟨g3, 3, none⟩ (.int .i64 0)) w.heap.size (fun k => k ≠ g3) u14 out from Kd.R_far (Kd.R_far (Kd.R_far (Kd.R_far (Kd.R_far (HO_g3.out) (fun k hk => hk) _) (fun k hk => hk) _) (fun k hk => hk) _) (fun k hk => hk) _) (fun k hk => hk) _)
                  clear HB HO_g3 BKg3 BKg1
                  clear yg3_0 fg3_0 yg3_1 fg3_1 yg3_2 fg3_2 yg3_3 fg3_3
                  generalize (((((w_g3).setCell ⟨g3, 0, none⟩ (.int .i64 p)).setCell ⟨g3, 1, none⟩ (.int .i64 r)).setCell ⟨g3, 2, none⟩ (.int .i64 q)).setCell ⟨g3, 3, none⟩ (.int .i64 0)).setCell ⟨g3, 3, none⟩ (.int .i64 0) = W5 at BKn HBn HOn BK_g1 ⊢
                  have BKg3 := BKn
                  have HB := HBn
                  clear BKn HBn
                  have BKg1 := BK_g1
                  clear BK_g1
                  have HNg3 := am_ (show some g3 ≠ u14.ownBlock from fun he => HOn.out.1 g3 he.symm rfl)
                  have HOUT := am_ (Kd.R_mono HOn.out (ok' := fun _ => True) (fun _ _ => trivial))
                  clear HOn
                  have yg3_0 : W5.cell? ⟨g3, 0, none⟩ = some (.int .i64 p) := (blk_cell BKg3.out 0).trans rfl; have fg3_0 := blk_frozen BKg3.out 0; have yg3_1 : W5.cell? ⟨g3, 1, none⟩ = some (.int .i64 r) := (blk_cell BKg3.out 1).trans rfl; have fg3_1 := blk_frozen BKg3.out 1; have yg3_2 : W5.cell? ⟨g3, 2, none⟩ = some (.int .i64 q) := (blk_cell BKg3.out 2).trans rfl; have fg3_2 := blk_frozen BKg3.out 2; have yg3_3 : W5.cell? ⟨g3, 3, none⟩ = some (.int .i64 0) := (blk_cell BKg3.out 3).trans rfl; have fg3_3 := blk_frozen BKg3.out 3
                  go_wp2_with (((with_reducible refine gate_builtin (b := .append) (xs := #[.tmp 85, .tmp 87]) rfl ?_); at_builtin; refine Kd.R_append k78 (w0 := w) w.heap.size rfl (.tmp 85) (.tmp 87) 62 78 (.agg #[(.int .i64 0), (.int .i64 0), (.int .i64 0), (.int .i64 0)]) 32 rfl Try.underlying62 infoAR rfl (by decide) (by omega) u14 out (⟨p, r, q, 0⟩ : S78) [.int .i64 p, .int .i64 r, .int .i64 q, .int .i64 0] (fun _ => True) (fun _ => False) rfl rfl ?aP (fun _ hk => hk.elim) ?aF ?aO ?aB ?aS ?aL ?_; (case aP => exact k78_mkM _ _ _ _); (case aB => exact (by repeat first | (with_reducible first | exact HB.out | apply ba_ | apply bn_ | apply bd_) | exact HB.out)); (case aF => exact (fun _ _ => trivial)); (case aO => exact (by (with_reducible repeat first | apply ra_ | apply rn_ | apply rd_); exact HOUT.out)); (case aS => exact (below_size (by repeat first | (with_reducible first | exact HB.out | apply ba_ | apply bn_ | apply bd_) | exact HB.out))); (case aL => omega); intro v1 w1 ho hb hg hat); have n_ := am_ (blk_grown BKg1.out hg (own_ne HOUT.out BKg1.out (by decide))); have n3_ := am_ (blk_grown BKg3.out hg HNg3.out); clear BKg1 BKg3; have BKg1 := n_; have BKg3 := n3_; clear n_ n3_; clear yg3_0 fg3_0 yg3_1 fg3_1 yg3_2 fg3_2 yg3_3 fg3_3; have yg3_0 : w1.cell? ⟨g3, 0, none⟩ = some (.int .i64 p) := (blk_cell BKg3.out 0).trans rfl; have fg3_0 := blk_frozen BKg3.out 0; have yg3_1 : w1.cell? ⟨g3, 1, none⟩ = some (.int .i64 r) := (blk_cell BKg3.out 1).trans rfl; have fg3_1 := blk_frozen BKg3.out 1; have yg3_2 : w1.cell? ⟨g3, 2, none⟩ = some (.int .i64 q) := (blk_cell BKg3.out 2).trans rfl; have fg3_2 := blk_frozen BKg3.out 2; have yg3_3 : w1.cell? ⟨g3, 3, none⟩ = some (.int .i64 0) := (blk_cell BKg3.out 3).trans rfl; have fg3_3 := blk_frozen BKg3.out 3)
                  go_roundw
                  case rel => exact ⟨i + 1, 0, out ++ [⟨p, r, q, 0⟩], by go_num, by go_num, ⟨hil⟩, ⟨by omega, by omega⟩, ⟨by rw [List.length_append, List.length_singleton]; have := HOL.out; omega⟩, HFS, ⟨(by (with_reducible repeat first | apply ra_ | apply rn_ | apply rd_); exact ho)⟩, ⟨(by (with_reducible repeat first | refine kn_ ?_ _ | refine kd_ ?_ | refine ka_ ?_ _); exact BKg1.out)⟩, ⟨(by repeat first | (with_reducible first | exact hb | apply ba_ | apply bn_ | apply bd_) | exact hb)⟩⟩
                  case measure => simp [intOf]; omega
                · have hmq : pay = mn := (show mn = pay from by rw [hmn]; unfold minI; rw [if_neg c1]).symm
                  clear hmn
                  subst hmq
                  go_wp2_with fail
                  refine (impl_isAmount.calls q true _ HQA.out).mono ?_
                  rintro e w2_ ⟨rfl, hb0⟩
                  have hb := db_ hb0
                  clear hb0
                  replace HOUT := am_ (Kd.R_below (by (with_reducible repeat first | apply ra_ | apply rn_ | apply rd_); exact HOUT.out) hb); replace BKg1 := am_ (blk_below (blk_below BKg1.out (by repeat first | exact Below.refl _ _ | apply ba_ | apply bn_ | apply bd_)) hb); replace HB := am_ (below_step (by repeat first | (with_reducible first | exact HB.out | apply ba_ | apply bn_ | apply bd_) | exact HB.out) hb); clear hb
                  go_upto_region 12 with (((with_reducible refine gate_dst (N := 19) rfl ?_); refine box_event ?hg (N := 19) ?hd (cs := #[.int .i64 0, .int .i64 0, .int .i64 0, .int .i64 0]) (t := 78) ?hr ?_; (case hd => rfl); (case hg => rfl); (case hr => first | (go_simp; done) | (go_simp; rfl))); intro g3 hg w_g3 hbox hb; have HO_g3 := am_ (Kd.R_below (Kd.R_mono (Kd.R_bound HOUT.out) (fun k hk => (by rw [hg]; exact Nat.ne_of_lt hk.2.2.1 : k ≠ g3))) hb); have NEg1_g3 := am_ (show g1 ≠ g3 from by rw [hg]; exact Nat.ne_of_lt (blk_lt BKg1.out)); have NEg3_g1 := am_ (Ne.symm NEg1_g3.out); have m_g1 := am_ (blk_below BKg1.out hb); have GEg3 := am_ (show w.heap.size ≤ g3 from by rw [hg]; exact below_size HB.out); have n_ := am_ (below_step HB.out hb); have BKg3 := am_ hbox; clear HB hb hbox hg HOUT BKg1; have HB := n_; clear n_; have BKg1 := m_g1; clear m_g1;have yg3_0 : w_g3.cell? ⟨g3, 0, none⟩ = some (.int .i64 0) := (blk_cell BKg3.out 0).trans rfl; have fg3_0 := blk_frozen BKg3.out 0; have yg3_1 : w_g3.cell? ⟨g3, 1, none⟩ = some (.int .i64 0) := (blk_cell BKg3.out 1).trans rfl; have fg3_1 := blk_frozen BKg3.out 1; have yg3_2 : w_g3.cell? ⟨g3, 2, none⟩ = some (.int .i64 0) := (blk_cell BKg3.out 2).trans rfl; have fg3_2 := blk_frozen BKg3.out 2; have yg3_3 : w_g3.cell? ⟨g3, 3, none⟩ = some (.int .i64 0) := (blk_cell BKg3.out 3).trans rfl; have fg3_3 := blk_frozen BKg3.out 3)
                  have BKn := am_ (show ((((((w_g3).setCell ⟨g3, 0, none⟩ (.int .i64 p)).setCell ⟨g3, 1, none⟩ (.int .i64 r)).setCell ⟨g3, 2, none⟩ (.int .i64 pay)).setCell ⟨g3, 3, none⟩ (.int .i64 0)).setCell ⟨g3, 3, none⟩ (.int .i64 (q - pay))).heap[g3]? = some (.cells #[.int .i64 p, .int .i64 r, .int .i64 pay, .int .i64 (q - pay)] 78 (0, 0)) from (by (with_reducible repeat first | refine kn_ ?_ _ | refine kd_ ?_ | refine ka_ ?_ _); refine blk_put (cs := #[.int .i64 p, .int .i64 r, .int .i64 pay, .int .i64 0]) ?_ 3 _ rfl; (with_reducible repeat first | refine kn_ ?_ _ | refine kd_ ?_ | refine ka_ ?_ _); refine blk_put (cs := #[.int .i64 p, .int .i64 r, .int .i64 pay, .int .i64 0]) ?_ 3 _ rfl; (with_reducible repeat first | refine kn_ ?_ _ | refine kd_ ?_ | refine ka_ ?_ _); refine blk_put (cs := #[.int .i64 p, .int .i64 r, .int .i64 0, .int .i64 0]) ?_ 2 _ rfl; (with_reducible repeat first | refine kn_ ?_ _ | refine kd_ ?_ | refine ka_ ?_ _); refine blk_put (cs := #[.int .i64 p, .int .i64 0, .int .i64 0, .int .i64 0]) ?_ 1 _ rfl; (with_reducible repeat first | refine kn_ ?_ _ | refine kd_ ?_ | refine ka_ ?_ _); refine blk_put (cs := #[.int .i64 0, .int .i64 0, .int .i64 0, .int .i64 0]) ?_ 0 _ rfl; (with_reducible repeat first | refine kn_ ?_ _ | refine kd_ ?_ | refine ka_ ?_ _); exact BKg3.out))
                  have BK_g1 := am_ (show ((((((w_g3).setCell ⟨g3, 0, none⟩ (.int .i64 p)).setCell ⟨g3, 1, none⟩ (.int .i64 r)).setCell ⟨g3, 2, none⟩ (.int .i64 pay)).setCell ⟨g3, 3, none⟩ (.int .i64 0)).setCell ⟨g3, 3, none⟩ (.int .i64 (q - pay))).heap[g1]? = some (.cells #[.int .i64 n, .int .i64 d] 24 (0, 0)) from (by repeat (with_reducible first | exact BKg1.out | refine kn_ ?_ _ | refine kd_ ?_ | refine ka_ ?_ _ | refine kf_ ?_ NEg1_g3.out _)))
                  have HBn := am_ (show Below w.heap.size w ((((((w_g3).setCell ⟨g3, 0, none⟩ (.int .i64 p)).setCell ⟨g3, 1, none⟩ (.int .i64 r)).setCell ⟨g3, 2, none⟩ (.int .i64 pay)).setCell ⟨g3, 3, none⟩ (.int .i64 0)).setCell ⟨g3, 3, none⟩ (.int .i64 (q - pay))) from (by repeat first | (with_reducible first | exact HB.out | apply ba_ | apply bn_ | apply bd_ | refine below_set ?_ GEg3.out) | exact HB.out))
                  have HOn := am_ (show Kd.R k78 78 ((((((w_g3).setCell ⟨g3, 0, none⟩ (.int .i64 p)).setCell ⟨g3, 1, none⟩ (.int .i64 r)).setCell ⟨g3, 2, none⟩ (.int .i64 pay)).setCell ⟨g3, 3, none⟩ (.int .i64 0)).setCell ⟨g3, 3, none⟩ (.int .i64 (q - pay))) w.heap.size (fun k => k ≠ g3) u14 out from Kd.R_far (Kd.R_far (Kd.R_far (Kd.R_far (Kd.R_far (HO_g3.out) (fun k hk => hk) _) (fun k hk => hk) _) (fun k hk => hk) _) (fun k hk => hk) _) (fun k hk => hk) _)
                  clear HB HO_g3 BKg3 BKg1
                  clear yg3_0 fg3_0 yg3_1 fg3_1 yg3_2 fg3_2 yg3_3 fg3_3
                  generalize (((((w_g3).setCell ⟨g3, 0, none⟩ (.int .i64 p)).setCell ⟨g3, 1, none⟩ (.int .i64 r)).setCell ⟨g3, 2, none⟩ (.int .i64 pay)).setCell ⟨g3, 3, none⟩ (.int .i64 0)).setCell ⟨g3, 3, none⟩ (.int .i64 (q - pay)) = W5 at BKn HBn HOn BK_g1 ⊢
                  have BKg3 := BKn
                  have HB := HBn
                  clear BKn HBn
                  have BKg1 := BK_g1
                  clear BK_g1
                  have HNg3 := am_ (show some g3 ≠ u14.ownBlock from fun he => HOn.out.1 g3 he.symm rfl)
                  have HOUT := am_ (Kd.R_mono HOn.out (ok' := fun _ => True) (fun _ _ => trivial))
                  clear HOn
                  have yg3_0 : W5.cell? ⟨g3, 0, none⟩ = some (.int .i64 p) := (blk_cell BKg3.out 0).trans rfl; have fg3_0 := blk_frozen BKg3.out 0; have yg3_1 : W5.cell? ⟨g3, 1, none⟩ = some (.int .i64 r) := (blk_cell BKg3.out 1).trans rfl; have fg3_1 := blk_frozen BKg3.out 1; have yg3_2 : W5.cell? ⟨g3, 2, none⟩ = some (.int .i64 pay) := (blk_cell BKg3.out 2).trans rfl; have fg3_2 := blk_frozen BKg3.out 2; have yg3_3 : W5.cell? ⟨g3, 3, none⟩ = some (.int .i64 (q - pay)) := (blk_cell BKg3.out 3).trans rfl; have fg3_3 := blk_frozen BKg3.out 3
                  go_wp2_with (((with_reducible refine gate_builtin (b := .append) (xs := #[.tmp 85, .tmp 87]) rfl ?_); at_builtin; refine Kd.R_append k78 (w0 := w) w.heap.size rfl (.tmp 85) (.tmp 87) 62 78 (.agg #[(.int .i64 0), (.int .i64 0), (.int .i64 0), (.int .i64 0)]) 32 rfl Try.underlying62 infoAR rfl (by decide) (by omega) u14 out (⟨p, r, pay, (q - pay)⟩ : S78) [.int .i64 p, .int .i64 r, .int .i64 pay, .int .i64 (q - pay)] (fun _ => True) (fun _ => False) rfl rfl ?aP (fun _ hk => hk.elim) ?aF ?aO ?aB ?aS ?aL ?_; (case aP => exact k78_mkM _ _ _ _); (case aB => exact (by repeat first | (with_reducible first | exact HB.out | apply ba_ | apply bn_ | apply bd_) | exact HB.out)); (case aF => exact (fun _ _ => trivial)); (case aO => exact (by (with_reducible repeat first | apply ra_ | apply rn_ | apply rd_); exact HOUT.out)); (case aS => exact (below_size (by repeat first | (with_reducible first | exact HB.out | apply ba_ | apply bn_ | apply bd_) | exact HB.out))); (case aL => omega); intro v1 w1 ho hb hg hat); have n_ := am_ (blk_grown BKg1.out hg (own_ne HOUT.out BKg1.out (by decide))); have n3_ := am_ (blk_grown BKg3.out hg HNg3.out); clear BKg1 BKg3; have BKg1 := n_; have BKg3 := n3_; clear n_ n3_; clear yg3_0 fg3_0 yg3_1 fg3_1 yg3_2 fg3_2 yg3_3 fg3_3; have yg3_0 : w1.cell? ⟨g3, 0, none⟩ = some (.int .i64 p) := (blk_cell BKg3.out 0).trans rfl; have fg3_0 := blk_frozen BKg3.out 0; have yg3_1 : w1.cell? ⟨g3, 1, none⟩ = some (.int .i64 r) := (blk_cell BKg3.out 1).trans rfl; have fg3_1 := blk_frozen BKg3.out 1; have yg3_2 : w1.cell? ⟨g3, 2, none⟩ = some (.int .i64 pay) := (blk_cell BKg3.out 2).trans rfl; have fg3_2 := blk_frozen BKg3.out 2; have yg3_3 : w1.cell? ⟨g3, 3, none⟩ = some (.int .i64 (q - pay)) := (blk_cell BKg3.out 3).trans rfl; have fg3_3 := blk_frozen BKg3.out 3)
                  go_roundw
                  case rel => exact ⟨i + 1, (q - pay), out ++ [⟨p, r, pay, (q - pay)⟩], by go_num, by go_num, ⟨hil⟩, ⟨by omega, by omega⟩, ⟨by rw [List.length_append, List.length_singleton]; have := HOL.out; omega⟩, HFS, ⟨(by (with_reducible repeat first | apply ra_ | apply rn_ | apply rd_); exact ho)⟩, ⟨(by (with_reducible repeat first | refine kn_ ?_ _ | refine kd_ ?_ | refine ka_ ?_ _); exact BKg1.out)⟩, ⟨(by repeat first | (with_reducible first | exact hb | apply ba_ | apply bn_ | apply bd_) | exact hb)⟩⟩
                  case measure => simp [intOf]; omega
            · obtain rfl : i = xs.length := by have := HI.out; omega
              have ci : decide (xs.length < xs.length) = false := decide_eq_false (by omega)
              have hfe := HF.out
              rw [tabF_end] at hfe
              have HFE := am_ hfe
              clear hfe
              go_wp2
              go_ret2
              exact ⟨_, by rw [← HFE.out]; rfl, by rw [← HFE.out]; exact HOUT.out, HB.out⟩
        · rw [decide_eq_false c3_] at g3_
          have G4 := am_ g3_
          clear g3_
          have hfin : tabA p0 n d xs pay c m = ([], false) := by unfold tabA; rw [if_neg (fun v => c3_ v.2.2.2)]
          rw [hfin]
          clear hfin
          go_enter Try.func41, Try.ntmps41
          go_wp2_with (((with_reducible refine gate_dst (N := 7) rfl ?_); refine box_event ?hg (N := 7) ?hd (cs := #[.int .i64 n,.int .i64 d]) (t := 24) ?hr ?_; (case hd => rfl); (case hg => rfl); (case hr => first | (go_simp; done) | (go_simp; rfl))); intro g1 hg w_g1 hbox hb; have n_ := am_ (below_step (by repeat first | (with_reducible first | exact HB.out | apply ba_ | apply bn_ | apply bd_) | exact HB.out) hb); have BKg1 := am_ hbox; have GEg1 := am_ (show w.heap.size ≤ g1 from by rw [hg]; exact below_size (by repeat first | (with_reducible first | exact HB.out | apply ba_ | apply bn_ | apply bd_) | exact HB.out)); clear HB ; have HB := n_; clear n_ hb hbox hg)
          refine (impl_within.calls p0 0 1000000000 true _ G1.out).mono ?_
          rintro e w1_ ⟨rfl, hb0⟩
          have hb := db_ hb0
          clear hb0
          replace BKg1 := am_ (blk_below (blk_below BKg1.out (by repeat first | exact Below.refl _ _ | apply ba_ | apply bn_ | apply bd_)) hb); replace HB := am_ (below_step (by repeat first | (with_reducible first | exact HB.out | apply ba_ | apply bn_ | apply bd_) | exact HB.out) hb); clear hb
          have yg1_0 : w1_.cell? ⟨g1, 0, none⟩ = some (.int .i64 n) := (blk_cell BKg1.out 0).trans rfl; have fg1_0 := blk_frozen BKg1.out 0; have yg1_1 : w1_.cell? ⟨g1, 1, none⟩ = some (.int .i64 d) := (blk_cell BKg1.out 1).trans rfl; have fg1_1 := blk_frozen BKg1.out 1
          go_wp2_with fail
          clear yg1_0 fg1_0 yg1_1 fg1_1
          refine (impl_isInterest.calls kr n d c m true _ G2.out).mono ?_
          rintro e w2_ ⟨rfl, hb⟩
          replace BKg1 := am_ (blk_below (blk_below BKg1.out (by repeat first | exact Below.refl _ _ | apply ba_ | apply bn_ | apply bd_)) hb); replace HB := am_ (below_step (by repeat first | (with_reducible first | exact HB.out | apply ba_ | apply bn_ | apply bd_) | exact HB.out) hb); clear hb
          go_wp2_with fail
          refine (goodI_c2 _ _ xs true G3.out _ (by repeat first | exact (Kd.C_below HR0.out HB.out) | with_reducible refine ca_ ?_ _ | with_reducible refine cn_ ?_ _ | with_reducible refine cd_ ?_) HA0.out hn).mono ?_
          rintro e w3_ ⟨rfl, hb⟩
          replace BKg1 := am_ (blk_below (blk_below BKg1.out (by repeat first | exact Below.refl _ _ | apply ba_ | apply bn_ | apply bd_)) hb); replace HB := am_ (below_step (by repeat first | (with_reducible first | exact HB.out | apply ba_ | apply bn_ | apply bd_) | exact HB.out) hb); clear hb
          go_wp2_with fail
          refine (impl_within.calls pay 0 1000000000 false _ G4.out).mono ?_
          rintro e w4_ ⟨rfl, hb0⟩
          have hb := db_ hb0
          clear hb0
          replace BKg1 := am_ (blk_below (blk_below BKg1.out (by repeat first | exact Below.refl _ _ | apply ba_ | apply bn_ | apply bd_)) hb); replace HB := am_ (below_step (by repeat first | (with_reducible first | exact HB.out | apply ba_ | apply bn_ | apply bd_) | exact HB.out) hb); clear hb
          go_wp2
          go_ret2
          exact ⟨_, rfl, Kd.R_nil _ _ _ _ _, (by repeat first | (with_reducible first | exact HB.out | apply ba_ | apply bn_ | apply bd_) | exact HB.out)⟩
      · rw [decide_eq_false c2_] at g2_
        have G3 := am_ g2_
        clear g2_
        have hfin : tabA p0 n d xs pay c m = ([], false) := by unfold tabA; rw [if_neg (fun v => c2_ v.2.2.1)]
        rw [hfin]
        clear hfin
        go_enter Try.func41, Try.ntmps41
        go_wp2_with (((with_reducible refine gate_dst (N := 7) rfl ?_); refine box_event ?hg (N := 7) ?hd (cs := #[.int .i64 n,.int .i64 d]) (t := 24) ?hr ?_; (case hd => rfl); (case hg => rfl); (case hr => first | (go_simp; done) | (go_simp; rfl))); intro g1 hg w_g1 hbox hb; have n_ := am_ (below_step (by repeat first | (with_reducible first | exact HB.out | apply ba_ | apply bn_ | apply bd_) | exact HB.out) hb); have BKg1 := am_ hbox; have GEg1 := am_ (show w.heap.size ≤ g1 from by rw [hg]; exact below_size (by repeat first | (with_reducible first | exact HB.out | apply ba_ | apply bn_ | apply bd_) | exact HB.out)); clear HB ; have HB := n_; clear n_ hb hbox hg)
        refine (impl_within.calls p0 0 1000000000 true _ G1.out).mono ?_
        rintro e w1_ ⟨rfl, hb0⟩
        have hb := db_ hb0
        clear hb0
        replace BKg1 := am_ (blk_below (blk_below BKg1.out (by repeat first | exact Below.refl _ _ | apply ba_ | apply bn_ | apply bd_)) hb); replace HB := am_ (below_step (by repeat first | (with_reducible first | exact HB.out | apply ba_ | apply bn_ | apply bd_) | exact HB.out) hb); clear hb
        have yg1_0 : w1_.cell? ⟨g1, 0, none⟩ = some (.int .i64 n) := (blk_cell BKg1.out 0).trans rfl; have fg1_0 := blk_frozen BKg1.out 0; have yg1_1 : w1_.cell? ⟨g1, 1, none⟩ = some (.int .i64 d) := (blk_cell BKg1.out 1).trans rfl; have fg1_1 := blk_frozen BKg1.out 1
        go_wp2_with fail
        clear yg1_0 fg1_0 yg1_1 fg1_1
        refine (impl_isInterest.calls kr n d c m true _ G2.out).mono ?_
        rintro e w2_ ⟨rfl, hb⟩
        replace BKg1 := am_ (blk_below (blk_below BKg1.out (by repeat first | exact Below.refl _ _ | apply ba_ | apply bn_ | apply bd_)) hb); replace HB := am_ (below_step (by repeat first | (with_reducible first | exact HB.out | apply ba_ | apply bn_ | apply bd_) | exact HB.out) hb); clear hb
        go_wp2_with fail
        refine (goodI_c2 _ _ xs false G3.out _ (by repeat first | exact (Kd.C_below HR0.out HB.out) | with_reducible refine ca_ ?_ _ | with_reducible refine cn_ ?_ _ | with_reducible refine cd_ ?_) HA0.out hn).mono ?_
        rintro e w3_ ⟨rfl, hb⟩
        replace BKg1 := am_ (blk_below (blk_below BKg1.out (by repeat first | exact Below.refl _ _ | apply ba_ | apply bn_ | apply bd_)) hb); replace HB := am_ (below_step (by repeat first | (with_reducible first | exact HB.out | apply ba_ | apply bn_ | apply bd_) | exact HB.out) hb); clear hb
        go_wp2
        go_ret2
        exact ⟨_, rfl, Kd.R_nil _ _ _ _ _, (by repeat first | (with_reducible first | exact HB.out | apply ba_ | apply bn_ | apply bd_) | exact HB.out)⟩
    · rw [decide_eq_false c1_] at g1_
      have G2 := am_ g1_
      clear g1_
      have hfin : tabA p0 n d xs pay c m = ([], false) := by unfold tabA; rw [if_neg (fun v => c1_ v.2.1)]
      rw [hfin]
      clear hfin
      go_enter Try.func41, Try.ntmps41
      go_wp2_with (((with_reducible refine gate_dst (N := 7) rfl ?_); refine box_event ?hg (N := 7) ?hd (cs := #[.int .i64 n,.int .i64 d]) (t := 24) ?hr ?_; (case hd => rfl); (case hg => rfl); (case hr => first | (go_simp; done) | (go_simp; rfl))); intro g1 hg w_g1 hbox hb; have n_ := am_ (below_step (by repeat first | (with_reducible first | exact HB.out | apply ba_ | apply bn_ | apply bd_) | exact HB.out) hb); have BKg1 := am_ hbox; have GEg1 := am_ (show w.heap.size ≤ g1 from by rw [hg]; exact below_size (by repeat first | (with_reducible first | exact HB.out | apply ba_ | apply bn_ | apply bd_) | exact HB.out)); clear HB ; have HB := n_; clear n_ hb hbox hg)
      refine (impl_within.calls p0 0 1000000000 true _ G1.out).mono ?_
      rintro e w1_ ⟨rfl, hb0⟩
      have hb := db_ hb0
      clear hb0
      replace BKg1 := am_ (blk_below (blk_below BKg1.out (by repeat first | exact Below.refl _ _ | apply ba_ | apply bn_ | apply bd_)) hb); replace HB := am_ (below_step (by repeat first | (with_reducible first | exact HB.out | apply ba_ | apply bn_ | apply bd_) | exact HB.out) hb); clear hb
      have yg1_0 : w1_.cell? ⟨g1, 0, none⟩ = some (.int .i64 n) := (blk_cell BKg1.out 0).trans rfl; have fg1_0 := blk_frozen BKg1.out 0; have yg1_1 : w1_.cell? ⟨g1, 1, none⟩ = some (.int .i64 d) := (blk_cell BKg1.out 1).trans rfl; have fg1_1 := blk_frozen BKg1.out 1
      go_wp2_with fail
      clear yg1_0 fg1_0 yg1_1 fg1_1
      refine (impl_isInterest.calls kr n d c m false _ G2.out).mono ?_
      rintro e w2_ ⟨rfl, hb⟩
      replace BKg1 := am_ (blk_below (blk_below BKg1.out (by repeat first | exact Below.refl _ _ | apply ba_ | apply bn_ | apply bd_)) hb); replace HB := am_ (below_step (by repeat first | (with_reducible first | exact HB.out | apply ba_ | apply bn_ | apply bd_) | exact HB.out) hb); clear hb
      go_wp2
      go_ret2
      exact ⟨_, rfl, Kd.R_nil _ _ _ _ _, (by repeat first | (with_reducible first | exact HB.out | apply ba_ | apply bn_ | apply bd_) | exact HB.out)⟩
  · rw [decide_eq_false c0_] at g0_
    have G1 := am_ g0_
    clear g0_
    have hfin : tabA p0 n d xs pay c m = ([], false) := by unfold tabA; rw [if_neg (fun v => c0_ v.1)]
    rw [hfin]
    clear hfin
    go_enter Try.func41, Try.ntmps41
    go_wp2_with (((with_reducible refine gate_dst (N := 7) rfl ?_); refine box_event ?hg (N := 7) ?hd (cs := #[.int .i64 n,.int .i64 d]) (t := 24) ?hr ?_; (case hd => rfl); (case hg => rfl); (case hr => first | (go_simp; done) | (go_simp; rfl))); intro g1 hg w_g1 hbox hb; have n_ := am_ (below_step (by repeat first | (with_reducible first | exact HB.out | apply ba_ | apply bn_ | apply bd_) | exact HB.out) hb); have BKg1 := am_ hbox; have GEg1 := am_ (show w.heap.size ≤ g1 from by rw [hg]; exact below_size (by repeat first | (with_reducible first | exact HB.out | apply ba_ | apply bn_ | apply bd_) | exact HB.out)); clear HB ; have HB := n_; clear n_ hb hbox hg)
    refine (impl_within.calls p0 0 1000000000 false _ G1.out).mono ?_
    rintro e w1_ ⟨rfl, hb0⟩
    have hb := db_ hb0
    clear hb0
    replace BKg1 := am_ (blk_below (blk_below BKg1.out (by repeat first | exact Below.refl _ _ | apply ba_ | apply bn_ | apply bd_)) hb); replace HB := am_ (below_step (by repeat first | (with_reducible first | exact HB.out | apply ba_ | apply bn_ | apply bd_) | exact HB.out) hb); clear hb
    go_wp2
    go_ret2
    exact ⟨_, rfl, Kd.R_nil _ _ _ _ _, (by repeat first | (with_reducible first | exact HB.out | apply ba_ | apply bn_ | apply bd_) | exact HB.out)⟩
set_option maxHeartbeats 8000000 in
set_option maxRecDepth 100000 in
theorem annClo_c (A0 : Option Addr) (c0 : Nat) (xs : List S100) (p0 n d c m : Int) (g5 g6 g7 g8 g9 : Nat) (hn : xs.length ≤ 1048576) (h0 : 0 < xs.length) (hv : valA p0 n d xs c m = true) (w : World) (hr0 : Kd.C k100 w A0 xs.length xs) (ha0 : 0 < xs.length → ∃ b, A0 = some ⟨b, 0, none⟩) (hk5 : w.heap[g5]? = some (.cells #[.int .i64 p0] 3 (0, 0))) (hk6 : w.heap[g6]? = some (.cells #[.int .i64 n, .int .i64 d] 24 (0, 0))) (hk7 : w.heap[g7]? = some (.cells #[.slice A0 xs.length c0] 52 (0, 0))) (hk8 : w.heap[g8]? = some (.cells #[.int .i64 c] 3 (0, 0))) (hk9 : w.heap[g9]? = some (.cells #[.int .i64 m] 3 (0, 0))) (W : World) (hb : Below w.heap.size w W) (pay : Int) (hpay : 0 ≤ pay ∧ pay ≤ 1000000000) :
    Calls Try.prog 87 (#[.int .i64 pay] ++ #[.pointer (some ⟨g5, 0, none⟩), .pointer (some ⟨g6, 0, none⟩), .pointer (some ⟨g7, 0, none⟩), .pointer (some ⟨g8, 0, none⟩), .pointer (some ⟨g9, 0, none⟩)]) W fun e w' => e = .returned (.bool (paidA p0 n d xs pay c m)) ∧ Below W.heap.size W w' := by
  have HB := am_ (Below.refl W.heap.size W)
  have HR0 := am_ (Kd.C_below hr0 hb)
  have HA0 := am_ ha0
  have yg5_0 : W.cell? ⟨g5, 0, none⟩ = some (.int .i64 p0) := (blk_cell (blk_below hk5 hb) 0).trans rfl
  have yg6_0 : W.cell? ⟨g6, 0, none⟩ = some (.int .i64 n) := (blk_cell (blk_below hk6 hb) 0).trans rfl
  have yg6_1 : W.cell? ⟨g6, 1, none⟩ = some (.int .i64 d) := (blk_cell (blk_below hk6 hb) 1).trans rfl
  have yg7_0 : W.cell? ⟨g7, 0, none⟩ = some (.slice A0 xs.length c0) := (blk_cell (blk_below hk7 hb) 0).trans rfl
  have yg8_0 : W.cell? ⟨g8, 0, none⟩ = some (.int .i64 c) := (blk_cell (blk_below hk8 hb) 0).trans rfl
  have yg9_0 : W.cell? ⟨g9, 0, none⟩ = some (.int .i64 m) := (blk_cell (blk_below hk9 hb) 0).trans rfl
  clear hr0 ha0 hb hk5 hk6 hk7 hk8 hk9
  have htab := valA_tab hv hpay
  obtain ⟨TF, hTF⟩ : ∃ F, F = tabF n d pay c m p0 xs [] := ⟨_, rfl⟩
  obtain ⟨PD, hPD⟩ : ∃ F, F = paidA p0 n d xs pay c m := ⟨_, rfl⟩
  rw [← hPD]
  have hpd : PD = (TF.2 && decide (lastC TF.1 = 0)) := by rw [hPD, hTF]; rfl
  have hfull : TF.2 = true → TF.1.length = xs.length := fun h => by rw [hTF] at h ⊢; have := tabF_full xs p0 [] h; simpa using this
  obtain ⟨rows, ok⟩ := TF
  simp only at hpd hfull
  have HTF := am_ hTF.symm
  clear hTF hPD
  rw [HTF.out] at htab
  have HTB := am_ htab
  clear htab hv HTF
  go_enter Try.func87, Try.ntmps87
  go_wp2_with fail
  clear yg5_0 yg6_0 yg6_1 yg7_0 yg8_0 yg9_0
  refine (tabI_c _ _ xs p0 n d pay c m hn _ HR0.out HA0.out).mono ?_
  rw [HTB.out]
  rintro e w9_ ⟨v, rfl, ho, hb⟩
  replace HB := am_ (below_step (show Below W.heap.size W _ from by repeat first | exact HB.out | apply ba_ | apply bn_ | apply bd_) hb)
  clear hb
  cases ok with
  | false =>
    have HPD := am_ (show PD = false from by rw [hpd]; rfl)
    clear hpd hfull
    go_wp2
    go_ret
    exact ⟨by rw [HPD.out]; rfl, HB.out⟩
  | true =>
    replace ho : Kd.R k78 78 _ _ (fun _ => True) v rows := ho
    have hlen : rows.length = xs.length := hfull rfl
    clear hfull
    obtain ⟨Ar, cr, hv⟩ := Kd.R_slice ho
    subst hv
    obtain ⟨k, hk⟩ : ∃ k, rows.length = k + 1 := ⟨rows.length - 1, by omega⟩
    obtain ⟨ar, er, _, _, _, hl3⟩ := at_T78 (R_C ho) (k : Int) (by omega) (by omega)
    cases er
    simp only [Int.toNat_natCast] at hl3
    have hlc : (rd_T78 rows (k : Int)).f3 = lastC rows := by unfold lastC; rw [show rows.length - 1 = k from by omega]
    rw [hlc] at hl3
    obtain ⟨LC, hLC⟩ : ∃ L, L = lastC rows := ⟨_, rfl⟩
    rw [← hLC] at hl3 hpd
    have hkk : (rows.length : Int) - 1 = (k : Int) := by omega
    have hkl : (k : Int) < (rows.length : Int) := by omega
    have hrb1 : rows.length ≤ 1048576 := by omega
    have hrb2 : 0 < rows.length := by omega
    clear hk hlc hLC
    by_cases cz : LC = 0
    · have HPD := am_ (show PD = true from by rw [hpd, decide_eq_true cz]; rfl)
      have cb : (LC == 0) = true := by rw [beq_iff_eq]; exact cz
      clear hpd cz hlen
      go_wp2
      go_ret
      exact ⟨by rw [HPD.out]; rfl, HB.out⟩
    · have HPD := am_ (show PD = false from by rw [hpd, decide_eq_false cz]; rfl)
      have cb : (LC == 0) = false := by rw [beq_eq_false_iff_ne]; exact cz
      clear hpd cz hlen
      go_wp2
      go_ret
      exact ⟨by rw [HPD.out]; rfl, HB.out⟩
set_option maxHeartbeats 8000000 in
set_option maxRecDepth 100000 in
theorem annI_c (A0 : Option Addr) (c0 : Nat) (xs : List S100) (p0 n d c m : Int) (hn : xs.length ≤ 1048576) (w : World) (hr0 : Kd.C k100 w A0 xs.length xs) (ha0 : 0 < xs.length → ∃ b, A0 = some ⟨b, 0, none⟩) :
    Calls Try.prog 36 #[.int .i64 p0, .agg #[.int .i64 n, .int .i64 d], .slice A0 xs.length c0, .int .i64 c, .int .i64 m] w fun e w' => e = .returned (.tuple #[.int .i64 (annA p0 n d xs c m).1, .bool (annA p0 n d xs c m).2]) ∧ Below w.heap.size w w' := by
  have HB := am_ (Below.refl w.heap.size w)
  have HR0 := am_ hr0
  have HA0 := am_ ha0
  clear hr0 ha0
  obtain ⟨TA, hTA⟩ : ∃ F, F = tabA p0 n d xs 1000000000 c m := ⟨_, rfl⟩
  have HTA := am_ hTA.symm
  obtain ⟨rows, ok⟩ := TA
  cases ok with
  | false =>
    have hfin : annA p0 n d xs c m = (0, false) := by unfold annA; rw [if_neg (fun v => by have h_ := valA_tab v.1 (pay := 1000000000) (by decide); rw [← hTA] at h_; have q_ := v.2.2; unfold paidA at q_; rw [← h_] at q_; simp at q_)]
    rw [hfin]
    clear hfin hTA
    go_enter Try.func36, Try.ntmps36
    go_wp2_with (first
      | (((with_reducible refine gate_dst (N := 5) rfl ?_); refine box_event ?hg (N := 5) ?hd (cs := #[.int .i64 p0]) (t := 3) ?hr ?_; (case hd => rfl); (case hg => rfl); (case hr => first | (go_simp; done) | (go_simp; rfl))); intro g5 hg w_g5 hbox hb; have n_ := am_ (below_step (by repeat first | (with_reducible first | exact HB.out | apply ba_ | apply bn_ | apply bd_) | exact HB.out) hb); have BKg5 := am_ hbox; have GEg5 := am_ (show w.heap.size ≤ g5 from by rw [hg]; exact below_size (by repeat first | (with_reducible first | exact HB.out | apply ba_ | apply bn_ | apply bd_) | exact HB.out)); clear HB ; have HB := n_; clear n_ hb hbox hg)
      | (((with_reducible refine gate_dst (N := 6) rfl ?_); refine box_event ?hg (N := 6) ?hd (cs := #[.int .i64 n,.int .i64 d]) (t := 24) ?hr ?_; (case hd => rfl); (case hg => rfl); (case hr => first | (go_simp; done) | (go_simp; rfl))); intro g6 hg w_g6 hbox hb; have n_ := am_ (below_step (by repeat first | (with_reducible first | exact HB.out | apply ba_ | apply bn_ | apply bd_ | refine below_set ?_ GEg5.out) | exact HB.out) hb); have m_g5 := am_ (blk_below (blk_below BKg5.out (by repeat first | exact Below.refl _ _ | apply ba_ | apply bn_ | apply bd_)) hb); have NEg5_g6 := am_ (show g5 ≠ g6 from by rw [hg]; exact Nat.ne_of_lt (blk_lt (blk_below BKg5.out (by repeat first | exact Below.refl _ _ | apply ba_ | apply bn_ | apply bd_)))); have NEg6_g5 := am_ (Ne.symm NEg5_g6.out); have BKg6 := am_ hbox; have GEg6 := am_ (show w.heap.size ≤ g6 from by rw [hg]; exact below_size (by repeat first | (with_reducible first | exact HB.out | apply ba_ | apply bn_ | apply bd_ | refine below_set ?_ GEg5.out) | exact HB.out)); clear HB BKg5; have HB := n_; clear n_ hb hbox hg; have BKg5 := m_g5; clear m_g5)
      | (((with_reducible refine gate_dst (N := 7) rfl ?_); refine box_event ?hg (N := 7) ?hd (cs := #[.slice A0 xs.length c0]) (t := 52) ?hr ?_; (case hd => rfl); (case hg => rfl); (case hr => first | (go_simp; done) | (go_simp; rfl))); intro g7 hg w_g7 hbox hb; have n_ := am_ (below_step (by repeat first | (with_reducible first | exact HB.out | apply ba_ | apply bn_ | apply bd_ | refine below_set ?_ GEg5.out | refine below_set ?_ GEg6.out) | exact HB.out) hb); have m_g5 := am_ (blk_below (blk_below BKg5.out (by repeat first | exact Below.refl _ _ | apply ba_ | apply bn_ | apply bd_)) hb); have NEg5_g7 := am_ (show g5 ≠ g7 from by rw [hg]; exact Nat.ne_of_lt (blk_lt (blk_below BKg5.out (by repeat first | exact Below.refl _ _ | apply ba_ | apply bn_ | apply bd_)))); have NEg7_g5 := am_ (Ne.symm NEg5_g7.out); have m_g6 := am_ (blk_below (blk_below BKg6.out (by repeat first | exact Below.refl _ _ | apply ba_ | apply bn_ | apply bd_)) hb); have NEg6_g7 := am_ (show g6 ≠ g7 from by rw [hg]; exact Nat.ne_of_lt (blk_lt (blk_below BKg6.out (by repeat first | exact Below.refl _ _ | apply ba_ | apply bn_ | apply bd_)))); have NEg7_g6 := am_ (Ne.symm NEg6_g7.out); have BKg7 := am_ hbox; have GEg7 := am_ (show w.heap.size ≤ g7 from by rw [hg]; exact below_size (by repeat first | (with_reducible first | exact HB.out | apply ba_ | apply bn_ | apply bd_ | refine below_set ?_ GEg5.out | refine below_set ?_ GEg6.out) | exact HB.out)); clear HB BKg5 BKg6; have HB := n_; clear n_ hb hbox hg; have BKg5 := m_g5; clear m_g5; have BKg6 := m_g6; clear m_g6)
      | (((with_reducible refine gate_dst (N := 8) rfl ?_); refine box_event ?hg (N := 8) ?hd (cs := #[.int .i64 c]) (t := 3) ?hr ?_; (case hd => rfl); (case hg => rfl); (case hr => first | (go_simp; done) | (go_simp; rfl))); intro g8 hg w_g8 hbox hb; have n_ := am_ (below_step (by repeat first | (with_reducible first | exact HB.out | apply ba_ | apply bn_ | apply bd_ | refine below_set ?_ GEg5.out | refine below_set ?_ GEg6.out | refine below_set ?_ GEg7.out) | exact HB.out) hb); have m_g5 := am_ (blk_below (blk_below BKg5.out (by repeat first | exact Below.refl _ _ | apply ba_ | apply bn_ | apply bd_)) hb); have NEg5_g8 := am_ (show g5 ≠ g8 from by rw [hg]; exact Nat.ne_of_lt (blk_lt (blk_below BKg5.out (by repeat first | exact Below.refl _ _ | apply ba_ | apply bn_ | apply bd_)))); have NEg8_g5 := am_ (Ne.symm NEg5_g8.out); have m_g6 := am_ (blk_below (blk_below BKg6.out (by repeat first | exact Below.refl _ _ | apply ba_ | apply bn_ | apply bd_)) hb); have NEg6_g8 := am_ (show g6 ≠ g8 from by rw [hg]; exact Nat.ne_of_lt (blk_lt (blk_below BKg6.out (by repeat first | exact Below.refl _ _ | apply ba_ | apply bn_ | apply bd_)))); have NEg8_g6 := am_ (Ne.symm NEg6_g8.out); have m_g7 := am_ (blk_below (blk_below BKg7.out (by repeat first | exact Below.refl _ _ | apply ba_ | apply bn_ | apply bd_)) hb); have NEg7_g8 := am_ (show g7 ≠ g8 from by rw [hg]; exact Nat.ne_of_lt (blk_lt (blk_below BKg7.out (by repeat first | exact Below.refl _ _ | apply ba_ | apply bn_ | apply bd_)))); have NEg8_g7 := am_ (Ne.symm NEg7_g8.out); have BKg8 := am_ hbox; have GEg8 := am_ (show w.heap.size ≤ g8 from by rw [hg]; exact below_size (by repeat first | (with_reducible first | exact HB.out | apply ba_ | apply bn_ | apply bd_ | refine below_set ?_ GEg5.out | refine below_set ?_ GEg6.out | refine below_set ?_ GEg7.out) | exact HB.out)); clear HB BKg5 BKg6 BKg7; have HB := n_; clear n_ hb hbox hg; have BKg5 := m_g5; clear m_g5; have BKg6 := m_g6; clear m_g6; have BKg7 := m_g7; clear m_g7)
      | ((((with_reducible refine gate_dst (N := 9) rfl ?_); refine box_event ?hg (N := 9) ?hd (cs := #[.int .i64 m]) (t := 3) ?hr ?_; (case hd => rfl); (case hg => rfl); (case hr => first | (go_simp; done) | (go_simp; rfl))); intro g9 hg w_g9 hbox hb; have n_ := am_ (below_step (by repeat first | (with_reducible first | exact HB.out | apply ba_ | apply bn_ | apply bd_ | refine below_set ?_ GEg5.out | refine below_set ?_ GEg6.out | refine below_set ?_ GEg7.out | refine below_set ?_ GEg8.out) | exact HB.out) hb); have m_g5 := am_ (blk_below (blk_below BKg5.out (by repeat first | exact Below.refl _ _ | apply ba_ | apply bn_ | apply bd_)) hb); have NEg5_g9 := am_ (show g5 ≠ g9 from by rw [hg]; exact Nat.ne_of_lt (blk_lt (blk_below BKg5.out (by repeat first | exact Below.refl _ _ | apply ba_ | apply bn_ | apply bd_)))); have NEg9_g5 := am_ (Ne.symm NEg5_g9.out); have m_g6 := am_ (blk_below (blk_below BKg6.out (by repeat first | exact Below.refl _ _ | apply ba_ | apply bn_ | apply bd_)) hb); have NEg6_g9 := am_ (show g6 ≠ g9 from by rw [hg]; exact Nat.ne_of_lt (blk_lt (blk_below BKg6.out (by repeat first | exact Below.refl _ _ | apply ba_ | apply bn_ | apply bd_)))); have NEg9_g6 := am_ (Ne.symm NEg6_g9.out); have m_g7 := am_ (blk_below (blk_below BKg7.out (by repeat first | exact Below.refl _ _ | apply ba_ | apply bn_ | apply bd_)) hb); have NEg7_g9 := am_ (show g7 ≠ g9 from by rw [hg]; exact Nat.ne_of_lt (blk_lt (blk_below BKg7.out (by repeat first | exact Below.refl _ _ | apply ba_ | apply bn_ | apply bd_)))); have NEg9_g7 := am_ (Ne.symm NEg7_g9.out); have m_g8 := am_ (blk_below (blk_below BKg8.out (by repeat first | exact Below.refl _ _ | apply ba_ | apply bn_ | apply bd_)) hb); have NEg8_g9 := am_ (show g8 ≠ g9 from by rw [hg]; exact Nat.ne_of_lt (blk_lt (blk_below BKg8.out (by repeat first | exact Below.refl _ _ | apply ba_ | apply bn_ | apply bd_)))); have NEg9_g8 := am_ (Ne.symm NEg8_g9.out); have BKg9 := am_ hbox; have GEg9 := am_ (show w.heap.size ≤ g9 from by rw [hg]; exact below_size (by repeat first | (with_reducible first | exact HB.out | apply ba_ | apply bn_ | apply bd_ | refine below_set ?_ GEg5.out | refine below_set ?_ GEg6.out | refine below_set ?_ GEg7.out | refine below_set ?_ GEg8.out) | exact HB.out)); clear HB BKg5 BKg6 BKg7 BKg8; have HB := n_; clear n_ hb hbox hg; have BKg5 := m_g5; clear m_g5; have BKg6 := m_g6; clear m_g6; have BKg7 := m_g7; clear m_g7; have BKg8 := m_g8; clear m_g8); have yg5_0 : w_g9.cell? ⟨g5, 0, none⟩ = some (.int .i64 p0) := (blk_cell BKg5.out 0).trans rfl; have fg5_0 := blk_frozen BKg5.out 0; have yg6_0 : w_g9.cell? ⟨g6, 0, none⟩ = some (.int .i64 n) := (blk_cell BKg6.out 0).trans rfl; have fg6_0 := blk_frozen BKg6.out 0; have yg6_1 : w_g9.cell? ⟨g6, 1, none⟩ = some (.int .i64 d) := (blk_cell BKg6.out 1).trans rfl; have fg6_1 := blk_frozen BKg6.out 1; have yg7_0 : w_g9.cell? ⟨g7, 0, none⟩ = some (.slice A0 xs.length c0) := (blk_cell BKg7.out 0).trans rfl; have fg7_0 := blk_frozen BKg7.out 0; have yg8_0 : w_g9.cell? ⟨g8, 0, none⟩ = some (.int .i64 c) := (blk_cell BKg8.out 0).trans rfl; have fg8_0 := blk_frozen BKg8.out 0; have yg9_0 : w_g9.cell? ⟨g9, 0, none⟩ = some (.int .i64 m) := (blk_cell BKg9.out 0).trans rfl; have fg9_0 := blk_frozen BKg9.out 0)
      )
    clear yg5_0 fg5_0
    clear yg6_0 fg6_0 yg6_1 fg6_1
    clear yg7_0 fg7_0
    clear yg8_0 fg8_0
    clear yg9_0 fg9_0
    refine (tabI_c _ _ xs p0 n d 1000000000 c m hn _ (by repeat first | exact (Kd.C_below HR0.out HB.out) | with_reducible refine ca_ ?_ _ | with_reducible refine cn_ ?_ _ | with_reducible refine cd_ ?_) HA0.out).mono ?_
    rw [HTA.out]
    rintro e w1_ ⟨v, rfl, _, hb⟩
    replace BKg5 := am_ (blk_below (blk_below BKg5.out (by repeat first | exact Below.refl _ _ | apply ba_ | apply bn_ | apply bd_)) hb); replace BKg6 := am_ (blk_below (blk_below BKg6.out (by repeat first | exact Below.refl _ _ | apply ba_ | apply bn_ | apply bd_)) hb); replace BKg7 := am_ (blk_below (blk_below BKg7.out (by repeat first | exact Below.refl _ _ | apply ba_ | apply bn_ | apply bd_)) hb); replace BKg8 := am_ (blk_below (blk_below BKg8.out (by repeat first | exact Below.refl _ _ | apply ba_ | apply bn_ | apply bd_)) hb); replace BKg9 := am_ (blk_below (blk_below BKg9.out (by repeat first | exact Below.refl _ _ | apply ba_ | apply bn_ | apply bd_)) hb); replace HB := am_ (below_step (by repeat first | (with_reducible first | exact HB.out | apply ba_ | apply bn_ | apply bd_) | exact HB.out) hb); clear hb
    go_wp2
    go_ret2
    exact ⟨rfl, (by repeat first | (with_reducible first | exact HB.out | apply ba_ | apply bn_ | apply bd_) | exact HB.out)⟩
  | true =>
    by_cases hl : xs.length = 0
    · have hfin : annA p0 n d xs c m = (0, false) := by unfold annA; rw [if_neg (fun v => by have := v.2.1; omega)]
      rw [hfin]
      have hlz : ((xs.length : Int) == 0) = true := by rw [beq_iff_eq]; omega
      have HL := am_ hl
      clear hfin hTA hl
      go_enter Try.func36, Try.ntmps36
      go_wp2_with (first
        | (((with_reducible refine gate_dst (N := 5) rfl ?_); refine box_event ?hg (N := 5) ?hd (cs := #[.int .i64 p0]) (t := 3) ?hr ?_; (case hd => rfl); (case hg => rfl); (case hr => first | (go_simp; done) | (go_simp; rfl))); intro g5 hg w_g5 hbox hb; have n_ := am_ (below_step (by repeat first | (with_reducible first | exact HB.out | apply ba_ | apply bn_ | apply bd_) | exact HB.out) hb); have BKg5 := am_ hbox; have GEg5 := am_ (show w.heap.size ≤ g5 from by rw [hg]; exact below_size (by repeat first | (with_reducible first | exact HB.out | apply ba_ | apply bn_ | apply bd_) | exact HB.out)); clear HB ; have HB := n_; clear n_ hb hbox hg)
        | (((with_reducible refine gate_dst (N := 6) rfl ?_); refine box_event ?hg (N := 6) ?hd (cs := #[.int .i64 n,.int .i64 d]) (t := 24) ?hr ?_; (case hd => rfl); (case hg => rfl); (case hr => first | (go_simp; done) | (go_simp; rfl))); intro g6 hg w_g6 hbox hb; have n_ := am_ (below_step (by repeat first | (with_reducible first | exact HB.out | apply ba_ | apply bn_ | apply bd_ | refine below_set ?_ GEg5.out) | exact HB.out) hb); have m_g5 := am_ (blk_below (blk_below BKg5.out (by repeat first | exact Below.refl _ _ | apply ba_ | apply bn_ | apply bd_)) hb); have NEg5_g6 := am_ (show g5 ≠ g6 from by rw [hg]; exact Nat.ne_of_lt (blk_lt (blk_below BKg5.out (by repeat first | exact Below.refl _ _ | apply ba_ | apply bn_ | apply bd_)))); have NEg6_g5 := am_ (Ne.symm NEg5_g6.out); have BKg6 := am_ hbox; have GEg6 := am_ (show w.heap.size ≤ g6 from by rw [hg]; exact below_size (by repeat first | (with_reducible first | exact HB.out | apply ba_ | apply bn_ | apply bd_ | refine below_set ?_ GEg5.out) | exact HB.out)); clear HB BKg5; have HB := n_; clear n_ hb hbox hg; have BKg5 := m_g5; clear m_g5)
        | (((with_reducible refine gate_dst (N := 7) rfl ?_); refine box_event ?hg (N := 7) ?hd (cs := #[.slice A0 xs.length c0]) (t := 52) ?hr ?_; (case hd => rfl); (case hg => rfl); (case hr => first | (go_simp; done) | (go_simp; rfl))); intro g7 hg w_g7 hbox hb; have n_ := am_ (below_step (by repeat first | (with_reducible first | exact HB.out | apply ba_ | apply bn_ | apply bd_ | refine below_set ?_ GEg5.out | refine below_set ?_ GEg6.out) | exact HB.out) hb); have m_g5 := am_ (blk_below (blk_below BKg5.out (by repeat first | exact Below.refl _ _ | apply ba_ | apply bn_ | apply bd_)) hb); have NEg5_g7 := am_ (show g5 ≠ g7 from by rw [hg]; exact Nat.ne_of_lt (blk_lt (blk_below BKg5.out (by repeat first | exact Below.refl _ _ | apply ba_ | apply bn_ | apply bd_)))); have NEg7_g5 := am_ (Ne.symm NEg5_g7.out); have m_g6 := am_ (blk_below (blk_below BKg6.out (by repeat first | exact Below.refl _ _ | apply ba_ | apply bn_ | apply bd_)) hb); have NEg6_g7 := am_ (show g6 ≠ g7 from by rw [hg]; exact Nat.ne_of_lt (blk_lt (blk_below BKg6.out (by repeat first | exact Below.refl _ _ | apply ba_ | apply bn_ | apply bd_)))); have NEg7_g6 := am_ (Ne.symm NEg6_g7.out); have BKg7 := am_ hbox; have GEg7 := am_ (show w.heap.size ≤ g7 from by rw [hg]; exact below_size (by repeat first | (with_reducible first | exact HB.out | apply ba_ | apply bn_ | apply bd_ | refine below_set ?_ GEg5.out | refine below_set ?_ GEg6.out) | exact HB.out)); clear HB BKg5 BKg6; have HB := n_; clear n_ hb hbox hg; have BKg5 := m_g5; clear m_g5; have BKg6 := m_g6; clear m_g6)
        | (((with_reducible refine gate_dst (N := 8) rfl ?_); refine box_event ?hg (N := 8) ?hd (cs := #[.int .i64 c]) (t := 3) ?hr ?_; (case hd => rfl); (case hg => rfl); (case hr => first | (go_simp; done) | (go_simp; rfl))); intro g8 hg w_g8 hbox hb; have n_ := am_ (below_step (by repeat first | (with_reducible first | exact HB.out | apply ba_ | apply bn_ | apply bd_ | refine below_set ?_ GEg5.out | refine below_set ?_ GEg6.out | refine below_set ?_ GEg7.out) | exact HB.out) hb); have m_g5 := am_ (blk_below (blk_below BKg5.out (by repeat first | exact Below.refl _ _ | apply ba_ | apply bn_ | apply bd_)) hb); have NEg5_g8 := am_ (show g5 ≠ g8 from by rw [hg]; exact Nat.ne_of_lt (blk_lt (blk_below BKg5.out (by repeat first | exact Below.refl _ _ | apply ba_ | apply bn_ | apply bd_)))); have NEg8_g5 := am_ (Ne.symm NEg5_g8.out); have m_g6 := am_ (blk_below (blk_below BKg6.out (by repeat first | exact Below.refl _ _ | apply ba_ | apply bn_ | apply bd_)) hb); have NEg6_g8 := am_ (show g6 ≠ g8 from by rw [hg]; exact Nat.ne_of_lt (blk_lt (blk_below BKg6.out (by repeat first | exact Below.refl _ _ | apply ba_ | apply bn_ | apply bd_)))); have NEg8_g6 := am_ (Ne.symm NEg6_g8.out); have m_g7 := am_ (blk_below (blk_below BKg7.out (by repeat first | exact Below.refl _ _ | apply ba_ | apply bn_ | apply bd_)) hb); have NEg7_g8 := am_ (show g7 ≠ g8 from by rw [hg]; exact Nat.ne_of_lt (blk_lt (blk_below BKg7.out (by repeat first | exact Below.refl _ _ | apply ba_ | apply bn_ | apply bd_)))); have NEg8_g7 := am_ (Ne.symm NEg7_g8.out); have BKg8 := am_ hbox; have GEg8 := am_ (show w.heap.size ≤ g8 from by rw [hg]; exact below_size (by repeat first | (with_reducible first | exact HB.out | apply ba_ | apply bn_ | apply bd_ | refine below_set ?_ GEg5.out | refine below_set ?_ GEg6.out | refine below_set ?_ GEg7.out) | exact HB.out)); clear HB BKg5 BKg6 BKg7; have HB := n_; clear n_ hb hbox hg; have BKg5 := m_g5; clear m_g5; have BKg6 := m_g6; clear m_g6; have BKg7 := m_g7; clear m_g7)
        | ((((with_reducible refine gate_dst (N := 9) rfl ?_); refine box_event ?hg (N := 9) ?hd (cs := #[.int .i64 m]) (t := 3) ?hr ?_; (case hd => rfl); (case hg => rfl); (case hr => first | (go_simp; done) | (go_simp; rfl))); intro g9 hg w_g9 hbox hb; have n_ := am_ (below_step (by repeat first | (with_reducible first | exact HB.out | apply ba_ | apply bn_ | apply bd_ | refine below_set ?_ GEg5.out | refine below_set ?_ GEg6.out | refine below_set ?_ GEg7.out | refine below_set ?_ GEg8.out) | exact HB.out) hb); have m_g5 := am_ (blk_below (blk_below BKg5.out (by repeat first | exact Below.refl _ _ | apply ba_ | apply bn_ | apply bd_)) hb); have NEg5_g9 := am_ (show g5 ≠ g9 from by rw [hg]; exact Nat.ne_of_lt (blk_lt (blk_below BKg5.out (by repeat first | exact Below.refl _ _ | apply ba_ | apply bn_ | apply bd_)))); have NEg9_g5 := am_ (Ne.symm NEg5_g9.out); have m_g6 := am_ (blk_below (blk_below BKg6.out (by repeat first | exact Below.refl _ _ | apply ba_ | apply bn_ | apply bd_)) hb); have NEg6_g9 := am_ (show g6 ≠ g9 from by rw [hg]; exact Nat.ne_of_lt (blk_lt (blk_below BKg6.out (by repeat first | exact Below.refl _ _ | apply ba_ | apply bn_ | apply bd_)))); have NEg9_g6 := am_ (Ne.symm NEg6_g9.out); have m_g7 := am_ (blk_below (blk_below BKg7.out (by repeat first | exact Below.refl _ _ | apply ba_ | apply bn_ | apply bd_)) hb); have NEg7_g9 := am_ (show g7 ≠ g9 from by rw [hg]; exact Nat.ne_of_lt (blk_lt (blk_below BKg7.out (by repeat first | exact Below.refl _ _ | apply ba_ | apply bn_ | apply bd_)))); have NEg9_g7 := am_ (Ne.symm NEg7_g9.out); have m_g8 := am_ (blk_below (blk_below BKg8.out (by repeat first | exact Below.refl _ _ | apply ba_ | apply bn_ | apply bd_)) hb); have NEg8_g9 := am_ (show g8 ≠ g9 from by rw [hg]; exact Nat.ne_of_lt (blk_lt (blk_below BKg8.out (by repeat first | exact Below.refl _ _ | apply ba_ | apply bn_ | apply bd_)))); have NEg9_g8 := am_ (Ne.symm NEg8_g9.out); have BKg9 := am_ hbox; have GEg9 := am_ (show w.heap.size ≤ g9 from by rw [hg]; exact below_size (by repeat first | (with_reducible first | exact HB.out | apply ba_ | apply bn_ | apply bd_ | refine below_set ?_ GEg5.out | refine below_set ?_ GEg6.out | refine below_set ?_ GEg7.out | refine below_set ?_ GEg8.out) | exact HB.out)); clear HB BKg5 BKg6 BKg7 BKg8; have HB := n_; clear n_ hb hbox hg; have BKg5 := m_g5; clear m_g5; have BKg6 := m_g6; clear m_g6; have BKg7 := m_g7; clear m_g7; have BKg8 := m_g8; clear m_g8); have yg5_0 : w_g9.cell? ⟨g5, 0, none⟩ = some (.int .i64 p0) := (blk_cell BKg5.out 0).trans rfl; have fg5_0 := blk_frozen BKg5.out 0; have yg6_0 : w_g9.cell? ⟨g6, 0, none⟩ = some (.int .i64 n) := (blk_cell BKg6.out 0).trans rfl; have fg6_0 := blk_frozen BKg6.out 0; have yg6_1 : w_g9.cell? ⟨g6, 1, none⟩ = some (.int .i64 d) := (blk_cell BKg6.out 1).trans rfl; have fg6_1 := blk_frozen BKg6.out 1; have yg7_0 : w_g9.cell? ⟨g7, 0, none⟩ = some (.slice A0 xs.length c0) := (blk_cell BKg7.out 0).trans rfl; have fg7_0 := blk_frozen BKg7.out 0; have yg8_0 : w_g9.cell? ⟨g8, 0, none⟩ = some (.int .i64 c) := (blk_cell BKg8.out 0).trans rfl; have fg8_0 := blk_frozen BKg8.out 0; have yg9_0 : w_g9.cell? ⟨g9, 0, none⟩ = some (.int .i64 m) := (blk_cell BKg9.out 0).trans rfl; have fg9_0 := blk_frozen BKg9.out 0)
        )
      clear yg5_0 fg5_0
      clear yg6_0 fg6_0 yg6_1 fg6_1
      clear yg7_0 fg7_0
      clear yg8_0 fg8_0
      clear yg9_0 fg9_0
      refine (tabI_c _ _ xs p0 n d 1000000000 c m hn _ (by repeat first | exact (Kd.C_below HR0.out HB.out) | with_reducible refine ca_ ?_ _ | with_reducible refine cn_ ?_ _ | with_reducible refine cd_ ?_) HA0.out).mono ?_
      rw [HTA.out]
      rintro e w1_ ⟨v, rfl, _, hb⟩
      replace BKg5 := am_ (blk_below (blk_below BKg5.out (by repeat first | exact Below.refl _ _ | apply ba_ | apply bn_ | apply bd_)) hb); replace BKg6 := am_ (blk_below (blk_below BKg6.out (by repeat first | exact Below.refl _ _ | apply ba_ | apply bn_ | apply bd_)) hb); replace BKg7 := am_ (blk_below (blk_below BKg7.out (by repeat first | exact Below.refl _ _ | apply ba_ | apply bn_ | apply bd_)) hb); replace BKg8 := am_ (blk_below (blk_below BKg8.out (by repeat first | exact Below.refl _ _ | apply ba_ | apply bn_ | apply bd_)) hb); replace BKg9 := am_ (blk_below (blk_below BKg9.out (by repeat first | exact Below.refl _ _ | apply ba_ | apply bn_ | apply bd_)) hb); replace HB := am_ (below_step (by repeat first | (with_reducible first | exact HB.out | apply ba_ | apply bn_ | apply bd_) | exact HB.out) hb); clear hb
      have yg7_0 : w1_.cell? ⟨g7, 0, none⟩ = some (.slice A0 xs.length c0) := (blk_cell BKg7.out 0).trans rfl; have fg7_0 := blk_frozen BKg7.out 0
      go_wp2
      go_ret2
      exact ⟨rfl, (by repeat first | (with_reducible first | exact HB.out | apply ba_ | apply bn_ | apply bd_) | exact HB.out)⟩
    · have hv : valA p0 n d xs c m = true := by
        cases h_ : valA p0 n d xs c m with
        | true => rfl
        | false => have q_ := valA_tabno h_ (pay := 1000000000); rw [← hTA] at q_; exact absurd q_ (by simp)
      have hpm := paid_max (p := p0) (n := n) (d := d) (c := c) (m := m) (show 0 < xs.length from by omega) (by rw [← valA_tab hv (by decide), ← hTA])
      obtain ⟨FIN, hFIN⟩ : ∃ F, F = bsF (fun i => paidA p0 n d xs i c m) 1000000000 0 1000000000 := ⟨_, rfl⟩
      have hfin : annA p0 n d xs c m = (FIN, true) := by unfold annA; rw [if_pos ⟨hv, by omega, hpm⟩, hFIN]
      rw [hfin]
      have HV := am_ hv
      have HL0 := am_ (show 0 < xs.length from by omega)
      obtain ⟨N, hN⟩ : ∃ N : Nat, N = 1000000000 := ⟨_, rfl⟩
      have HN := am_ hN
      have HF := am_ (show bsF (fun i => paidA p0 n d xs i c m) N 0 (N : Int) = FIN from by rw [hN]; exact hFIN.symm)
      have hlz : ((xs.length : Int) == 0) = false := by rw [beq_eq_false_iff_ne]; omega
      have EG := am_ (show ∀ args w, (callFunc 87 args).run Try.prog w = .ok (.enter 87 args) w from enters_of Try.func87 (by kernel_rfl) rfl)
      clear hfin hTA hv hpm hFIN hN
      go_enter Try.func36, Try.ntmps36
      go_wp2_with (first
        | (((with_reducible refine gate_dst (N := 5) rfl ?_); refine box_event ?hg (N := 5) ?hd (cs := #[.int .i64 p0]) (t := 3) ?hr ?_; (case hd => rfl); (case hg => rfl); (case hr => first | (go_simp; done) | (go_simp; rfl))); intro g5 hg w_g5 hbox hb; have n_ := am_ (below_step (by repeat first | (with_reducible first | exact HB.out | apply ba_ | apply bn_ | apply bd_) | exact HB.out) hb); have BKg5 := am_ hbox; have GEg5 := am_ (show w.heap.size ≤ g5 from by rw [hg]; exact below_size (by repeat first | (with_reducible first | exact HB.out | apply ba_ | apply bn_ | apply bd_) | exact HB.out)); clear HB ; have HB := n_; clear n_ hb hbox hg)
        | (((with_reducible refine gate_dst (N := 6) rfl ?_); refine box_event ?hg (N := 6) ?hd (cs := #[.int .i64 n,.int .i64 d]) (t := 24) ?hr ?_; (case hd => rfl); (case hg => rfl); (case hr => first | (go_simp; done) | (go_simp; rfl))); intro g6 hg w_g6 hbox hb; have n_ := am_ (below_step (by repeat first | (with_reducible first | exact HB.out | apply ba_ | apply bn_ | apply bd_ | refine below_set ?_ GEg5.out) | exact HB.out) hb); have m_g5 := am_ (blk_below (blk_below BKg5.out (by repeat first | exact Below.refl _ _ | apply ba_ | apply bn_ | apply bd_)) hb); have NEg5_g6 := am_ (show g5 ≠ g6 from by rw [hg]; exact Nat.ne_of_lt (blk_lt (blk_below BKg5.out (by repeat first | exact Below.refl _ _ | apply ba_ | apply bn_ | apply bd_)))); have NEg6_g5 := am_ (Ne.symm NEg5_g6.out); have BKg6 := am_ hbox; have GEg6 := am_ (show w.heap.size ≤ g6 from by rw [hg]; exact below_size (by repeat first | (with_reducible first | exact HB.out | apply ba_ | apply bn_ | apply bd_ | refine below_set ?_ GEg5.out) | exact HB.out)); clear HB BKg5; have HB := n_; clear n_ hb hbox hg; have BKg5 := m_g5; clear m_g5)
        | (((with_reducible refine gate_dst (N := 7) rfl ?_); refine box_event ?hg (N := 7) ?hd (cs := #[.slice A0 xs.length c0]) (t := 52) ?hr ?_; (case hd => rfl); (case hg => rfl); (case hr => first | (go_simp; done) | (go_simp; rfl))); intro g7 hg w_g7 hbox hb; have n_ := am_ (below_step (by repeat first | (with_reducible first | exact HB.out | apply ba_ | apply bn_ | apply bd_ | refine below_set ?_ GEg5.out | refine below_set ?_ GEg6.out) | exact HB.out) hb); have m_g5 := am_ (blk_below (blk_below BKg5.out (by repeat first | exact Below.refl _ _ | apply ba_ | apply bn_ | apply bd_)) hb); have NEg5_g7 := am_ (show g5 ≠ g7 from by rw [hg]; exact Nat.ne_of_lt (blk_lt (blk_below BKg5.out (by repeat first | exact Below.refl _ _ | apply ba_ | apply bn_ | apply bd_)))); have NEg7_g5 := am_ (Ne.symm NEg5_g7.out); have m_g6 := am_ (blk_below (blk_below BKg6.out (by repeat first | exact Below.refl _ _ | apply ba_ | apply bn_ | apply bd_)) hb); have NEg6_g7 := am_ (show g6 ≠ g7 from by rw [hg]; exact Nat.ne_of_lt (blk_lt (blk_below BKg6.out (by repeat first | exact Below.refl _ _ | apply ba_ | apply bn_ | apply bd_)))); have NEg7_g6 := am_ (Ne.symm NEg6_g7.out); have BKg7 := am_ hbox; have GEg7 := am_ (show w.heap.size ≤ g7 from by rw [hg]; exact below_size (by repeat first | (with_reducible first | exact HB.out | apply ba_ | apply bn_ | apply bd_ | refine below_set ?_ GEg5.out | refine below_set ?_ GEg6.out) | exact HB.out)); clear HB BKg5 BKg6; have HB := n_; clear n_ hb hbox hg; have BKg5 := m_g5; clear m_g5; have BKg6 := m_g6; clear m_g6)
        | (((with_reducible refine gate_dst (N := 8) rfl ?_); refine box_event ?hg (N := 8) ?hd (cs := #[.int .i64 c]) (t := 3) ?hr ?_; (case hd => rfl); (case hg => rfl); (case hr => first | (go_simp; done) | (go_simp; rfl))); intro g8 hg w_g8 hbox hb; have n_ := am_ (below_step (by repeat first | (with_reducible first | exact HB.out | apply ba_ | apply bn_ | apply bd_ | refine below_set ?_ GEg5.out | refine below_set ?_ GEg6.out | refine below_set ?_ GEg7.out) | exact HB.out) hb); have m_g5 := am_ (blk_below (blk_below BKg5.out (by repeat first | exact Below.refl _ _ | apply ba_ | apply bn_ | apply bd_)) hb); have NEg5_g8 := am_ (show g5 ≠ g8 from by rw [hg]; exact Nat.ne_of_lt (blk_lt (blk_below BKg5.out (by repeat first | exact Below.refl _ _ | apply ba_ | apply bn_ | apply bd_)))); have NEg8_g5 := am_ (Ne.symm NEg5_g8.out); have m_g6 := am_ (blk_below (blk_below BKg6.out (by repeat first | exact Below.refl _ _ | apply ba_ | apply bn_ | apply bd_)) hb); have NEg6_g8 := am_ (show g6 ≠ g8 from by rw [hg]; exact Nat.ne_of_lt (blk_lt (blk_below BKg6.out (by repeat first | exact Below.refl _ _ | apply ba_ | apply bn_ | apply bd_)))); have NEg8_g6 := am_ (Ne.symm NEg6_g8.out); have m_g7 := am_ (blk_below (blk_below BKg7.out (by repeat first | exact Below.refl _ _ | apply ba_ | apply bn_ | apply bd_)) hb); have NEg7_g8 := am_ (show g7 ≠ g8 from by rw [hg]; exact Nat.ne_of_lt (blk_lt (blk_below BKg7.out (by repeat first | exact Below.refl _ _ | apply ba_ | apply bn_ | apply bd_)))); have NEg8_g7 := am_ (Ne.symm NEg7_g8.out); have BKg8 := am_ hbox; have GEg8 := am_ (show w.heap.size ≤ g8 from by rw [hg]; exact below_size (by repeat first | (with_reducible first | exact HB.out | apply ba_ | apply bn_ | apply bd_ | refine below_set ?_ GEg5.out | refine below_set ?_ GEg6.out | refine below_set ?_ GEg7.out) | exact HB.out)); clear HB BKg5 BKg6 BKg7; have HB := n_; clear n_ hb hbox hg; have BKg5 := m_g5; clear m_g5; have BKg6 := m_g6; clear m_g6; have BKg7 := m_g7; clear m_g7)
        | ((((with_reducible refine gate_dst (N := 9) rfl ?_); refine box_event ?hg (N := 9) ?hd (cs := #[.int .i64 m]) (t := 3) ?hr ?_; (case hd => rfl); (case hg => rfl); (case hr => first | (go_simp; done) | (go_simp; rfl))); intro g9 hg w_g9 hbox hb; have n_ := am_ (below_step (by repeat first | (with_reducible first | exact HB.out | apply ba_ | apply bn_ | apply bd_ | refine below_set ?_ GEg5.out | refine below_set ?_ GEg6.out | refine below_set ?_ GEg7.out | refine below_set ?_ GEg8.out) | exact HB.out) hb); have m_g5 := am_ (blk_below (blk_below BKg5.out (by repeat first | exact Below.refl _ _ | apply ba_ | apply bn_ | apply bd_)) hb); have NEg5_g9 := am_ (show g5 ≠ g9 from by rw [hg]; exact Nat.ne_of_lt (blk_lt (blk_below BKg5.out (by repeat first | exact Below.refl _ _ | apply ba_ | apply bn_ | apply bd_)))); have NEg9_g5 := am_ (Ne.symm NEg5_g9.out); have m_g6 := am_ (blk_below (blk_below BKg6.out (by repeat first | exact Below.refl _ _ | apply ba_ | apply bn_ | apply bd_)) hb); have NEg6_g9 := am_ (show g6 ≠ g9 from by rw [hg]; exact Nat.ne_of_lt (blk_lt (blk_below BKg6.out (by repeat first | exact Below.refl _ _ | apply ba_ | apply bn_ | apply bd_)))); have NEg9_g6 := am_ (Ne.symm NEg6_g9.out); have m_g7 := am_ (blk_below (blk_below BKg7.out (by repeat first | exact Below.refl _ _ | apply ba_ | apply bn_ | apply bd_)) hb); have NEg7_g9 := am_ (show g7 ≠ g9 from by rw [hg]; exact Nat.ne_of_lt (blk_lt (blk_below BKg7.out (by repeat first | exact Below.refl _ _ | apply ba_ | apply bn_ | apply bd_)))); have NEg9_g7 := am_ (Ne.symm NEg7_g9.out); have m_g8 := am_ (blk_below (blk_below BKg8.out (by repeat first | exact Below.refl _ _ | apply ba_ | apply bn_ | apply bd_)) hb); have NEg8_g9 := am_ (show g8 ≠ g9 from by rw [hg]; exact Nat.ne_of_lt (blk_lt (blk_below BKg8.out (by repeat first | exact Below.refl _ _ | apply ba_ | apply bn_ | apply bd_)))); have NEg9_g8 := am_ (Ne.symm NEg8_g9.out); have BKg9 := am_ hbox; have GEg9 := am_ (show w.heap.size ≤ g9 from by rw [hg]; exact below_size (by repeat first | (with_reducible first | exact HB.out | apply ba_ | apply bn_ | apply bd_ | refine below_set ?_ GEg5.out | refine below_set ?_ GEg6.out | refine below_set ?_ GEg7.out | refine below_set ?_ GEg8.out) | exact HB.out)); clear HB BKg5 BKg6 BKg7 BKg8; have HB := n_; clear n_ hb hbox hg; have BKg5 := m_g5; clear m_g5; have BKg6 := m_g6; clear m_g6; have BKg7 := m_g7; clear m_g7; have BKg8 := m_g8; clear m_g8); have yg5_0 : w_g9.cell? ⟨g5, 0, none⟩ = some (.int .i64 p0) := (blk_cell BKg5.out 0).trans rfl; have fg5_0 := blk_frozen BKg5.out 0; have yg6_0 : w_g9.cell? ⟨g6, 0, none⟩ = some (.int .i64 n) := (blk_cell BKg6.out 0).trans rfl; have fg6_0 := blk_frozen BKg6.out 0; have yg6_1 : w_g9.cell? ⟨g6, 1, none⟩ = some (.int .i64 d) := (blk_cell BKg6.out 1).trans rfl; have fg6_1 := blk_frozen BKg6.out 1; have yg7_0 : w_g9.cell? ⟨g7, 0, none⟩ = some (.slice A0 xs.length c0) := (blk_cell BKg7.out 0).trans rfl; have fg7_0 := blk_frozen BKg7.out 0; have yg8_0 : w_g9.cell? ⟨g8, 0, none⟩ = some (.int .i64 c) := (blk_cell BKg8.out 0).trans rfl; have fg8_0 := blk_frozen BKg8.out 0; have yg9_0 : w_g9.cell? ⟨g9, 0, none⟩ = some (.int .i64 m) := (blk_cell BKg9.out 0).trans rfl; have fg9_0 := blk_frozen BKg9.out 0)
        )
      clear yg5_0 fg5_0
      clear yg6_0 fg6_0 yg6_1 fg6_1
      clear yg7_0 fg7_0
      clear yg8_0 fg8_0
      clear yg9_0 fg9_0
      refine (tabI_c _ _ xs p0 n d 1000000000 c m hn _ (by repeat first | exact (Kd.C_below HR0.out HB.out) | with_reducible refine ca_ ?_ _ | with_reducible refine cn_ ?_ _ | with_reducible refine cd_ ?_) HA0.out).mono ?_
      rw [HTA.out]
      rintro e w1_ ⟨v, rfl, _, hb⟩
      replace BKg5 := am_ (blk_below (blk_below BKg5.out (by repeat first | exact Below.refl _ _ | apply ba_ | apply bn_ | apply bd_)) hb); replace BKg6 := am_ (blk_below (blk_below BKg6.out (by repeat first | exact Below.refl _ _ | apply ba_ | apply bn_ | apply bd_)) hb); replace BKg7 := am_ (blk_below (blk_below BKg7.out (by repeat first | exact Below.refl _ _ | apply ba_ | apply bn_ | apply bd_)) hb); replace BKg8 := am_ (blk_below (blk_below BKg8.out (by repeat first | exact Below.refl _ _ | apply ba_ | apply bn_ | apply bd_)) hb); replace BKg9 := am_ (blk_below (blk_below BKg9.out (by repeat first | exact Below.refl _ _ | apply ba_ | apply bn_ | apply bd_)) hb); replace HB := am_ (below_step (by repeat first | (with_reducible first | exact HB.out | apply ba_ | apply bn_ | apply bd_) | exact HB.out) hb); clear hb
      have yg7_0 : w1_.cell? ⟨g7, 0, none⟩ = some (.slice A0 xs.length c0) := (blk_cell BKg7.out 0).trans rfl; have fg7_0 := blk_frozen BKg7.out 0
      go_wp2_with fail
      clear yg7_0 fg7_0
      refine calls_of_args (args' := #[.int .i64 N, .func (.func 87) #[] #[.pointer (some ⟨g5, 0, none⟩), .pointer (some ⟨g6, 0, none⟩), .pointer (some ⟨g7, 0, none⟩), .pointer (some ⟨g8, 0, none⟩), .pointer (some ⟨g9, 0, none⟩)]]) (by rw [HN.out]; rfl) ?_
      refine (search_c 87 EG.out #[.pointer (some ⟨g5, 0, none⟩), .pointer (some ⟨g6, 0, none⟩), .pointer (some ⟨g7, 0, none⟩), .pointer (some ⟨g8, 0, none⟩), .pointer (some ⟨g9, 0, none⟩)] (fun i => paidA p0 n d xs i c m) N (by rw [HN.out]; decide) _ (fun W i h1 h2 hw => annClo_c A0 c0 xs p0 n d c m g5 g6 g7 g8 g9 hn HL0.out HV.out _ (by repeat first | exact (Kd.C_below HR0.out HB.out) | with_reducible refine ca_ ?_ _ | with_reducible refine cn_ ?_ _ | with_reducible refine cd_ ?_) HA0.out (by (with_reducible repeat first | refine kn_ ?_ _ | refine kd_ ?_ | refine ka_ ?_ _); exact BKg5.out) (by (with_reducible repeat first | refine kn_ ?_ _ | refine kd_ ?_ | refine ka_ ?_ _); exact BKg6.out) (by (with_reducible repeat first | refine kn_ ?_ _ | refine kd_ ?_ | refine ka_ ?_ _); exact BKg7.out) (by (with_reducible repeat first | refine kn_ ?_ _ | refine kd_ ?_ | refine ka_ ?_ _); exact BKg8.out) (by (with_reducible repeat first | refine kn_ ?_ _ | refine kd_ ?_ | refine ka_ ?_ _); exact BKg9.out) W hw i (by have := HN.out; omega))).mono ?_
      rw [HF.out]
      rintro e w2_ ⟨rfl, hb⟩
      replace HB := am_ (below_step (by repeat first | (with_reducible first | exact HB.out | apply ba_ | apply bn_ | apply bd_) | exact HB.out) hb)
      clear hb
      go_wp2
      go_ret2
      exact ⟨rfl, (by repeat first | (with_reducible first | exact HB.out | apply ba_ | apply bn_ | apply bd_) | exact HB.out)⟩
theorem spec_c (p0 n d : Int) (A0 : Option Addr) (c0 : Nat) (xs : List S100) (c m : Int) (w : World) (hr0 : Kd.C k100 w A0 xs.length xs) (_ : xs.length ≤ c0) (ha0 : 0 < xs.length → ∃ b, A0 = some ⟨b, 0, none⟩) (hn : xs.length ≤ 1048576) :
    Calls Try.prog 34 #[.int .i64 p0, .agg #[.int .i64 n, .int .i64 d], .slice A0 xs.length c0, .int .i64 c, .int .i64 m] w fun e w' => e = .returned (.tuple #[.int .i64 (annA p0 n d xs c m).1, .bool (annA p0 n d xs c m).2]) ∧ Below w.heap.size w w' :=
  annS_c A0 c0 xs p0 n d c m hn w hr0 ha0
theorem impl_c (p0 n d : Int) (A0 : Option Addr) (c0 : Nat) (xs : List S100) (c m : Int) (w : World) (hr0 : Kd.C k100 w A0 xs.length xs) (_ : xs.length ≤ c0) (ha0 : 0 < xs.length → ∃ b, A0 = some ⟨b, 0, none⟩) (hn : xs.length ≤ 1048576) :
    Calls Try.prog 36 #[.int .i64 p0, .agg #[.int .i64 n, .int .i64 d], .slice A0 xs.length c0, .int .i64 c, .int .i64 m] w fun e w' => e = .returned (.tuple #[.int .i64 (annA p0 n d xs c m).1, .bool (annA p0 n d xs c m).2]) ∧ Below w.heap.size w w' :=
  annI_c A0 c0 xs p0 n d c m hn w hr0 ha0
set_option maxHeartbeats 16000000 in
set_option maxRecDepth 100000 in
theorem law_c (a0 : Int) (a1_0 a1_1 : Int) (A2 : Option Addr) (c2 : Nat) (l2 : List S102) (a3 : Int) (a4 : Int) (w : World) (hr2 : Kd.C k102 w A2 l2.length l2) (hc2 : l2.length ≤ c2) (hi0 : -9223372036854775808 ≤ a0 ∧ a0 ≤ 9223372036854775807) (hi3 : -9223372036854775808 ≤ a3 ∧ a3 ≤ 9223372036854775807) (hi4 : -9223372036854775808 ≤ a4 ∧ a4 ≤ 9223372036854775807) (hi1 : KReads.InI a1_0 ∧ KReads.InI a1_1) (he2 : ∀ y ∈ l2, (KReads.InI y.f0 ∧ KReads.InI y.f1 ∧ KReads.InI y.f2)) :
    Calls Try.prog 9 #[.int .i64 a0, .agg #[.int .i64 a1_0, .int .i64 a1_1], .slice A2 l2.length c2, .int .i64 a3, .int .i64 a4] w fun e w' => e = .returned (.bool true) ∧ Below w.heap.size w w' := by
  have HR2 := am_ hr2
  have HC2 := am_ hc2
  have HM2 := am_ (Kd.C_max hr2)
  clear hr2 hc2
  by_cases hn2 : l2.length ≤ 1048576
  rotate_left
  · have hn_ := hn2
    have E2 := am_ ((szPeriodS_eq l2 HM2.out).trans (congrArg some (if_neg hn2)))
    clear hn_
    go_enter Try.func9, Try.ntmps9
    go_wp2_with (go_at_call 33; refine (laws_szPeriodS.calls _ _ l2 1048576 _ _ (by repeat (first | exact HR2.out | (with_reducible refine Kd.C_alloc ?_ _) | (with_reducible refine Kd.C_drewN ?_ _) | (with_reducible refine Kd.C_drew ?_))) HC2.out E2.out).mono ?_; rintro e w0_ ⟨rfl, ⟨q, rfl⟩⟩)
    go_ret
    exact ⟨rfl, (by repeat (first | (with_reducible first | exact Below.refl _ _ | apply below_alloc | apply pw_below_drewN | apply below_drew1) | exact Below.refl _ _))⟩
  have E2 := am_ ((szPeriodS_eq l2 HM2.out).trans (congrArg some (if_pos hn2)))
  have cs2 : decide (1048576 - (l2.length : Int) < 0) = false := decide_eq_false (by omega)
  obtain ⟨L2, eL2⟩ : ∃ L_ : List S100, L_ = l2.map cv_Period := ⟨_, rfl⟩
  have hv2 : L2.length ≤ 1048576 := by rw [eL2]; simpa using hn2
  have EL2 := am_ eL2
  clear eL2
  have HB0 := am_ (Below.refl w.heap.size w)
  have HK1 := am_ (blk_new w (.cells #[.int .i64 a1_0, .int .i64 a1_1] 23 (0, 0)))
  obtain ⟨kX0, hX0⟩ := roundsOf (toPeriodS_ev l2 hn2)
  rw [← EL2.out] at hX0
  have X0 := am_ hX0
  clear hX0
  obtain ⟨kX1, hX1⟩ := roundsOf (eqPeriodS_ev L2 (by have h_ := hv2; omega))
  have X1 := am_ hX1
  clear hX1
  go_enter Try.func9, Try.ntmps9
  go_wp2_with (go_at_call 33; refine (laws_szPeriodS.calls _ _ l2 1048576 _ _ (by repeat (first | exact HR2.out | (with_reducible refine Kd.C_alloc ?_ _) | (with_reducible refine Kd.C_drewN ?_ _) | (with_reducible refine Kd.C_drew ?_))) HC2.out E2.out).mono ?_; rintro e w0_ ⟨rfl, ⟨q, rfl⟩⟩)
  refine (laws_toFraction.calls a1_0 a1_1 a1_0 a1_1 _ rfl).mono ?_
  rintro e w1 ⟨rfl, hb⟩
  have n_ := am_ (blk_below (blk_below HK1.out (by repeat (first | (with_reducible first | exact Below.refl _ _ | apply below_alloc | apply pw_below_drewN | apply below_drew1) | exact Below.refl _ _))) hb); clear HK1; have HK1 := n_; clear n_
  have SZB := am_ (show w.heap.size < w1.heap.size from blk_lt HK1.out)
  have HB1 := am_ (below_step (by repeat (first | (with_reducible first | exact HB0.out | apply below_alloc | apply pw_below_drewN | apply below_drew1) | exact HB0.out)) hb)
  have SZ1 := am_ (show w.heap.size ≤ w1.heap.size from below_size (below_step (by repeat (first | (with_reducible first | exact Below.refl _ _ | apply below_alloc | apply pw_below_drewN | apply below_drew1) | exact Below.refl _ _)) hb))
  clear hb
  have yk1_0 : w1.cell? ⟨w.heap.size, 0, none⟩ = some (.int .i64 a1_0) := (blk_cell HK1.out 0).trans rfl
  have yk1_1 : w1.cell? ⟨w.heap.size, 1, none⟩ = some (.int .i64 a1_1) := (blk_cell HK1.out 1).trans rfl
  go_wp2_with fail
  clear yk1_0 yk1_1
  refine (laws_toPeriodS.calls kX0 _ _ l2 _ _ (by repeat (first | exact (Kd.C_below HR2.out HB1.out) | (with_reducible refine Kd.C_alloc ?_ _) | (with_reducible refine Kd.C_drewN ?_ _) | (with_reducible refine Kd.C_drew ?_))) HC2.out X0.out).mono ?_
  rintro e w2 ⟨v, rfl, ho, hb⟩
  have n_ := am_ (blk_below (blk_below HK1.out (by repeat (first | (with_reducible first | exact Below.refl _ _ | apply below_alloc | apply pw_below_drewN | apply below_drew1) | exact Below.refl _ _))) hb); clear HK1; have HK1 := n_; clear n_
  have HB2 := am_ (below_step (by repeat (first | (with_reducible first | exact HB1.out | apply below_alloc | apply pw_below_drewN | apply below_drew1) | exact HB1.out)) hb)
  have SZ2 := am_ (show w1.heap.size ≤ w2.heap.size from below_size (below_step (by repeat (first | (with_reducible first | exact Below.refl _ _ | apply below_alloc | apply pw_below_drewN | apply below_drew1) | exact Below.refl _ _)) hb))
  have HOt1 := am_ (R_ivw (a := w1.heap.size) (b := w.heap.size) ho (below_size (by repeat (first | (with_reducible first | exact Below.refl _ _ | apply below_alloc | apply pw_below_drewN | apply below_drew1) | exact Below.refl _ _))) (below_size (by repeat (first | (with_reducible first | exact HB1.out | apply below_alloc | apply pw_below_drewN | apply below_drew1) | exact HB1.out))))
  obtain ⟨Art1, crt1, ert1⟩ := Kd.R_slice HOt1.out
  subst ert1
  clear ho hb
  have yk1_0 : w2.cell? ⟨w.heap.size, 0, none⟩ = some (.int .i64 a1_0) := (blk_cell HK1.out 0).trans rfl
  have yk1_1 : w2.cell? ⟨w.heap.size, 1, none⟩ = some (.int .i64 a1_1) := (blk_cell HK1.out 1).trans rfl
  go_wp2_with fail
  clear yk1_0 yk1_1
  refine (spec_c a0 a1_0 a1_1 _ _ L2 a3 a4 _ (by repeat (first | exact (Kd.R_reads' HOt1.out).2.2 | (with_reducible refine Kd.C_alloc ?_ _) | (with_reducible refine Kd.C_drewN ?_ _) | (with_reducible refine Kd.C_drew ?_))) (Kd.R_reads' HOt1.out).2.1 (fun hp => R_head HOt1.out hp) hv2 ).mono ?_
  rintro e w3 ⟨rfl, hb⟩
  have n_ := am_ (blk_below (blk_below HK1.out (by repeat (first | (with_reducible first | exact Below.refl _ _ | apply below_alloc | apply pw_below_drewN | apply below_drew1) | exact Below.refl _ _))) hb); clear HK1; have HK1 := n_; clear n_
  have n_ := am_ (Kd.R_below (by (with_reducible repeat (first | apply Kd.R_alloc | apply Kd.R_drewN | apply Kd.R_drew)); exact HOt1.out) hb); clear HOt1; have HOt1 := n_; clear n_
  have HB3 := am_ (below_step (by repeat (first | (with_reducible first | exact HB2.out | apply below_alloc | apply pw_below_drewN | apply below_drew1) | exact HB2.out)) hb)
  have SZ3 := am_ (show w2.heap.size ≤ w3.heap.size from below_size (below_step (by repeat (first | (with_reducible first | exact Below.refl _ _ | apply below_alloc | apply pw_below_drewN | apply below_drew1) | exact Below.refl _ _)) hb))
  clear hb
  have yk1_0 : w3.cell? ⟨w.heap.size, 0, none⟩ = some (.int .i64 a1_0) := (blk_cell HK1.out 0).trans rfl
  have yk1_1 : w3.cell? ⟨w.heap.size, 1, none⟩ = some (.int .i64 a1_1) := (blk_cell HK1.out 1).trans rfl
  go_wp2_with fail
  clear yk1_0 yk1_1
  refine (laws_toPeriodS.calls kX0 _ _ l2 _ _ (by repeat (first | exact (Kd.C_below HR2.out HB3.out) | (with_reducible refine Kd.C_alloc ?_ _) | (with_reducible refine Kd.C_drewN ?_ _) | (with_reducible refine Kd.C_drew ?_))) HC2.out X0.out).mono ?_
  rintro e w4 ⟨v, rfl, ho, hb⟩
  have n_ := am_ (blk_below (blk_below HK1.out (by repeat (first | (with_reducible first | exact Below.refl _ _ | apply below_alloc | apply pw_below_drewN | apply below_drew1) | exact Below.refl _ _))) hb); clear HK1; have HK1 := n_; clear n_
  have HB4 := am_ (below_step (by repeat (first | (with_reducible first | exact HB3.out | apply below_alloc | apply pw_below_drewN | apply below_drew1) | exact HB3.out)) hb)
  have SZ4 := am_ (show w3.heap.size ≤ w4.heap.size from below_size (below_step (by repeat (first | (with_reducible first | exact Below.refl _ _ | apply below_alloc | apply pw_below_drewN | apply below_drew1) | exact Below.refl _ _)) hb))
  have HOx2 := am_ (R_ivw (a := w3.heap.size) (b := w.heap.size) ho (below_size (by repeat (first | (with_reducible first | exact Below.refl _ _ | apply below_alloc | apply pw_below_drewN | apply below_drew1) | exact Below.refl _ _))) (below_size (by repeat (first | (with_reducible first | exact HB3.out | apply below_alloc | apply pw_below_drewN | apply below_drew1) | exact HB3.out))))
  obtain ⟨Arx2, crx2, erx2⟩ := Kd.R_slice HOx2.out
  subst erx2
  clear ho hb
  have yk1_0 : w4.cell? ⟨w.heap.size, 0, none⟩ = some (.int .i64 a1_0) := (blk_cell HK1.out 0).trans rfl
  have yk1_1 : w4.cell? ⟨w.heap.size, 1, none⟩ = some (.int .i64 a1_1) := (blk_cell HK1.out 1).trans rfl
  go_wp2_with fail
  clear yk1_0 yk1_1
  refine (laws_toFraction.calls a1_0 a1_1 a1_0 a1_1 _ rfl).mono ?_
  rintro e w5 ⟨rfl, hb⟩
  have n_ := am_ (blk_below (blk_below HK1.out (by repeat (first | (with_reducible first | exact Below.refl _ _ | apply below_alloc | apply pw_below_drewN | apply below_drew1) | exact Below.refl _ _))) hb); clear HK1; have HK1 := n_; clear n_
  have n_ := am_ (Kd.R_below (by (with_reducible repeat (first | apply Kd.R_alloc | apply Kd.R_drewN | apply Kd.R_drew)); exact HOx2.out) hb); clear HOx2; have HOx2 := n_; clear n_
  have HB5 := am_ (below_step (by repeat (first | (with_reducible first | exact HB4.out | apply below_alloc | apply pw_below_drewN | apply below_drew1) | exact HB4.out)) hb)
  have SZ5 := am_ (show w4.heap.size ≤ w5.heap.size from below_size (below_step (by repeat (first | (with_reducible first | exact Below.refl _ _ | apply below_alloc | apply pw_below_drewN | apply below_drew1) | exact Below.refl _ _)) hb))
  clear hb
  have yk1_0 : w5.cell? ⟨w.heap.size, 0, none⟩ = some (.int .i64 a1_0) := (blk_cell HK1.out 0).trans rfl
  have yk1_1 : w5.cell? ⟨w.heap.size, 1, none⟩ = some (.int .i64 a1_1) := (blk_cell HK1.out 1).trans rfl
  go_wp2_with fail
  clear yk1_0 yk1_1
  refine (impl_c a0 a1_0 a1_1 _ _ L2 a3 a4 _ (by repeat (first | exact (Kd.R_reads' HOx2.out).2.2 | (with_reducible refine Kd.C_alloc ?_ _) | (with_reducible refine Kd.C_drewN ?_ _) | (with_reducible refine Kd.C_drew ?_))) (Kd.R_reads' HOx2.out).2.1 (fun hp => R_head HOx2.out hp) hv2 ).mono ?_
  rintro e w6 ⟨rfl, hb⟩
  have n_ := am_ (blk_below (blk_below HK1.out (by repeat (first | (with_reducible first | exact Below.refl _ _ | apply below_alloc | apply pw_below_drewN | apply below_drew1) | exact Below.refl _ _))) hb); clear HK1; have HK1 := n_; clear n_
  have n_ := am_ (Kd.R_below (by (with_reducible repeat (first | apply Kd.R_alloc | apply Kd.R_drewN | apply Kd.R_drew)); exact HOx2.out) hb); clear HOx2; have HOx2 := n_; clear n_
  have HB6 := am_ (below_step (by repeat (first | (with_reducible first | exact HB5.out | apply below_alloc | apply pw_below_drewN | apply below_drew1) | exact HB5.out)) hb)
  have SZ6 := am_ (show w5.heap.size ≤ w6.heap.size from below_size (below_step (by repeat (first | (with_reducible first | exact Below.refl _ _ | apply below_alloc | apply pw_below_drewN | apply below_drew1) | exact Below.refl _ _)) hb))
  clear hb
  have yk1_0 : w6.cell? ⟨w.heap.size, 0, none⟩ = some (.int .i64 a1_0) := (blk_cell HK1.out 0).trans rfl
  have yk1_1 : w6.cell? ⟨w.heap.size, 1, none⟩ = some (.int .i64 a1_1) := (blk_cell HK1.out 1).trans rfl
  go_wp2_with fail
  clear yk1_0 yk1_1
  refine (laws_toPeriodS.calls kX0 _ _ l2 _ _ (by repeat (first | exact (Kd.C_below HR2.out HB6.out) | (with_reducible refine Kd.C_alloc ?_ _) | (with_reducible refine Kd.C_drewN ?_ _) | (with_reducible refine Kd.C_drew ?_))) HC2.out X0.out).mono ?_
  rintro e w7 ⟨v, rfl, ho, hb⟩
  have n_ := am_ (blk_below (blk_below HK1.out (by repeat (first | (with_reducible first | exact Below.refl _ _ | apply below_alloc | apply pw_below_drewN | apply below_drew1) | exact Below.refl _ _))) hb); clear HK1; have HK1 := n_; clear n_
  have n_ := am_ (Kd.R_below (by (with_reducible repeat (first | apply Kd.R_alloc | apply Kd.R_drewN | apply Kd.R_drew)); exact HOx2.out) hb); clear HOx2; have HOx2 := n_; clear n_
  have HB7 := am_ (below_step (by repeat (first | (with_reducible first | exact HB6.out | apply below_alloc | apply pw_below_drewN | apply below_drew1) | exact HB6.out)) hb)
  have SZ7 := am_ (show w6.heap.size ≤ w7.heap.size from below_size (below_step (by repeat (first | (with_reducible first | exact Below.refl _ _ | apply below_alloc | apply pw_below_drewN | apply below_drew1) | exact Below.refl _ _)) hb))
  have HOt2 := am_ (R_ivw (a := w6.heap.size) (b := w.heap.size) ho (below_size (by repeat (first | (with_reducible first | exact Below.refl _ _ | apply below_alloc | apply pw_below_drewN | apply below_drew1) | exact Below.refl _ _))) (below_size (by repeat (first | (with_reducible first | exact HB6.out | apply below_alloc | apply pw_below_drewN | apply below_drew1) | exact HB6.out))))
  obtain ⟨Art2, crt2, ert2⟩ := Kd.R_slice HOt2.out
  subst ert2
  clear ho hb
  have yk1_0 : w7.cell? ⟨w.heap.size, 0, none⟩ = some (.int .i64 a1_0) := (blk_cell HK1.out 0).trans rfl
  have yk1_1 : w7.cell? ⟨w.heap.size, 1, none⟩ = some (.int .i64 a1_1) := (blk_cell HK1.out 1).trans rfl
  go_wp2_with fail
  clear yk1_0 yk1_1
  refine (laws_eqPeriodS.calls kX1 _ _ L2 _ _ L2 true _ (by repeat (first | exact (Kd.R_reads' HOx2.out).2.2 | (with_reducible refine Kd.C_alloc ?_ _) | (with_reducible refine Kd.C_drewN ?_ _) | (with_reducible refine Kd.C_drew ?_))) (Kd.R_reads' HOx2.out).2.1 (by repeat (first | exact (Kd.R_reads' HOt2.out).2.2 | (with_reducible refine Kd.C_alloc ?_ _) | (with_reducible refine Kd.C_drewN ?_ _) | (with_reducible refine Kd.C_drew ?_))) (Kd.R_reads' HOt2.out).2.1 X1.out).mono ?_
  rintro e w8 ⟨rfl, hb⟩
  have n_ := am_ (blk_below (blk_below HK1.out (by repeat (first | (with_reducible first | exact Below.refl _ _ | apply below_alloc | apply pw_below_drewN | apply below_drew1) | exact Below.refl _ _))) hb); clear HK1; have HK1 := n_; clear n_
  have n_ := am_ (Kd.R_below (by (with_reducible repeat (first | apply Kd.R_alloc | apply Kd.R_drewN | apply Kd.R_drew)); exact HOx2.out) hb); clear HOx2; have HOx2 := n_; clear n_
  have n_ := am_ (Kd.R_below (by (with_reducible repeat (first | apply Kd.R_alloc | apply Kd.R_drewN | apply Kd.R_drew)); exact HOt2.out) hb); clear HOt2; have HOt2 := n_; clear n_
  have HB8 := am_ (below_step (by repeat (first | (with_reducible first | exact HB7.out | apply below_alloc | apply pw_below_drewN | apply below_drew1) | exact HB7.out)) hb)
  have SZ8 := am_ (show w7.heap.size ≤ w8.heap.size from below_size (below_step (by repeat (first | (with_reducible first | exact Below.refl _ _ | apply below_alloc | apply pw_below_drewN | apply below_drew1) | exact Below.refl _ _)) hb))
  clear hb
  go_wp2
  go_ret
  exact ⟨rfl, (by repeat (first | (with_reducible first | exact HB8.out | apply below_alloc | apply pw_below_drewN | apply below_drew1) | exact HB8.out))⟩
end Go.Proofs.Ytacfepaemphdgaa.O
