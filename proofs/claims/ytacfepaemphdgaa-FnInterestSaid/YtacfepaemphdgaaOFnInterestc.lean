/- Walks of our own, a part of those for the law FnInterest: each function's contract in plain Lean. No condition beyond the bounds that each contract names. -/
import Derived.Test.YtacfepaemphdgaaPureFnInterest
import Derived.Test.YtacfepaemphdgaaOFnInteresta
import Derived.Test.YtacfepaemphdgaaOFnInterestb
namespace Go.Proofs.Ytacfepaemphdgaa.O
open Go.RowKit Go.Proofs.YtacfepaemphdgaaW.PrintWords Go.Proofs.YtacfepaemphdgaaW.PrintLast Go.Proofs.YtacfepaemphdgaaW.PrintMore Go.Proofs.Ytacfepaemphdgaa.PL15I Go.Proofs.Ytacfepaemphdgaa.EvKit Go.Proofs.Ytacfepaemphdgaa.Pure
set_option linter.unusedVariables false
set_option linter.unusedSimpArgs false
attribute [local go_sem] max2_int min2_int max_two min_two max_three min_three max_four min_four
set_option maxHeartbeats 8000000 in
set_option maxRecDepth 100000 in
theorem compI_c (A0 : Option Addr) (c0 : Nat) (xs : List Int) (p0 n d c mode : Int) (hn : xs.length ≤ 1048576) (w : World) (hr0 : (Kd.int .i64).C w A0 xs.length xs) (hc0 : xs.length ≤ c0) (ha0 : 0 < xs.length → ∃ b, A0 = some ⟨b, 0, none⟩) :
    Calls Try.prog 24 #[.int .i64 p0, .agg #[.int .i64 n, .int .i64 d], .slice A0 xs.length c0, .int .i64 c, .int .i64 mode] w fun e w' => e = .returned (.tuple #[.int .i64 (compA p0 n d xs c mode).1, .bool (compA p0 n d xs c mode).2]) ∧ Below w.heap.size w w' := by
  have HB := am_ (Below.refl w.heap.size w)
  have HR0 := am_ hr0
  have HC0 := am_ hc0
  have HA0 := am_ ha0
  clear hr0 hc0 ha0
  obtain ⟨kr, hr⟩ := roundsOf (implInterest_ev n d c mode)
  obtain ⟨kq, hq0⟩ := roundsOf (implRising_ev 0 36524 41 xs hn)
  have hq : impl_isRising.f kq xs 0 36524 41 = some (decide (chkI 0 36524 none xs = true ∧ (xs.length : Int) ≤ 41)) := by rw [hq0]; cases chkI 0 36524 none xs <;> simp
  clear hq0
  have g0_ := within_eq p0 0 1000000000
  by_cases c0_ : 0 ≤ p0 ∧ p0 ≤ 1000000000
  · rw [decide_eq_true c0_] at g0_
    have G1 := am_ g0_
    clear g0_
    have g1_ := hr
    by_cases c1_ : intOk n d c mode
    · rw [decide_eq_true c1_] at g1_
      have G2 := am_ g1_
      clear g1_
      by_cases c2_ : ¬ xs.length < 1
      · have cb2_ : decide (¬ xs.length < 1) = true := decide_eq_true c2_
        have g3_ := hq
        by_cases c3_ : chkI 0 36524 none xs = true ∧ (xs.length : Int) ≤ 41
        · rw [decide_eq_true c3_] at g3_
          have G4 := am_ g3_
          clear g3_
          have hfin : compA p0 n d xs c mode = compF n d c mode p0 (xs.getD 0 0) (xs.drop 1) := by unfold compA; rw [if_pos ⟨c0_, c1_, by omega, c3_.1⟩]
          rw [hfin]
          obtain ⟨FIN, hFIN⟩ : ∃ F, F = compF n d c mode p0 (xs.getD 0 0) (xs.drop 1) := ⟨_, rfl⟩
          rw [← hFIN]
          have HF := am_ (show compF n d c mode p0 (xs.getD (1 - 1) 0) (xs.drop 1) = FIN from hFIN.symm)
          have HPB := am_ (show -1000000000 ≤ p0 ∧ p0 ≤ 1000000000 from by omega)
          have hl1 : 1 ≤ xs.length := by omega
          have hl41 : xs.length ≤ 41 := by omega
          have cl_ : decide ((xs.length : Int) < 1) = false := decide_eq_false (by omega)
          have cm_ : decide (xs.length < 1) = false := decide_eq_false (by omega)
          clear hfin hFIN c0_ c1_ c2_ c3_ hr hq hn 
          go_enter Try.func24, Try.ntmps24
          go_wp2_with (((with_reducible refine gate_dst (N := 6) rfl ?_); refine box_event ?hg (N := 6) ?hd (cs := #[.int .i64 n,.int .i64 d]) (t := 24) ?hr ?_; (case hd => rfl); (case hg => rfl); (case hr => first | (go_simp; done) | (go_simp; rfl))); intro g1 hg w_g1 hbox hb; have n_ := am_ (below_step (by repeat first | (with_reducible first | exact HB.out | apply ba_ | apply bn_ | apply bd_) | exact HB.out) hb); have BKg1 := am_ hbox; have GEg1 := am_ (show w.heap.size ≤ g1 from by rw [hg]; exact below_size (by repeat first | (with_reducible first | exact HB.out | apply ba_ | apply bn_ | apply bd_) | exact HB.out)); clear HB ; have HB := n_; clear n_ hb hbox hg)
          refine (impl_within.calls p0 0 1000000000 true _ G1.out).mono ?_
          rintro e w1_ ⟨rfl, hb0⟩
          have hb := db_ hb0
          clear hb0
          replace BKg1 := am_ (blk_below (blk_below BKg1.out (by repeat first | exact Below.refl _ _ | apply ba_ | apply bn_ | apply bd_)) hb); replace HB := am_ (below_step (by repeat first | (with_reducible first | exact HB.out | apply ba_ | apply bn_ | apply bd_) | exact HB.out) hb); clear hb
          have yg1_0 : w1_.cell? ⟨g1, 0, none⟩ = some (.int .i64 n) := (blk_cell BKg1.out 0).trans rfl; have fg1_0 := blk_frozen BKg1.out 0; have yg1_1 : w1_.cell? ⟨g1, 1, none⟩ = some (.int .i64 d) := (blk_cell BKg1.out 1).trans rfl; have fg1_1 := blk_frozen BKg1.out 1
          go_wp2_with fail
          clear yg1_0 fg1_0 yg1_1 fg1_1
          refine (impl_isInterest.calls kr n d c mode true _ G2.out).mono ?_
          rintro e w2_ ⟨rfl, hb⟩
          replace BKg1 := am_ (blk_below (blk_below BKg1.out (by repeat first | exact Below.refl _ _ | apply ba_ | apply bn_ | apply bd_)) hb); replace HB := am_ (below_step (by repeat first | (with_reducible first | exact HB.out | apply ba_ | apply bn_ | apply bd_) | exact HB.out) hb); clear hb
          go_wp2_with fail
          refine (impl_isRising.calls kq _ _ xs 0 36524 41 true _ (by repeat first | exact (Kd.C_below HR0.out HB.out) | with_reducible refine ca_ ?_ _ | with_reducible refine cn_ ?_ _ | with_reducible refine cd_ ?_) HC0.out G4.out).mono ?_
          rintro e w3_ ⟨rfl, hb0⟩
          have hb := db_ hb0
          clear hb0
          replace BKg1 := am_ (blk_below (blk_below BKg1.out (by repeat first | exact Below.refl _ _ | apply ba_ | apply bn_ | apply bd_)) hb); replace HB := am_ (below_step (by repeat first | (with_reducible first | exact HB.out | apply ba_ | apply bn_ | apply bd_) | exact HB.out) hb); clear hb
          go_wp2
          go_loopw [0, 12] (fun v0 v12 wr => ∃ (i : Nat) (p : Int), v0 = .int .i64 p ∧ v12 = .int .i64 i ∧ Aside0 (1 ≤ i ∧ i ≤ xs.length) ∧ Aside0 (-1000000000 ≤ p ∧ p ≤ 1000000000) ∧ Aside0 (compF n d c mode p (xs.getD (i - 1) 0) (xs.drop i) = FIN) ∧ Aside0 (wr.heap[g1]? = some (.cells #[.int .i64 n, .int .i64 d] 24 (0, 0))) ∧ Aside0 (Below w.heap.size w wr)) (fun _ v12 _ => xs.length - (intOf v12).toNat)
          case atStart => exact ⟨1, p0, rfl, rfl, ⟨Nat.le_refl _, hl1⟩, HPB, HF, BKg1, HB⟩
          case round =>
            clear HF HPB BKg1 HB
            obtain ⟨i, p, rfl, rfl, HI, HPB, HF, BKg1, HB⟩ := hrel
            by_cases hil : i < xs.length
            · have ci : decide (i < xs.length) = true := decide_eq_true hil
              have hi1 := HI.out.1
              obtain ⟨b0, e0⟩ := HA0.out (by omega)
              subst e0
              have hcx := cellsOfD HR0.out (i - 1) (by omega)
              have hcy := cellsOfD HR0.out i hil
              rw [Nat.zero_add] at hcx hcy
              obtain ⟨x, hx⟩ : ∃ x, x = xs.getD (i - 1) 0 := ⟨_, rfl⟩
              obtain ⟨y, hy⟩ : ∃ y, y = xs.getD i 0 := ⟨_, rfl⟩
              rw [← hx] at hcx
              rw [← hy] at hcy
              obtain ⟨AC, hAC⟩ : ∃ F, F = accrueA p n d x y c mode := ⟨_, rfl⟩
              have hrb := accrue_bd p n d x y c mode
              rw [← hAC] at hrb
              obtain ⟨r, so⟩ := AC
              simp only at hrb
              have HAC := am_ hAC.symm
              have hst := compF_at (n := n) (d := d) (c := c) (mode := mode) (p := p) (x := x) hil (show accrueA p n d x (xs.getD i 0) c mode = (r, so) from by rw [← hy]; exact hAC.symm)
              have hfo := HF.out
              rw [← hx] at hfo
              rw [hfo, ← hy] at hst
              have HST := am_ hst
              have HCX := am_ hcx
              have HCY := am_ hcy
              have HBX := am_ (World.block_lt_of_cell? w _ hcx)
              have HBY := am_ (World.block_lt_of_cell? w _ hcy)
              have HY := am_ hy
              have hpb := HPB.out
              have tk : ((i : Int) - 1).toNat = i - 1 := by omega
              have tk2 : (0 : Int) ≤ (i : Int) - 1 := by omega
              have tk3 : (i : Int) - 1 < (xs.length : Int) := by omega
              have tk4 : (i : Int) < (xs.length : Int) := by omega
              have tk5 : (1 : Int) ≤ (i : Int) := by omega
              have tk6 : IntKind.i64.wrap ((i : Int) - 1) = (i : Int) - 1 := IntWalk.i64_in _ (by omega)
              clear hst hfo hAC hx hy hcx hcy
              have hcx := (HB.out.cell HBX.out).trans HCX.out
              have hcy := (HB.out.cell HBY.out).trans HCY.out
              have yg1_0 : wr.cell? ⟨g1, 0, none⟩ = some (.int .i64 n) := (blk_cell BKg1.out 0).trans rfl; have fg1_0 := blk_frozen BKg1.out 0; have yg1_1 : wr.cell? ⟨g1, 1, none⟩ = some (.int .i64 d) := (blk_cell BKg1.out 1).trans rfl; have fg1_1 := blk_frozen BKg1.out 1
              go_upto_region 6 with (fail)
              go_region_held3 (fun w' => w'.cell? ⟨g1, 0, none⟩ = some (.int .i64 n) ∧ w'.cell? ⟨g1, 1, none⟩ = some (.int .i64 d) ∧ w'.cell? ⟨b0, i - 1, none⟩ = some (.int .i64 x) ∧ w'.cell? ⟨b0, i, none⟩ = some (.int .i64 y)) (go_keep)
                ((first
                  | (go_at_call 19; refine (accrueI_c p n d x y c mode _).mono ?_; rw [HAC.out]; rintro e w1_ ⟨rfl, hb⟩; replace BKg1 := am_ (blk_below (blk_below BKg1.out (by repeat first | exact Below.refl _ _ | apply ba_ | apply bn_ | apply bd_)) hb); replace HB := am_ (below_step (by repeat first | (with_reducible first | exact HB.out | apply ba_ | apply bn_ | apply bd_) | exact HB.out) hb); clear hb; clear hcx hcy yg1_0 yg1_1 fg1_0 fg1_1; have hcx := (HB.out.cell HBX.out).trans HCX.out; have hcy := (HB.out.cell HBY.out).trans HCY.out; have yg1_0 : w1_.cell? ⟨g1, 0, none⟩ = some (.int .i64 n) := (blk_cell BKg1.out 0).trans rfl; have fg1_0 := blk_frozen BKg1.out 0; have yg1_1 : w1_.cell? ⟨g1, 1, none⟩ = some (.int .i64 d) := (blk_cell BKg1.out 1).trans rfl; have fg1_1 := blk_frozen BKg1.out 1)))
              clear hcx hcy tk tk2 tk3 tk4 tk5 tk6
              clear yg1_0 fg1_0 yg1_1 fg1_1
              cases so with
              | false =>
                have HFZ := am_ (show FIN = (0, false) from by rw [HST.out, if_neg (fun g => by simp at g)])
                go_wp2
                go_ret2
                exact ⟨by rw [HFZ.out]; rfl, (by repeat first | (with_reducible first | exact HB.out | apply ba_ | apply bn_ | apply bd_) | exact HB.out)⟩
              | true =>
                obtain ⟨q, hq⟩ : ∃ q, q = p + r := ⟨_, rfl⟩
                have hqa := isAmount_eq q
                by_cases cq : -1000000000 ≤ q ∧ q ≤ 1000000000
                · rw [decide_eq_true cq] at hqa
                  have HQA := am_ hqa
                  have hw1 : p + r = q := hq.symm
                  have HFS := am_ (show compF n d c mode q (xs.getD (i + 1 - 1) 0) (xs.drop (i + 1)) = FIN from by rw [HST.out, if_pos ⟨rfl, by rw [← hq]; exact cq⟩, Nat.add_sub_cancel, ← HY.out, hq])
                  clear hqa hq
                  go_wp2_with fail
                  refine (impl_isAmount.calls q true _ HQA.out).mono ?_
                  rintro e w2_ ⟨rfl, hb0⟩
                  have hb := db_ hb0
                  clear hb0
                  replace BKg1 := am_ (blk_below (blk_below BKg1.out (by repeat first | exact Below.refl _ _ | apply ba_ | apply bn_ | apply bd_)) hb); replace HB := am_ (below_step (by repeat first | (with_reducible first | exact HB.out | apply ba_ | apply bn_ | apply bd_) | exact HB.out) hb); clear hb
                  go_wp2
                  go_roundw
                  case rel => exact ⟨i + 1, q, rfl, by go_num, ⟨by omega, hil⟩, ⟨cq⟩, HFS, ⟨(by (with_reducible repeat first | refine kn_ ?_ _ | refine kd_ ?_ | refine ka_ ?_ _); exact BKg1.out)⟩, ⟨(by repeat first | (with_reducible first | exact HB.out | apply ba_ | apply bn_ | apply bd_) | exact HB.out)⟩⟩
                  case measure => simp [intOf]; omega
                · rw [decide_eq_false cq] at hqa
                  have HQA := am_ hqa
                  have hw1 : p + r = q := hq.symm
                  have HFZ := am_ (show FIN = (0, false) from by rw [HST.out, if_neg (fun g => cq (by rw [hq]; exact g.2))])
                  clear hqa hq
                  go_wp2_with fail
                  refine (impl_isAmount.calls q false _ HQA.out).mono ?_
                  rintro e w2_ ⟨rfl, hb0⟩
                  have hb := db_ hb0
                  clear hb0
                  replace BKg1 := am_ (blk_below (blk_below BKg1.out (by repeat first | exact Below.refl _ _ | apply ba_ | apply bn_ | apply bd_)) hb); replace HB := am_ (below_step (by repeat first | (with_reducible first | exact HB.out | apply ba_ | apply bn_ | apply bd_) | exact HB.out) hb); clear hb
                  go_wp2
                  go_ret2
                  exact ⟨by rw [HFZ.out]; rfl, (by repeat first | (with_reducible first | exact HB.out | apply ba_ | apply bn_ | apply bd_) | exact HB.out)⟩
            · obtain rfl : i = xs.length := by have := HI.out; omega
              have ci : decide (xs.length < xs.length) = false := decide_eq_false (by omega)
              have hfe := HF.out
              rw [compF_end] at hfe
              have HFE := am_ hfe
              clear hfe
              go_wp2
              go_ret2
              exact ⟨by rw [← HFE.out]; rfl, HB.out⟩
        · rw [decide_eq_false c3_] at g3_
          have G4 := am_ g3_
          clear g3_
          have hfin : compA p0 n d xs c mode = (0, false) := by unfold compA; rw [if_neg (fun v => c3_ ⟨v.2.2.2, by have := v.2.2.1; omega⟩)]
          rw [hfin]
          clear hfin
          have cl_ : decide ((xs.length : Int) < 1) = false := decide_eq_false (by omega)
          have cm_ : decide (xs.length < 1) = false := decide_eq_false (by omega)
          go_enter Try.func24, Try.ntmps24
          go_wp2_with (((with_reducible refine gate_dst (N := 6) rfl ?_); refine box_event ?hg (N := 6) ?hd (cs := #[.int .i64 n,.int .i64 d]) (t := 24) ?hr ?_; (case hd => rfl); (case hg => rfl); (case hr => first | (go_simp; done) | (go_simp; rfl))); intro g1 hg w_g1 hbox hb; have n_ := am_ (below_step (by repeat first | (with_reducible first | exact HB.out | apply ba_ | apply bn_ | apply bd_) | exact HB.out) hb); have BKg1 := am_ hbox; have GEg1 := am_ (show w.heap.size ≤ g1 from by rw [hg]; exact below_size (by repeat first | (with_reducible first | exact HB.out | apply ba_ | apply bn_ | apply bd_) | exact HB.out)); clear HB ; have HB := n_; clear n_ hb hbox hg)
          refine (impl_within.calls p0 0 1000000000 true _ G1.out).mono ?_
          rintro e w1_ ⟨rfl, hb0⟩
          have hb := db_ hb0
          clear hb0
          replace BKg1 := am_ (blk_below (blk_below BKg1.out (by repeat first | exact Below.refl _ _ | apply ba_ | apply bn_ | apply bd_)) hb); replace HB := am_ (below_step (by repeat first | (with_reducible first | exact HB.out | apply ba_ | apply bn_ | apply bd_) | exact HB.out) hb); clear hb
          have yg1_0 : w1_.cell? ⟨g1, 0, none⟩ = some (.int .i64 n) := (blk_cell BKg1.out 0).trans rfl; have fg1_0 := blk_frozen BKg1.out 0; have yg1_1 : w1_.cell? ⟨g1, 1, none⟩ = some (.int .i64 d) := (blk_cell BKg1.out 1).trans rfl; have fg1_1 := blk_frozen BKg1.out 1
          go_wp2_with fail
          clear yg1_0 fg1_0 yg1_1 fg1_1
          refine (impl_isInterest.calls kr n d c mode true _ G2.out).mono ?_
          rintro e w2_ ⟨rfl, hb⟩
          replace BKg1 := am_ (blk_below (blk_below BKg1.out (by repeat first | exact Below.refl _ _ | apply ba_ | apply bn_ | apply bd_)) hb); replace HB := am_ (below_step (by repeat first | (with_reducible first | exact HB.out | apply ba_ | apply bn_ | apply bd_) | exact HB.out) hb); clear hb
          go_wp2_with fail
          refine (impl_isRising.calls kq _ _ xs 0 36524 41 false _ (by repeat first | exact (Kd.C_below HR0.out HB.out) | with_reducible refine ca_ ?_ _ | with_reducible refine cn_ ?_ _ | with_reducible refine cd_ ?_) HC0.out G4.out).mono ?_
          rintro e w3_ ⟨rfl, hb0⟩
          have hb := db_ hb0
          clear hb0
          replace BKg1 := am_ (blk_below (blk_below BKg1.out (by repeat first | exact Below.refl _ _ | apply ba_ | apply bn_ | apply bd_)) hb); replace HB := am_ (below_step (by repeat first | (with_reducible first | exact HB.out | apply ba_ | apply bn_ | apply bd_) | exact HB.out) hb); clear hb
          go_wp2
          go_ret2
          exact ⟨rfl, (by repeat first | (with_reducible first | exact HB.out | apply ba_ | apply bn_ | apply bd_ | refine below_set ?_ GEg1.out) | exact HB.out)⟩
      · have cb2_ : decide (¬ xs.length < 1) = false := decide_eq_false c2_
        have hfin : compA p0 n d xs c mode = (0, false) := by unfold compA; rw [if_neg (fun v => c2_ (by have := v.2.2.1; omega))]
        rw [hfin]
        clear hfin
        have cl_ : decide ((xs.length : Int) < 1) = true := decide_eq_true (by omega)
        have cm_ : decide (xs.length < 1) = true := decide_eq_true (by omega)
        go_enter Try.func24, Try.ntmps24
        go_wp2_with (((with_reducible refine gate_dst (N := 6) rfl ?_); refine box_event ?hg (N := 6) ?hd (cs := #[.int .i64 n,.int .i64 d]) (t := 24) ?hr ?_; (case hd => rfl); (case hg => rfl); (case hr => first | (go_simp; done) | (go_simp; rfl))); intro g1 hg w_g1 hbox hb; have n_ := am_ (below_step (by repeat first | (with_reducible first | exact HB.out | apply ba_ | apply bn_ | apply bd_) | exact HB.out) hb); have BKg1 := am_ hbox; have GEg1 := am_ (show w.heap.size ≤ g1 from by rw [hg]; exact below_size (by repeat first | (with_reducible first | exact HB.out | apply ba_ | apply bn_ | apply bd_) | exact HB.out)); clear HB ; have HB := n_; clear n_ hb hbox hg)
        refine (impl_within.calls p0 0 1000000000 true _ G1.out).mono ?_
        rintro e w1_ ⟨rfl, hb0⟩
        have hb := db_ hb0
        clear hb0
        replace BKg1 := am_ (blk_below (blk_below BKg1.out (by repeat first | exact Below.refl _ _ | apply ba_ | apply bn_ | apply bd_)) hb); replace HB := am_ (below_step (by repeat first | (with_reducible first | exact HB.out | apply ba_ | apply bn_ | apply bd_) | exact HB.out) hb); clear hb
        have yg1_0 : w1_.cell? ⟨g1, 0, none⟩ = some (.int .i64 n) := (blk_cell BKg1.out 0).trans rfl; have fg1_0 := blk_frozen BKg1.out 0; have yg1_1 : w1_.cell? ⟨g1, 1, none⟩ = some (.int .i64 d) := (blk_cell BKg1.out 1).trans rfl; have fg1_1 := blk_frozen BKg1.out 1
        go_wp2_with fail
        clear yg1_0 fg1_0 yg1_1 fg1_1
        refine (impl_isInterest.calls kr n d c mode true _ G2.out).mono ?_
        rintro e w2_ ⟨rfl, hb⟩
        replace BKg1 := am_ (blk_below (blk_below BKg1.out (by repeat first | exact Below.refl _ _ | apply ba_ | apply bn_ | apply bd_)) hb); replace HB := am_ (below_step (by repeat first | (with_reducible first | exact HB.out | apply ba_ | apply bn_ | apply bd_) | exact HB.out) hb); clear hb
        go_wp2
        go_ret2
        exact ⟨rfl, (by repeat first | (with_reducible first | exact HB.out | apply ba_ | apply bn_ | apply bd_ | refine below_set ?_ GEg1.out) | exact HB.out)⟩
    · rw [decide_eq_false c1_] at g1_
      have G2 := am_ g1_
      clear g1_
      have hfin : compA p0 n d xs c mode = (0, false) := by unfold compA; rw [if_neg (fun v => c1_ v.2.1)]
      rw [hfin]
      clear hfin
      go_enter Try.func24, Try.ntmps24
      go_wp2_with (((with_reducible refine gate_dst (N := 6) rfl ?_); refine box_event ?hg (N := 6) ?hd (cs := #[.int .i64 n,.int .i64 d]) (t := 24) ?hr ?_; (case hd => rfl); (case hg => rfl); (case hr => first | (go_simp; done) | (go_simp; rfl))); intro g1 hg w_g1 hbox hb; have n_ := am_ (below_step (by repeat first | (with_reducible first | exact HB.out | apply ba_ | apply bn_ | apply bd_) | exact HB.out) hb); have BKg1 := am_ hbox; have GEg1 := am_ (show w.heap.size ≤ g1 from by rw [hg]; exact below_size (by repeat first | (with_reducible first | exact HB.out | apply ba_ | apply bn_ | apply bd_) | exact HB.out)); clear HB ; have HB := n_; clear n_ hb hbox hg)
      refine (impl_within.calls p0 0 1000000000 true _ G1.out).mono ?_
      rintro e w1_ ⟨rfl, hb0⟩
      have hb := db_ hb0
      clear hb0
      replace BKg1 := am_ (blk_below (blk_below BKg1.out (by repeat first | exact Below.refl _ _ | apply ba_ | apply bn_ | apply bd_)) hb); replace HB := am_ (below_step (by repeat first | (with_reducible first | exact HB.out | apply ba_ | apply bn_ | apply bd_) | exact HB.out) hb); clear hb
      have yg1_0 : w1_.cell? ⟨g1, 0, none⟩ = some (.int .i64 n) := (blk_cell BKg1.out 0).trans rfl; have fg1_0 := blk_frozen BKg1.out 0; have yg1_1 : w1_.cell? ⟨g1, 1, none⟩ = some (.int .i64 d) := (blk_cell BKg1.out 1).trans rfl; have fg1_1 := blk_frozen BKg1.out 1
      go_wp2_with fail
      clear yg1_0 fg1_0 yg1_1 fg1_1
      refine (impl_isInterest.calls kr n d c mode false _ G2.out).mono ?_
      rintro e w2_ ⟨rfl, hb⟩
      replace BKg1 := am_ (blk_below (blk_below BKg1.out (by repeat first | exact Below.refl _ _ | apply ba_ | apply bn_ | apply bd_)) hb); replace HB := am_ (below_step (by repeat first | (with_reducible first | exact HB.out | apply ba_ | apply bn_ | apply bd_) | exact HB.out) hb); clear hb
      go_wp2
      go_ret2
      exact ⟨rfl, (by repeat first | (with_reducible first | exact HB.out | apply ba_ | apply bn_ | apply bd_ | refine below_set ?_ GEg1.out) | exact HB.out)⟩
  · rw [decide_eq_false c0_] at g0_
    have G1 := am_ g0_
    clear g0_
    have hfin : compA p0 n d xs c mode = (0, false) := by unfold compA; rw [if_neg (fun v => c0_ v.1)]
    rw [hfin]
    clear hfin
    go_enter Try.func24, Try.ntmps24
    go_wp2_with (((with_reducible refine gate_dst (N := 6) rfl ?_); refine box_event ?hg (N := 6) ?hd (cs := #[.int .i64 n,.int .i64 d]) (t := 24) ?hr ?_; (case hd => rfl); (case hg => rfl); (case hr => first | (go_simp; done) | (go_simp; rfl))); intro g1 hg w_g1 hbox hb; have n_ := am_ (below_step (by repeat first | (with_reducible first | exact HB.out | apply ba_ | apply bn_ | apply bd_) | exact HB.out) hb); have BKg1 := am_ hbox; have GEg1 := am_ (show w.heap.size ≤ g1 from by rw [hg]; exact below_size (by repeat first | (with_reducible first | exact HB.out | apply ba_ | apply bn_ | apply bd_) | exact HB.out)); clear HB ; have HB := n_; clear n_ hb hbox hg)
    refine (impl_within.calls p0 0 1000000000 false _ G1.out).mono ?_
    rintro e w1_ ⟨rfl, hb0⟩
    have hb := db_ hb0
    clear hb0
    replace BKg1 := am_ (blk_below (blk_below BKg1.out (by repeat first | exact Below.refl _ _ | apply ba_ | apply bn_ | apply bd_)) hb); replace HB := am_ (below_step (by repeat first | (with_reducible first | exact HB.out | apply ba_ | apply bn_ | apply bd_) | exact HB.out) hb); clear hb
    go_wp2
    go_ret2
    exact ⟨rfl, (by repeat first | (with_reducible first | exact HB.out | apply ba_ | apply bn_ | apply bd_ | refine below_set ?_ GEg1.out) | exact HB.out)⟩
theorem own_ne {α : Type} {k : Kd α} {e base : Nat} {w : World} {ok : Nat → Prop} {v : Value} {xs : List α} (h : k.R e w base ok v xs) {g t : Nat} {cs : Array Value} (hb : w.heap[g]? = some (.cells cs t (0, 0))) (ht : e ≠ t) : some g ≠ v.ownBlock := by
  intro he
  obtain ⟨inner, ho⟩ := Kd.R_own h
  obtain ⟨cells, hc⟩ := own_typed ho g he.symm
  rw [hb] at hc
  injection hc with h1
  injection h1 with _ h2
  exact ht h2.symm
/-- The cursor of the draws, in its box at g: the code that it reads came in, its place is at most B. -/
def Cur (w0 w : World) (g : Nat) (code : List Int) (B : Int) : Prop :=
  w0.heap.size ≤ g ∧ (∀ x ∈ code, 0 ≤ x ∧ x ≤ 255) ∧ ∃ (A : Option Addr) (c : Nat) (p s : Int), w.heap[g]? = some (.cells #[.slice A code.length c, .int .i64 p, .int .u64 s] 108 (0, 0)) ∧ (Kd.int .u8).C w0 A code.length code ∧ 0 ≤ p ∧ p ≤ B
theorem Cur.blk {w0 w : World} {g : Nat} {code : List Int} {B : Int} (h : Cur w0 w g code B) : ∃ cs, w.heap[g]? = some (.cells cs 108 (0, 0)) := by
  obtain ⟨_, _, A, c, p, s, h1, _⟩ := h
  exact ⟨_, h1⟩
theorem Cur.ge {w0 w : World} {g : Nat} {code : List Int} {B : Int} (h : Cur w0 w g code B) : w0.heap.size ≤ g := h.1
theorem Cur.lt {w0 w : World} {g : Nat} {code : List Int} {B : Int} (h : Cur w0 w g code B) : g < w.heap.size := by
  obtain ⟨cs, h1⟩ := h.blk
  exact blk_lt h1
theorem Cur.step {w0 w w1 : World} {g : Nat} {code : List Int} {B B' : Int} (h : Cur w0 w g code B) (hg : w1.heap[g]? = w.heap[g]?) (hb : B ≤ B') : Cur w0 w1 g code B' := by
  obtain ⟨h0, h1, A, c, p, s, h2, h3, h4, h5⟩ := h
  exact ⟨h0, h1, A, c, p, s, by rw [hg]; exact h2, h3, h4, by omega⟩
theorem Cur.below {w0 w w1 : World} {g : Nat} {code : List Int} {B : Int} (h : Cur w0 w g code B) (hb : Below w.heap.size w w1) : Cur w0 w1 g code B := by
  obtain ⟨h0, h1, A, c, p, s, h2, h3⟩ := h
  exact ⟨h0, h1, A, c, p, s, blk_below h2 hb, h3⟩
theorem Cur.drew {w0 w : World} {g : Nat} {code : List Int} {B : Int} (h : Cur w0 w g code B) : Cur w0 w.drew g code B := h
theorem Cur.drewN {w0 w : World} {g : Nat} {code : List Int} {B : Int} (h : Cur w0 w g code B) (n : Nat) : Cur w0 (w.drewN n) g code B := h
theorem Cur.alloc {w0 w : World} {g : Nat} {code : List Int} {B : Int} (h : Cur w0 w g code B) (o : Obj) : Cur w0 (w.alloc o) g code B := h.below (below_alloc (Below.refl _ _) o)
theorem Cur.new {w0 w : World} {A : Option Addr} {c : Nat} {code : List Int} (hb : Below w0.heap.size w0 w) (hc : (Kd.int .u8).C w0 A code.length code) (hx : ∀ x ∈ code, 0 ≤ x ∧ x ≤ 255) : Cur w0 (w.alloc (.cells #[.slice A code.length c, .int .i64 0, .int .u64 0] 108 (0, 0))) w.heap.size code 0 := ⟨below_size hb, hx, A, c, 0, 0, blk_new w _, hc, by decide, by decide⟩
/-- A row of one's own keeps what it holds while the cursor goes on. -/
theorem R_draw {α : Type} {d : Kd α} {e base : Nat} {w0 w w1 : World} {v : Value} {xs : List α} {g : Nat} {code : List Int} {B : Int} {ok : Nat → Prop} (hf : ∀ (w : World) (b : Nat) (p q : Nat → Prop) x cs, d.M w b p x cs → d.M w b q x cs) (h : d.R e w base ok v xs) (hI : Cur w0 w g code B) (ht : e ≠ 108) (hk : KeepBut w w1 g none) : d.R e w1 base (fun _ => True) v xs := by
  obtain ⟨cs, hb⟩ := hI.blk
  have h1 : d.R e w base (fun k => k ≠ g) v xs := R_flat hf h (fun k hk he => own_ne h hb ht (by rw [hk, he]))
  exact Kd.R_mono (Kd.R_keep h1 hk (fun _ h => h)) (fun _ _ => trivial)
theorem R_ne {α : Type} {d : Kd α} {e base : Nat} {w0 w : World} {A : Option Addr} {n c : Nat} {xs : List α} {g : Nat} {code : List Int} {B : Int} {ok : Nat → Prop} (h : d.R e w base ok (.slice A n c) xs) (hI : Cur w0 w g code B) (ht : e ≠ 108) : ∀ ad, A = some ad → 0 < n → ad.block ≠ g := by
  intro ad he hn hg
  obtain ⟨cs, hb⟩ := hI.blk
  subst he
  obtain ⟨e1, _, _⟩ := Kd.R_reads' h
  obtain ⟨b, cap, e2, _⟩ := Kd.R_form h (by omega)
  injection e2 with e2
  injection e2 with e2
  subst e2
  obtain ⟨cells, hc⟩ := R_block h hn
  rw [show b = g from hg, hb] at hc
  injection hc with h1
  injection h1 with _ h2
  exact ht h2.symm
theorem seed_bd (x : Int) : 0 ≤ Go.bits .and .u64 (IntKind.u64.wrap x / 1099511627776) 255 ∧ Go.bits .and .u64 (IntKind.u64.wrap x / 1099511627776) 255 ≤ 255 := by
  have hw : ∀ n : Int, 0 ≤ n → n < 2 ^ 64 → IntKind.u64.wrap n = n := fun n h1 h2 => by
    have e : IntKind.u64.wrap n = n % 18446744073709551616 := by simp [IntKind.wrap, IntKind.bits, IntKind.signed]
    rw [e]; omega
  have e : IntKind.u64.wrap x = x % 18446744073709551616 := by simp [IntKind.wrap, IntKind.bits, IntKind.signed]
  rw [e]
  obtain ⟨y, hy⟩ : ∃ y, y = x % 18446744073709551616 / 1099511627776 := ⟨_, rfl⟩
  have hb : 0 ≤ y ∧ y < 2 ^ 64 := by omega
  rw [← hy]
  have h := Go.bits_mask .u64 64 (by decide) hw 8 (by decide) y hb.1 hb.2
  have h2 : Go.bits .and .u64 y 255 = y % 256 := h
  rw [h2]; omega
theorem wrap_small (v : Int) (h : 0 ≤ v ∧ v ≤ 255) : IntKind.i64.wrap v = v := IntWalk.i64_in _ (by omega)
set_option maxHeartbeats 8000000 in
set_option maxRecDepth 100000 in
theorem next_c (g : Nat) (code : List Int) (B : Int) (w0 w : World) (hI : Cur w0 w g code B) (hB : Below w0.heap.size w0 w) (hb : B ≤ 1000000000000) :
    Calls Try.prog 128 #[.pointer (some ⟨g, 0, none⟩)] w fun e w' => ∃ v, e = .returned (.int .i64 v) ∧ (0 ≤ v ∧ v ≤ 255) ∧ Cur w0 w' g code (B + 1) ∧ Below w0.heap.size w0 w' ∧ KeepBut w w' g none := by
  obtain ⟨hge, hx, A, c, p, s, hg, hc, hp0, hp1⟩ := hI
  have BKg := am_ hg
  have GEg := am_ hge
  have HX := am_ hx
  have HC := am_ hc
  have HB := am_ hB
  have HK := am_ (KeepBut.refl w g none)
  have hbd : p ≤ 1000000000000 := by omega
  have HP := am_ (show p + 1 ≤ B + 1 from by omega)
  clear hg hge hx hc hB hp1
  by_cases cl : p < code.length
  · have c1 : decide (p < (code.length : Int)) = true := decide_eq_true cl
    have c2 : decide (p + 1 ≤ (code.length : Int)) = true := decide_eq_true (by omega)
    obtain ⟨ad, e1, hcx⟩ := Kd.at_int HC.out p hp0 cl
    cases e1
    replace hcx := HB.out.cell (World.block_lt_of_cell? w0 _ hcx) |>.trans hcx
    obtain ⟨x, hxe⟩ : ∃ x, x = rd code p := ⟨_, rfl⟩
    have hxb : 0 ≤ x ∧ x ≤ 255 := by
      rw [hxe, rd, List.getD_eq_getElem?_getD, List.getElem?_eq_getElem (by omega)]
      exact HX.out _ (List.getElem_mem _)
    rw [← hxe] at hcx
    have hwx := wrap_small x hxb
    have HXB := am_ hxb
    have p1 : (0 ≤ p) = True := eq_true hp0
    have p2 : (p < (code.length : Int)) = True := eq_true cl
    clear hxe hxb
    have yg_0 : w.cell? ⟨g, 0, none⟩ = some (.slice (some ad) code.length c) := (blk_cell BKg.out 0).trans rfl; have fg_0 := blk_frozen BKg.out 0; have yg_1 : w.cell? ⟨g, 1, none⟩ = some (.int .i64 p) := (blk_cell BKg.out 1).trans rfl; have fg_1 := blk_frozen BKg.out 1; have yg_2 : w.cell? ⟨g, 2, none⟩ = some (.int .u64 s) := (blk_cell BKg.out 2).trans rfl; have fg_2 := blk_frozen BKg.out 2
    go_enter Try.func128, Try.ntmps128
    go_wp2
    repeat (go_quiet (fail); try go_wp2)
    go_ret
    exact ⟨x, rfl, HXB.out, ⟨GEg.out, HX.out, some ad, c, p + 1, _, (by (with_reducible repeat first | refine kn_ ?_ _ | refine kd_ ?_ | refine ka_ ?_ _); refine blk_put (cs := #[.slice (some ad) code.length c, .int .i64 (p + 1), .int .u64 s]) ?_ 2 _ rfl; (with_reducible repeat first | refine kn_ ?_ _ | refine kd_ ?_ | refine ka_ ?_ _); refine blk_put (cs := #[.slice (some ad) code.length c, .int .i64 p, .int .u64 s]) ?_ 1 _ rfl; (with_reducible repeat first | refine kn_ ?_ _ | refine kd_ ?_ | refine ka_ ?_ _); exact BKg.out), HC.out, by omega, HP.out⟩, (by repeat first | (with_reducible first | exact HB.out | apply ba_ | apply bn_ | apply bd_ | refine below_set ?_ GEg.out) | exact HB.out), by repeat (first | (with_reducible first | exact HK.out | apply KeepBut.set_ | apply keep_drewN | apply keep_drew | apply keep_alloc) | exact HK.out)⟩
  · have c1 : decide (p < (code.length : Int)) = false := decide_eq_false cl
    have c2 : decide (p + 1 ≤ (code.length : Int)) = false := decide_eq_false (by omega)
    have yg_0 : w.cell? ⟨g, 0, none⟩ = some (.slice A code.length c) := (blk_cell BKg.out 0).trans rfl; have fg_0 := blk_frozen BKg.out 0; have yg_1 : w.cell? ⟨g, 1, none⟩ = some (.int .i64 p) := (blk_cell BKg.out 1).trans rfl; have fg_1 := blk_frozen BKg.out 1; have yg_2 : w.cell? ⟨g, 2, none⟩ = some (.int .u64 s) := (blk_cell BKg.out 2).trans rfl; have fg_2 := blk_frozen BKg.out 2
    go_enter Try.func128, Try.ntmps128
    go_wp2
    repeat (go_quiet (fail); try go_wp2)
    go_ret
    refine ⟨_, rfl, ?_, ⟨GEg.out, HX.out, A, c, p + 1, _, (by (with_reducible repeat first | refine kn_ ?_ _ | refine kd_ ?_ | refine ka_ ?_ _); refine blk_put (cs := #[.slice A code.length c, .int .i64 (p + 1), .int .u64 s]) ?_ 2 _ rfl; (with_reducible repeat first | refine kn_ ?_ _ | refine kd_ ?_ | refine ka_ ?_ _); refine blk_put (cs := #[.slice A code.length c, .int .i64 p, .int .u64 s]) ?_ 1 _ rfl; (with_reducible repeat first | refine kn_ ?_ _ | refine kd_ ?_ | refine ka_ ?_ _); exact BKg.out), HC.out, by omega, HP.out⟩, (by repeat first | (with_reducible first | exact HB.out | apply ba_ | apply bn_ | apply bd_ | refine below_set ?_ GEg.out) | exact HB.out), by repeat (first | (with_reducible first | exact HK.out | apply KeepBut.set_ | apply keep_drewN | apply keep_drew | apply keep_alloc) | exact HK.out)⟩
    have h := seed_bd (IntKind.u64.wrap (IntKind.u64.wrap (s * 6364136223846793005)) + 902902)
    rw [wrapId (by omega)]
    exact h
/-- A row of numbers, as it lies. -/
def numsA (ls : List Int) : Array Value := (ls.map (fun x => Value.int .i64 x)).toArray
theorem C_blk {w : World} {b : Nat} {ls : List Int} (h : w.heap[b]? = some (.cells (numsA ls) 3 (0, 0))) {j : Nat} (hj : j < ls.length) : w.cell? ⟨b, j, none⟩ = some (.int .i64 (ls.getD j 0)) := by
  refine (blk_cell h j).trans ?_
  rw [numsA, List.getElem?_toArray, List.getElem?_map, List.getD_eq_getElem?_getD, List.getElem?_eq_getElem hj]
  rfl
theorem blk_ne {w : World} {b g t t' : Nat} {cs cs' : Array Value} (h : w.heap[b]? = some (.cells cs t (0, 0))) (h' : w.heap[g]? = some (.cells cs' t' (0, 0))) (ht : t ≠ t') : b ≠ g := by
  rintro rfl
  rw [h] at h'
  injection h' with h'
  injection h' with _ h'
  exact ht h'
/-- What a draw leaves: the cursor, what lay before, and all but the cursor's block. -/
def Dr (w0 w w' : World) (g : Nat) (code : List Int) (B : Int) : Prop := Cur w0 w' g code B ∧ Below w0.heap.size w0 w' ∧ KeepBut w w' g none
theorem Dr.refl {w0 w : World} {g : Nat} {code : List Int} {B B' : Int} (h : Cur w0 w g code B) (hb : Below w0.heap.size w0 w) (hB : B ≤ B') : Dr w0 w w g code B' := ⟨h.step rfl hB, hb, KeepBut.refl w g none⟩
theorem Dr.trans {w0 w w1 w2 : World} {g : Nat} {code : List Int} {B B' : Int} (h : Dr w0 w w1 g code B) (k : Dr w0 w1 w2 g code B') : Dr w0 w w2 g code B' := ⟨k.1, k.2.1, h.2.2.trans k.2.2 (.inl rfl)⟩
theorem Dr.more {w0 w w1 : World} {g : Nat} {code : List Int} {B B' : Int} (h : Dr w0 w w1 g code B) (hB : B ≤ B') : Dr w0 w w1 g code B' := ⟨h.1.step rfl hB, h.2⟩
set_option maxHeartbeats 8000000 in
set_option maxRecDepth 100000 in
theorem pick_c (n : Int) (hn : n ≤ 200) (g : Nat) (code : List Int) (B : Int) (w0 w : World) (hI : Cur w0 w g code B) (hB : Below w0.heap.size w0 w) (hb : B ≤ 900000000000) :
    Calls Try.prog 115 #[.pointer (some ⟨g, 0, none⟩), .int .i64 n] w fun e w' => ∃ v, e = .returned (.int .i64 v) ∧ (0 ≤ v ∧ (1 ≤ n → v < n)) ∧ Dr w0 w w' g code (B + 1) := by
  by_cases h1 : n ≤ 1
  · have HD := am_ (Dr.refl hI hB (show B ≤ B + 1 by omega))
    have c1 : decide (n ≤ 1) = true := decide_eq_true h1
    clear hI hB
    go_enter Try.func115, Try.ntmps115
    go_wp2
    go_ret
    exact ⟨0, rfl, ⟨by omega, by omega⟩, HD.out⟩
  · have c1 : decide (n ≤ 1) = false := decide_eq_false h1
    have c2 : decide (200 < n) = false := decide_eq_false (by omega)
    have HN := am_ (next_c g code B w0 w hI hB (by omega))
    have hnz : ¬ n = 0 := by omega
    clear hI hB
    go_enter Try.func115, Try.ntmps115
    go_wp2_with fail
    refine HN.out.mono ?_
    rintro e w1 ⟨x, rfl, hx, hc, hb1, hk⟩
    have HD := am_ (show Dr w0 w w1 g code (B + 1) from ⟨hc, hb1, hk⟩)
    have hme : x.tmod n = x % n := Int.tmod_eq_emod_of_nonneg hx.1
    have hm : 0 ≤ x % n ∧ x % n < n := ⟨Int.emod_nonneg _ hnz, Int.emod_lt_of_pos _ (by omega)⟩
    have HM := am_ hm
    have hw : wrap64 (x % n) = x % n := wrapId (by omega)
    have x0 := hx.1
    clear hc hb1 hk hm
    go_wp2
    go_ret
    exact ⟨_, rfl, ⟨HM.out.1, fun _ => HM.out.2⟩, HD.out⟩
set_option maxHeartbeats 8000000 in
set_option maxRecDepth 100000 in
theorem among_c (ls : List Int) (b n cap : Nat) (hn : 1 ≤ n ∧ n ≤ ls.length ∧ n ≤ 200) (g : Nat) (code : List Int) (B : Int) (w0 w : World) (hI : Cur w0 w g code B) (hB : Below w0.heap.size w0 w) (hb : B ≤ 900000000000) (hl : w.heap[b]? = some (.cells (numsA ls) 3 (0, 0))) :
    Calls Try.prog 99 #[.pointer (some ⟨g, 0, none⟩), .slice (some ⟨b, 0, none⟩) n cap] w fun e w' => ∃ v, e = .returned (.int .i64 v) ∧ v ∈ ls ∧ Dr w0 w w' g code (B + 1) := by
  obtain ⟨cs, hcs⟩ := hI.blk
  have hne := blk_ne hl hcs (by decide)
  have HP := am_ (pick_c (n : Int) (by omega) g code B w0 w hI hB hb)
  have HL := am_ hl
  have n1 := hn.1
  have n2 := hn.2.1
  clear hcs hI hB hl hn
  go_enter Try.func99, Try.ntmps99
  go_wp2_with fail
  refine HP.out.mono ?_
  rintro e w1 ⟨v, rfl, ⟨v0, v1⟩, hd⟩
  have HD := am_ hd
  have v2 := v1 (by omega)
  obtain ⟨k, rfl⟩ : ∃ k : Nat, v = k := ⟨v.toNat, by omega⟩
  have hkn : k < ls.length := by omega
  have hy : w1.cell? ⟨b, k, none⟩ = some (.int .i64 (ls.getD k 0)) := C_blk (hd.2.2.blk HL.out hne (by simp)) hkn
  obtain ⟨x, hx⟩ : ∃ x, x = ls.getD k 0 := ⟨_, rfl⟩
  have HX := am_ (show x ∈ ls from by rw [hx, List.getD_eq_getElem?_getD, List.getElem?_eq_getElem hkn]; exact List.getElem_mem hkn)
  rw [← hx] at hy
  have tk : (k : Int).toNat = k := Int.toNat_natCast k
  clear hd hx v1 hkn
  go_wp2
  go_ret
  exact ⟨x, rfl, HX.out, HD.out⟩
theorem Dr.cur {w0 w w1 : World} {g : Nat} {code : List Int} {B : Int} (h : Dr w0 w w1 g code B) : Cur w0 w1 g code B := h.1
theorem Dr.below {w0 w w1 : World} {g : Nat} {code : List Int} {B : Int} (h : Dr w0 w w1 g code B) : Below w0.heap.size w0 w1 := h.2.1
theorem Dr.drew {w0 w w1 : World} {g : Nat} {code : List Int} {B : Int} (h : Dr w0 w w1 g code B) : Dr w0 w w1.drew g code B := ⟨h.1, below_drew1 h.2.1, keep_drew h.2.2⟩
theorem Dr.drewN {w0 w w1 : World} {g : Nat} {code : List Int} {B : Int} (h : Dr w0 w w1 g code B) (n : Nat) : Dr w0 w (w1.drewN n) g code B := ⟨h.1, pw_below_drewN h.2.1 n, keep_drewN h.2.2 n⟩
theorem Dr.alloc {w0 w w1 : World} {g : Nat} {code : List Int} {B : Int} (h : Dr w0 w w1 g code B) (o : Obj) : Dr w0 w (w1.alloc o) g code B := ⟨h.1.alloc o, below_alloc h.2.1 o, keep_alloc h.2.2 o⟩
/-- A row's block is none that lay in w. -/
def Late (w : World) (v : Value) : Prop := ∀ k, v.ownBlock = some k → w.heap.size ≤ k
theorem Late.lit {w w1 : World} {v : Value} (hs : w.heap.size ≤ w1.heap.size) (hn : ∃ b, v.ownBlock = some b ∧ w1.heap.size ≤ b) : Late w v := by
  obtain ⟨b, e, hb⟩ := hn
  intro k hk
  rw [e] at hk
  injection hk with hk
  omega
theorem Late.app {w w1 : World} {v v1 : Value} (h : Late w v) (hs : w.heap.size ≤ w1.heap.size) (hat : v1.ownBlock = v.ownBlock ∨ ∃ b, v1.ownBlock = some b ∧ w1.heap.size ≤ b) : Late w v1 := by
  rcases hat with e | hn
  · intro k hk; exact h k (e ▸ hk)
  · exact Late.lit hs hn
theorem Dr.grown {w0 w w1 w2 : World} {g : Nat} {code : List Int} {B : Int} {v : Value} (h : Dr w0 w w1 g code B) (hg : w1.grownBy w2 v.ownBlock) (hl : Late w v) (hb : Below w0.heap.size w0 w2) (hne : some g ≠ v.ownBlock) : Dr w0 w w2 g code B :=
  ⟨h.1.step (hg.block g h.1.lt hne) (Int.le_refl _), hb, ⟨Nat.le_trans h.2.2.1 hg.size, fun i hi hgi hr => (hg.block i (Nat.lt_of_lt_of_le hi h.2.2.1) (fun e => by have := hl i e.symm; omega)).trans (h.2.2.2 i hi hgi hr)⟩⟩
theorem Dr.lit {w0 w w1 w2 : World} {g : Nat} {code : List Int} {B : Int} (h : Dr w0 w w1 g code B) (hg : w1.grownBy w2 none) (hb : Below w0.heap.size w0 w2) : Dr w0 w w2 g code B :=
  ⟨h.1.step (hg.block g h.1.lt (by simp)) (Int.le_refl _), hb, ⟨Nat.le_trans h.2.2.1 hg.size, fun i hi hgi hr => (hg.block i (Nat.lt_of_lt_of_le hi h.2.2.1) (by simp)).trans (h.2.2.2 i hi hgi hr)⟩⟩
theorem Dr.size {w0 w w1 : World} {g : Nat} {code : List Int} {B : Int} (h : Dr w0 w w1 g code B) : w.heap.size ≤ w1.heap.size := h.2.2.1
/-- A row of one's own behind a draw. -/
theorem R_dr {α : Type} {d : Kd α} {e base : Nat} {w0 w w1 : World} {v : Value} {xs : List α} {g : Nat} {code : List Int} {B B' : Int} (hf : ∀ (w : World) (b : Nat) (p q : Nat → Prop) x cs, d.M w b p x cs → d.M w b q x cs) (h : d.R e w base (fun _ => True) v xs) (hI : Cur w0 w g code B) (ht : e ≠ 108) (hd : Dr w0 w w1 g code B') : d.R e w1 base (fun _ => True) v xs := R_draw hf h hI ht hd.2.2
theorem own_cur {α : Type} {d : Kd α} {e base : Nat} {ok : Nat → Prop} {w0 w : World} {v : Value} {xs : List α} {g : Nat} {code : List Int} {B : Int} (h : d.R e w base ok v xs) (hI : Cur w0 w g code B) (ht : e ≠ 108) : some g ≠ v.ownBlock := by
  obtain ⟨cs, hb⟩ := hI.blk
  exact own_ne h hb ht
theorem Dr.set {w0 w w1 : World} {g : Nat} {code : List Int} {B : Int} (h : Dr w0 w w1 g code B) {q : Nat} (hq : w.heap.size ≤ q) (hb : w0.heap.size ≤ w.heap.size) (hg : g ≠ q) (j : Nat) (v : Value) : Dr w0 w (w1.setCell ⟨q, j, none⟩ v) g code B :=
  ⟨h.1.step (Below.heap_setCell w1 ⟨q, j, none⟩ v g hg) (Int.le_refl _), below_set h.2.1 (Nat.le_trans hb hq), keep_far h.2.2 hq v⟩
theorem Dr.bel {w0 w w1 w2 : World} {g : Nat} {code : List Int} {B : Int} (h : Dr w0 w w1 g code B) (hb : Below w1.heap.size w1 w2) : Dr w0 w w2 g code B :=
  ⟨h.1.below hb, below_step h.2.1 hb, h.2.2.trans (KeepBut.of_below hb g none) (.inl rfl)⟩
end Go.Proofs.Ytacfepaemphdgaa.O
